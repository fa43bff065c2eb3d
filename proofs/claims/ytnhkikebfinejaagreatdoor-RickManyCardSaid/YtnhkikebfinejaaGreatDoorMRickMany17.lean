/- Texts of this claim, laid together. No conditions. -/
import Derived.Test.YtnhkikebfinejaaGreatDoorMRickMany16
import Derived.RegionTactic
import Derived.BigRegion
import Derived.ChangeAlike
set_option linter.unusedVariables false
set_option linter.unusedSimpArgs false
set_option maxRecDepth 100000
set_option maxHeartbeats 16000000
namespace Go.Proofs.YtnhkikebfinejaaGreatDoor.Z
open Go Go.RowKit Go.Proofs.YtnhkikebfinejaaGreatDoorW.PrintWords Go.Proofs.YtnhkikebfinejaaGreatDoorW.PrintLast Go.Proofs.YtnhkikebfinejaaGreatDoorW.PrintMore Go.Proofs.YtnhkikebfinejaaGreatDoor.S Go.Proofs.YtnhkikebfinejaaGreatDoor.X
section
attribute [local go_sem ↓] Go.wp_at_zero Go.wp_at_succ loadKey_eq loadEn_eq storeKey_eq storeEn_eq loadNd_eq storeNd_eq loadMap_eq storeMap_eq loadTab_eq storePg_eq loadRt_eq storeRt_eq
theorem R_head [Inhabited Sanct] {α:Type} {enc:α→List Value} {sz:Nat} {hl:∀ x,(enc x).length=sz} {h1:∀ x u,u∈enc x→u.oneCell'=true} {T:TypeId} {w:World} {base n c:Nat} {A:Option Addr} {xs:List α} (h:(flat enc sz hl h1).R T w base (fun _=>True) (.slice A n c) xs) (h0:0<xs.length) (i:Nat) (hi:i≤n):(flat enc sz hl h1).R T w base (fun _=>True) (.slice A i c) (xs.take i):=by
 obtain ⟨g,cur,rfl,hn,hnc,hcm,hbg,hh,hsz,htk⟩:=R_cells h h0
 refine R_of_cells (cur:=cur) (by rw [List.length_take,← hn,Nat.min_eq_left hi]) (Nat.le_trans hi hnc) hcm hbg hh hsz ?_
 have h3:(cur.toList.take (n*sz)).take (i*sz)=(xs.flatMap enc).take (i*sz):=by rw [htk]
 have hle:i*sz≤n*sz:=Nat.mul_le_mul_right _ hi
 have hlen:((xs.take i).flatMap enc).length=i*sz:=by rw [flatMap_len hl,List.length_take,← hn,Nat.min_eq_left hi]
 rw [List.take_take,Nat.min_eq_left hle] at h3
 rw [h3]
 conv=>lhs;rw [← List.take_append_drop i xs,List.flatMap_append]
 rw [List.take_append_of_le_length (Nat.le_of_eq hlen.symm),List.take_of_length_le (Nat.le_of_eq hlen)]
theorem replK_end [Inhabited Sanct] {w:World} {base:Nat} {A V:Option Addr} {i n c m vc:Nat} {xs ys:List Ky} (hR:kK.R 87 w base (fun _=>True) (.slice A n c) xs) (hn:xs.length=n) (hi:i+1=n) (h1:n≤100) (hY:RKy w V ys) (hm:ys.length=m) (hm1:1≤m) (hm2:m≤2) (hbase:base≤w.heap.size) (ii jj:Int) (hii:ii=(i:Int)) (hjj:jj=(i:Int)+1) :
  Calls Tryz.prog 242 #[.slice A n c,.int .i64 ii,.int .i64 jj,.slice V m vc] w fun e w'=>∃ v',e = .returned v'∧kK.R 87 w' base (fun _=>True) v' (xs.take i++ys)∧Fr w w' (fun k=>(Value.slice A n c).ownBlock=some k):=by
 have hn0:0<xs.length:=by omega
 have hnc:=(Kd.R_reads' hR).2.1
 have hd:=R_head hR hn0 i (by omega)
 have d1:(0≤ii)=True:=eq_true (by omega)
 have d2:(ii≤jj)=True:=eq_true (by omega)
 have d3:(jj≤(c:Int))=True:=eq_true (by omega)
 have d4:(ii == jj)=false:=beq_eq_false_iff_ne.mpr (by omega)
 have d5:(jj == (n:Int))=true:=beq_iff_eq.mpr (by omega)
 have d6:(ii≤(c:Int))=True:=eq_true (by omega)
 have d7:ii.toNat=i:=by omega
 have d8:jj.toNat=i+1:=by omega
 have d9:∀ k:Nat,i+m=k→decide ((k:Int)<(n:Int))=false:=fun k hk=>decide_eq_false (by omega)
 have d11:(c=i)=False:=eq_false (by omega)
 have q1:((xs.take i).length+m)*16≤140737488355328:=by rw [List.length_take];omega
 have q2:(xs.take i++ys).length=i+m:=by rw [List.length_append,List.length_take];omega
 obtain ⟨g,cur,rfl,-,-,-,-,-,-,-⟩:=R_cells hR hn0
 have HD:=Aside0.mk hd
 have HY:=Aside0.mk (And.intro (hY.reads ky_len m hm) (And.intro hbase (And.intro q1 q2)))
 clear hR hn hi h1 hY hm hm1 hm2 hbase hii hjj hn0 hnc hd q1 q2
 go_enter Tryz.func242,Tryz.ntmps242
 go_wp2_with ((with_reducible refine gate_builtin (b:=.append) (xs:=#[.tmp 32,.tmp 33]) rfl ?_);at_builtin;refine hold ?_)
 unfold Hold
 refine Kd.R_append_rows kK (Rr:=fun x (cs:List Value)=>cs=keyC x) (w0:=w) base rfl (.tmp 32) (.tmp 33) 173 87 (.agg zKy) 16 rfl Tryz.underlying173 info_ky rfl (by decide) (by decide) _ (xs.take i) ys V m vc (fun _=>True) (fun _=>False) rfl rfl HD.out HY.out.1 (fun _ _ h=>h) (fun _ hk=>hk.elim) (fun _ _=>trivial) (Below.refl _ _) HY.out.2.1 HY.out.2.2.1 ?_
 intro v9 w9 ho hb hg hat
 obtain ⟨A9,c9,rfl⟩:=Kd.R_slice ho
 obtain ⟨n9,hn9⟩:∃ k,(xs.take i++ys).length=k:=⟨_,rfl⟩
 have d10:=d9 n9 (by rw [← hn9,HY.out.2.2.2])
 have d12:¬ n9<n:=fun hlt=>by have:=of_decide_eq_false d10;exact this (Int.ofNat_lt.2 hlt)
 have d13:decide (n9<n)=false:=decide_eq_false d12
 rw [hn9] at ho ⊢
 have H9:=Aside0.mk (And.intro ho hg)
 clear ho hb hg hat hn9 d9
 go_wp2
 go_ret
 exact ⟨_,rfl,H9.out.1,(Fr.refl w _).grown H9.out.2 (fun k hk=>.inl hk)⟩
theorem replN_end [Inhabited Sanct] {w:World} {base:Nat} {A V:Option Addr} {i n c m vc:Nat} {xs ys:List Nat} (hR:kN.R 3 w base (fun _=>True) (.slice A n c) xs) (hn:xs.length=n) (hi:i+1=n) (h1:n≤100) (hY:RNa w V ys) (hm:ys.length=m) (hm1:1≤m) (hm2:m≤2) (hbase:base≤w.heap.size) (ii jj:Int) (hii:ii=(i:Int)) (hjj:jj=(i:Int)+1) :
  Calls Tryz.prog 244 #[.slice A n c,.int .i64 ii,.int .i64 jj,.slice V m vc] w fun e w'=>∃ v',e = .returned v'∧kN.R 3 w' base (fun _=>True) v' (xs.take i++ys)∧Fr w w' (fun k=>(Value.slice A n c).ownBlock=some k):=by
 have hn0:0<xs.length:=by omega
 have hnc:=(Kd.R_reads' hR).2.1
 have hd:=R_head hR hn0 i (by omega)
 have d1:(0≤ii)=True:=eq_true (by omega)
 have d2:(ii≤jj)=True:=eq_true (by omega)
 have d3:(jj≤(c:Int))=True:=eq_true (by omega)
 have d4:(ii == jj)=false:=beq_eq_false_iff_ne.mpr (by omega)
 have d5:(jj == (n:Int))=true:=beq_iff_eq.mpr (by omega)
 have d6:(ii≤(c:Int))=True:=eq_true (by omega)
 have d7:ii.toNat=i:=by omega
 have d8:jj.toNat=i+1:=by omega
 have d9:∀ k:Nat,i+m=k→decide ((k:Int)<(n:Int))=false:=fun k hk=>decide_eq_false (by omega)
 have d11:(c=i)=False:=eq_false (by omega)
 have q1:((xs.take i).length+m)*8≤140737488355328:=by rw [List.length_take];omega
 have q2:(xs.take i++ys).length=i+m:=by rw [List.length_append,List.length_take];omega
 obtain ⟨g,cur,rfl,-,-,-,-,-,-,-⟩:=R_cells hR hn0
 have HD:=Aside0.mk hd
 have HY:=Aside0.mk (And.intro (hY.reads (fun _=>rfl) m hm) (And.intro hbase (And.intro q1 q2)))
 clear hR hn hi h1 hY hm hm1 hm2 hbase hii hjj hn0 hnc hd q1 q2
 go_enter Tryz.func244,Tryz.ntmps244
 go_wp2_with ((with_reducible refine gate_builtin (b:=.append) (xs:=#[.tmp 32,.tmp 33]) rfl ?_);at_builtin;refine hold ?_)
 unfold Hold
 refine Kd.R_append_rows kN (Rr:=fun x (cs:List Value)=>cs=natC x) (w0:=w) base rfl (.tmp 32) (.tmp 33) 53 3 (.int .i64 0) 8 rfl Tryz.underlying53 info_in rfl (by decide) (by decide) _ (xs.take i) ys V m vc (fun _=>True) (fun _=>False) rfl rfl HD.out HY.out.1 (fun _ _ h=>h) (fun _ hk=>hk.elim) (fun _ _=>trivial) (Below.refl _ _) HY.out.2.1 HY.out.2.2.1 ?_
 intro v9 w9 ho hb hg hat
 obtain ⟨A9,c9,rfl⟩:=Kd.R_slice ho
 obtain ⟨n9,hn9⟩:∃ k,(xs.take i++ys).length=k:=⟨_,rfl⟩
 have d10:=d9 n9 (by rw [← hn9,HY.out.2.2.2])
 have d12:¬ n9<n:=fun hlt=>by have:=of_decide_eq_false d10;exact this (Int.ofNat_lt.2 hlt)
 have d13:decide (n9<n)=false:=decide_eq_false d12
 rw [hn9] at ho ⊢
 have H9:=Aside0.mk (And.intro ho hg)
 clear ho hb hg hat hn9 d9
 go_wp2
 go_ret
 exact ⟨_,rfl,H9.out.1,(Fr.refl w _).grown H9.out.2 (fun k hk=>.inl hk)⟩
end
section
attribute [local go_sem ↓] Go.wp_at_zero Go.wp_at_succ loadKey_eq loadEn_eq storeKey_eq storeEn_eq loadNd_eq storeNd_eq loadMap_eq storeMap_eq loadTab_eq storePg_eq loadRt_eq storeRt_eq
theorem na_len (n:Nat):(natC n).length=1:=rfl
theorem na_one (n:Nat) (u:Value) (h:u∈natC n):u.oneCell'=true:=by
 rcases List.mem_singleton.1 h with rfl;rfl
theorem run_clear0 {P:Program} {t e ty:TypeId} (hu:P.underlying t=some (.slice e)) (A:Option Addr) (c:Nat) (W:World):(Builtin.clear_ #[t] ty #[.slice A 0 c]).run P W = .ok (.tuple #[]) W:=by
 cases A<;>simp [Builtin.clear_,run_underlying hu]
theorem row_parts [Inhabited Sanct] {α:Type} {enc:α→List Value} {sz:Nat} (hl:∀ x,(enc x).length=sz) {cur:List Value} {n i:Nat} {xs:List α} (hn:xs.length=n) (hi:i≤n) (ht:cur.take (n*sz)=xs.flatMap enc) :
  cur.take (i*sz)=(xs.take i).flatMap enc ∧ ∀ (j:Nat) (v:Value),((xs.drop i).flatMap enc)[j]?=some v→cur[i*sz+j]?=some v:=by
 have hle:i*sz≤n*sz:=Nat.mul_le_mul_right _ hi
 have hlen:((xs.take i).flatMap enc).length=i*sz:=by rw [flatMap_len hl,List.length_take,hn,Nat.min_eq_left hi]
 have hsp:xs.flatMap enc=(xs.take i).flatMap enc++(xs.drop i).flatMap enc:=by rw [← List.flatMap_append,List.take_append_drop]
 rw [hsp] at ht
 constructor
 ·have h3:(cur.take (n*sz)).take (i*sz)=((xs.take i).flatMap enc++(xs.drop i).flatMap enc).take (i*sz):=by rw [ht]
  rw [List.take_take,Nat.min_eq_left hle] at h3
  rw [h3,List.take_append_of_le_length (Nat.le_of_eq hlen.symm),List.take_of_length_le (Nat.le_of_eq hlen)]
 ·intro j v hj
  have h3:(cur.take (n*sz))[i*sz+j]?=some v:=by
   rw [ht,List.getElem?_append_right (by rw [hlen];exact Nat.le_add_right _ _),hlen,Nat.add_sub_cancel_left]
   exact hj
  rw [List.getElem?_take] at h3
  split at h3
  ·exact h3
  ·cases h3
theorem replK_same [Inhabited Sanct] {w:World} {base:Nat} {A:Option Addr} {vb vo i n c vc:Nat} {xs:List Ky} {y:Ky} {vs:Array Value} (hR:kK.R 87 w base (fun _=>True) (.slice A n c) xs) (hn:xs.length=n) (hi:i+1<n) (h1:n≤100) (hY:w.heap[vb]?=some (Obj.cells vs 87)) (hyc:∀ (j:Nat) (v:Value),(keyC y)[j]?=some v→vs[vo+j]?=some v) (hvb:(Value.slice A n c).ownBlock≠some vb) (ii jj:Int) (hii:ii=(i:Int)) (hjj:jj=(i:Int)+1) :
  Calls Tryz.prog 242 #[.slice A n c,.int .i64 ii,.int .i64 jj,.slice (some ⟨vb,vo,none⟩) 1 vc] w fun e w'=>∃ v',e = .returned v'∧kK.R 87 w' base (fun _=>True) v' (xs.take i++y :: xs.drop (i+1))∧Fr w w' (fun k=>(Value.slice A n c).ownBlock=some k):=by
 have hn0:0<xs.length:=by omega
 have hnc:=(Kd.R_reads' hR).2.1
 have d1:(0≤ii)=True:=eq_true (by omega)
 have d2:(ii≤jj)=True:=eq_true (by omega)
 have d3:(jj≤(c:Int))=True:=eq_true (by omega)
 have d4:(ii == jj)=false:=beq_eq_false_iff_ne.mpr (by omega)
 have d5:(jj == (n:Int))=false:=beq_eq_false_iff_ne.mpr (by omega)
 have d6:(ii≤(c:Int))=True:=eq_true (by omega)
 have d7:ii.toNat=i:=by omega
 have d8:jj.toNat=i+1:=by omega
 have d9:(c=i)=False:=eq_false (by omega)
 have d10:(c=i+1)=False:=eq_false (by omega)
 have d11:(jj≤(n:Int))=True:=eq_true (by omega)
 have d12:(ii≤(n:Int))=True:=eq_true (by omega)
 have d17:(0≤jj)=True:=eq_true (by omega)
 have d18:(i+1≤c)=True:=eq_true (by omega)
 have d19:(i≤n)=True:=eq_true (by omega)
 have d13:(i+1≤n)=True:=eq_true (by omega)
 have E1:Aside0 (wrap64 (ii+1)=jj):=⟨by rw [wrap64_id (by omega) (by omega)];omega⟩
 have E1p:Aside0 (IntKind.i64.wrap (ii+1)=jj):=⟨by rw [i64_id (by omega) (by omega)];omega⟩
 have E2:Aside0 (wrap64 ((i:Int)+1)=jj):=⟨by rw [wrap64_id (by omega) (by omega)];omega⟩
 have E2p:Aside0 (IntKind.i64.wrap ((i:Int)+1)=jj):=⟨by rw [i64_id (by omega) (by omega)];omega⟩
 obtain ⟨t,ht⟩:∃ t,n-(i+1)=t:=⟨_,rfl⟩
 obtain ⟨tz,htz⟩:∃ z:Int,(t:Int)=z:=⟨_,rfl⟩
 have E3:Aside0 (wrap64 (jj+tz)=(n:Int)):=⟨by rw [wrap64_id (by omega) (by omega)];omega⟩
 have E3p:Aside0 (IntKind.i64.wrap (jj+tz)=(n:Int)):=⟨by rw [i64_id (by omega) (by omega)];omega⟩
 have E4:Aside0 (wrap64 (jj+((n-(i+1):Nat):Int))=(n:Int)):=⟨by rw [wrap64_id (by omega) (by omega)];omega⟩
 have E4p:Aside0 (IntKind.i64.wrap (jj+((n-(i+1):Nat):Int))=(n:Int)):=⟨by rw [i64_id (by omega) (by omega)];omega⟩
 have E5:Aside0 (wrap64 (jj+((n:Int)-((i:Int)+1)))=(n:Int)):=⟨by rw [wrap64_id (by omega) (by omega)];omega⟩
 have E5p:Aside0 (IntKind.i64.wrap (jj+((n:Int)-((i:Int)+1)))=(n:Int)):=⟨by rw [i64_id (by omega) (by omega)];omega⟩
 have d14:decide ((c:Int)<(n:Int))=false:=decide_eq_false (by omega)
 have d14':decide (c<n)=false:=decide_eq_false (by omega)
 have d15:(n≤c)=True:=eq_true (by omega)
 have d16:decide (jj≤jj)=true:=decide_eq_true (by omega)
 have m1:Nat.min 1 (n-i)=1:=Nat.min_eq_left (by omega)
 have m2:Nat.min (n-(i+1)) (n-(i+1))=n-(i+1):=Nat.min_self _
 have m3:(i+1)*2+(n-(i+1))*2≤c*2:=by omega
 have m4:i*2+2=(i+1)*2:=by omega
 have m5:(i+1)*2+(n-(i+1))*2=n*2:=by omega
 have m7:i*2+2≤c*2:=by omega
 have m8:(i+1)*2≤c*2:=by omega
 have m9:n=i+(n-(i+1)+1):=by omega
 have m10:i*2=i*2:=by omega
 have m11:(i+1)*2=(i+1)*2:=by omega
 have m12:i≤n:=by omega
 have m13:i+1≤n:=by omega
 obtain ⟨g,cur,rfl,-,-,hcm,hbg,hh,hsz,htk⟩:=R_cells hR hn0
 have hne:vb≠g:=fun e=>hvb (by simp [Value.ownBlock,e])
 have hT:cur.toList.take (i*2)=(xs.take i).flatMap keyC:=by have h:=(row_parts ky_len hn m12 htk).1;rw [← m10] at h;exact h
 obtain ⟨D,hD⟩:∃ D,(xs.drop (i+1)).flatMap keyC=D:=⟨_,rfl⟩
 have hDl:D.length=(n-(i+1))*2:=by rw [← hD,flatMap_len ky_len,List.length_drop,hn]
 have hsrc:∀ (j:Nat) (v:Value),D[j]?=some v→cur.toList[(i+1)*2+j]?=some v:=by
  intro j v hj
  rw [← hD] at hj
  rw [m11]
  exact (row_parts ky_len hn m13 htk).2 j v hj
 have hsE:(Tryz.prog.info? 87).map (·.size)=some 2:=key_size
 obtain ⟨cur1,hc1⟩:∃ C,(splice cur.toList (i*2) (keyC y)).toArray=C:=⟨_,rfl⟩
 have hs1:cur1.size=c*2:=by rw [← hc1,List.size_toArray,splice_len (by rw [ky_len y,Array.length_toList,hsz];exact m7),Array.length_toList,hsz]
 obtain ⟨W1,hW1⟩:∃ W,w.drew.setCells g (i*2) (keyC y)=W:=⟨_,rfl⟩
 have hW1r:W1=w.drew.setRow g cur1:=by rw [← hW1,← hc1];exact setCells_row g _ _ _ _ _ _ hh (by rw [ky_len y,hsz];exact m7)
 have hg1:W1.heap[g]?=some (Obj.cells cur1 87):=by rw [hW1r];exact setRow_heap _ _ _ _ _ _ hh
 have hcp1:∀ ty,(Builtin.copy_ #[173,173] ty #[.slice (some ⟨g,i*2,none⟩) (n-i) (c-i),.slice (some ⟨vb,vo,none⟩) 1 vc]).run Tryz.prog w.drew = .ok (goInt 1) W1:=fun ty=>by
  have:=run_copy_sz (P:=Tryz.prog) w.drew 173 173 ty 87 g (i*2) (n-i) (c-i) ⟨vb,vo,none⟩ 1 vc (keyC y) 2 Tryz.underlying173 hsE (by rw [m1];exact ky_len y)
   (fun j v hj=>by rw [add_none,cell_of_row w.drew vb _ _ _ _ hY];exact hyc j v hj)
   (fun j hj=>by rw [cell_of_row w.drew g _ _ _ _ hh,Array.getElem?_eq_getElem (by rw [hsz];rw [ky_len y] at hj;exact Nat.lt_of_lt_of_le (Nat.add_lt_add_left hj _) m7)];rfl)
   (fun j hj=>blk_frozen (w:=w.drew) hh _) (ky_one y)
  rw [m1,hW1] at this
  exact this
 have hsrc1:∀ (j:Nat) (v:Value),D[j]?=some v→cur1.toList[(i+1)*2+j]?=some v:=by
  intro j v hj
  have hjl:=(List.getElem?_eq_some_iff.1 hj).1
  rw [← hc1,← m4]
  show (splice cur.toList (i*2) (keyC y))[i*2+2+j]?=some v
  unfold splice
  have hl:(cur.toList.take (i*2)++keyC y).length=i*2+2:=by rw [List.length_append,List.length_take,ky_len y,Array.length_toList,hsz,Nat.min_eq_left (Nat.le_trans (Nat.le_add_right _ _) m7)]
  rw [← List.append_assoc,List.getElem?_append_right (by rw [hl];exact Nat.le_add_right _ _),hl,Nat.add_sub_cancel_left,List.getElem?_drop,ky_len y,m4]
  exact hsrc j v hj
 obtain ⟨cur2,hc2⟩:∃ C,(splice cur1.toList ((i+1)*2) D).toArray=C:=⟨_,rfl⟩
 have hs2:cur2.size=c*2:=by rw [← hc2,List.size_toArray,splice_len (by rw [hDl,Array.length_toList,hs1];exact m3),Array.length_toList,hs1]
 obtain ⟨W2,hW2⟩:∃ W,W1.drew.setCells g ((i+1)*2) D=W:=⟨_,rfl⟩
 have hW2r:W2=W1.drew.setRow g cur2:=by rw [← hW2,← hc2];exact setCells_row g _ _ _ _ _ _ hg1 (by rw [hDl,hs1];exact m3)
 have hcp2:∀ ty,(Builtin.copy_ #[173,173] ty #[.slice (some ⟨g,(i+1)*2,none⟩) (n-(i+1)) (c-(i+1)),.slice (some ⟨g,(i+1)*2,none⟩) (n-(i+1)) (c-(i+1))]).run Tryz.prog W1.drew = .ok (goInt ((n-(i+1):Nat):Int)) W2:=fun ty=>by
  have:=run_copy_sz (P:=Tryz.prog) W1.drew 173 173 ty 87 g ((i+1)*2) (n-(i+1)) (c-(i+1)) ⟨g,(i+1)*2,none⟩ (n-(i+1)) (c-(i+1)) D 2 Tryz.underlying173 hsE (by rw [hDl,m2])
   (fun j v hj=>by rw [add_none];rw [cell_of_row W1.drew g _ _ _ _ hg1];simpa using hsrc1 j v hj)
   (fun j hj=>by rw [cell_of_row W1.drew g _ _ _ _ hg1,Array.getElem?_eq_getElem (by rw [hs1];rw [hDl] at hj;exact Nat.lt_of_lt_of_le (Nat.add_lt_add_left hj _) m3)];rfl)
   (fun j hj=>blk_frozen (w:=W1.drew) hg1 _) (by rw [← hD];exact flat_one ky_one _)
  rw [m2,hW2] at this
  exact this
 have HFIN:Aside0 (kK.R 87 W2 base (fun _=>True) (.slice (some ⟨g,0,none⟩) n c) (xs.take i++y :: xs.drop (i+1))∧Fr w W2 (fun k=>(Value.slice (some ⟨g,0,none⟩) n c).ownBlock=some k)):=⟨by
  refine ⟨R_of_cells (cur:=cur2) ?_ hnc hcm hbg (by rw [hW2r];exact setRow_heap _ _ _ _ _ _ hg1) hs2 ?_,?_⟩
  ·rw [List.length_append,List.length_cons,List.length_take,List.length_drop,hn,Nat.min_eq_left m12];exact m9
  ·have:=splice3 (cur:=cur.toList) (a:=i*2) (b:=(i+1)*2) (X:=keyC y) (D:=D) ((congrArg (i*2 + ·) (ky_len y)).trans m4) (by rw [Array.length_toList,hsz];exact m8)
   rw [hDl,m5] at this
   rw [← hc2,← hc1]
   show (splice (splice cur.toList (i*2) (keyC y)) ((i+1)*2) D).take (n*2)=_
   rw [this,hT,← hD,List.flatMap_append,List.flatMap_cons,List.append_assoc]
  ·rw [hW2r,hW1r]
   exact Fr.setRow (S:=fun k=>(Value.slice (some ⟨g,0,none⟩) n c).ownBlock=some k) (Fr.drew (Fr.setRow (S:=fun k=>(Value.slice (some ⟨g,0,none⟩) n c).ownBlock=some k) ((Fr.refl w _).drew) (.inl rfl) _)) (.inl rfl) _⟩
 have e1:=E1.out
 have e1':=E1p.out
 have e2:=E2.out
 have e2':=E2p.out
 have e3:=E3.out
 have e3':=E3p.out
 have e4:=E4.out
 have e4':=E4p.out
 have e5:=E5.out
 have e5':=E5p.out
 have hcl:=fun (A:Option Addr) (c:Nat) (W:World)=>run_clear0 (P:=Tryz.prog) (ty:=0) Tryz.underlying173 A c W
 clear hii hjj ht htz E4 E4p E5 E5p E1 E1p E2 E2p E3 E3p hn0 hR m1 m2 m3 m4 m5 m7 m8 m9 m10 m11 m12 m13 hT hD hDl hsrc hsE hc1 hs1 hW1 hW1r hg1 hsrc1 hc2 hs2 hW2 hW2r hh hsz htk hcm hbg hne hY hyc hvb hn
 go_enter Tryz.func242,Tryz.ntmps242
 go_wp2
 go_region
 go_wp2_with (at_builtin;refine wpList_copy_runI _ rfl _ _ 173 173 rfl _ _ rfl rfl (hcp1 _) ?_)
 go_region_held3 (fun w'=>True) (trivial)
  ((refine step_copy_runI rfl (.tmp 103) (.tmp 106) 173 173 rfl _ _ rfl rfl (hcp2 _) ?_))
 by_cases hcn:c=n
 ·go_wp2
  go_ret
  exact ⟨_,rfl,HFIN.out.1,HFIN.out.2⟩
 ·go_wp2
  go_ret
  exact ⟨_,rfl,HFIN.out.1,HFIN.out.2⟩
theorem replN_same [Inhabited Sanct] {w:World} {base:Nat} {A:Option Addr} {vb vo i n c vc:Nat} {xs:List Nat} {y:Nat} {vs:Array Value} (hR:kN.R 3 w base (fun _=>True) (.slice A n c) xs) (hn:xs.length=n) (hi:i+1<n) (h1:n≤100) (hY:w.heap[vb]?=some (Obj.cells vs 3)) (hyc:∀ (j:Nat) (v:Value),(natC y)[j]?=some v→vs[vo+j]?=some v) (hvb:(Value.slice A n c).ownBlock≠some vb) (ii jj:Int) (hii:ii=(i:Int)) (hjj:jj=(i:Int)+1) :
  Calls Tryz.prog 244 #[.slice A n c,.int .i64 ii,.int .i64 jj,.slice (some ⟨vb,vo,none⟩) 1 vc] w fun e w'=>∃ v',e = .returned v'∧kN.R 3 w' base (fun _=>True) v' (xs.take i++y :: xs.drop (i+1))∧Fr w w' (fun k=>(Value.slice A n c).ownBlock=some k):=by
 have hn0:0<xs.length:=by omega
 have hnc:=(Kd.R_reads' hR).2.1
 have d1:(0≤ii)=True:=eq_true (by omega)
 have d2:(ii≤jj)=True:=eq_true (by omega)
 have d3:(jj≤(c:Int))=True:=eq_true (by omega)
 have d4:(ii == jj)=false:=beq_eq_false_iff_ne.mpr (by omega)
 have d5:(jj == (n:Int))=false:=beq_eq_false_iff_ne.mpr (by omega)
 have d6:(ii≤(c:Int))=True:=eq_true (by omega)
 have d7:ii.toNat=i:=by omega
 have d8:jj.toNat=i+1:=by omega
 have d9:(c=i)=False:=eq_false (by omega)
 have d10:(c=i+1)=False:=eq_false (by omega)
 have d11:(jj≤(n:Int))=True:=eq_true (by omega)
 have d12:(ii≤(n:Int))=True:=eq_true (by omega)
 have d17:(0≤jj)=True:=eq_true (by omega)
 have d18:(i+1≤c)=True:=eq_true (by omega)
 have d19:(i≤n)=True:=eq_true (by omega)
 have d13:(i+1≤n)=True:=eq_true (by omega)
 have E1:Aside0 (wrap64 (ii+1)=jj):=⟨by rw [wrap64_id (by omega) (by omega)];omega⟩
 have E1p:Aside0 (IntKind.i64.wrap (ii+1)=jj):=⟨by rw [i64_id (by omega) (by omega)];omega⟩
 have E2:Aside0 (wrap64 ((i:Int)+1)=jj):=⟨by rw [wrap64_id (by omega) (by omega)];omega⟩
 have E2p:Aside0 (IntKind.i64.wrap ((i:Int)+1)=jj):=⟨by rw [i64_id (by omega) (by omega)];omega⟩
 obtain ⟨t,ht⟩:∃ t,n-(i+1)=t:=⟨_,rfl⟩
 obtain ⟨tz,htz⟩:∃ z:Int,(t:Int)=z:=⟨_,rfl⟩
 have E3:Aside0 (wrap64 (jj+tz)=(n:Int)):=⟨by rw [wrap64_id (by omega) (by omega)];omega⟩
 have E3p:Aside0 (IntKind.i64.wrap (jj+tz)=(n:Int)):=⟨by rw [i64_id (by omega) (by omega)];omega⟩
 have E4:Aside0 (wrap64 (jj+((n-(i+1):Nat):Int))=(n:Int)):=⟨by rw [wrap64_id (by omega) (by omega)];omega⟩
 have E4p:Aside0 (IntKind.i64.wrap (jj+((n-(i+1):Nat):Int))=(n:Int)):=⟨by rw [i64_id (by omega) (by omega)];omega⟩
 have E5:Aside0 (wrap64 (jj+((n:Int)-((i:Int)+1)))=(n:Int)):=⟨by rw [wrap64_id (by omega) (by omega)];omega⟩
 have E5p:Aside0 (IntKind.i64.wrap (jj+((n:Int)-((i:Int)+1)))=(n:Int)):=⟨by rw [i64_id (by omega) (by omega)];omega⟩
 have d14:decide ((c:Int)<(n:Int))=false:=decide_eq_false (by omega)
 have d14':decide (c<n)=false:=decide_eq_false (by omega)
 have d15:(n≤c)=True:=eq_true (by omega)
 have d16:decide (jj≤jj)=true:=decide_eq_true (by omega)
 have m1:Nat.min 1 (n-i)=1:=Nat.min_eq_left (by omega)
 have m2:Nat.min (n-(i+1)) (n-(i+1))=n-(i+1):=Nat.min_self _
 have m3:(i+1)+(n-(i+1))*1≤c*1:=by omega
 have m4:i+1=(i+1):=by omega
 have m5:(i+1)+(n-(i+1))*1=n*1:=by omega
 have m7:i+1≤c*1:=by omega
 have m8:(i+1)≤c*1:=by omega
 have m9:n=i+(n-(i+1)+1):=by omega
 have m10:i=i*1:=by omega
 have m11:(i+1)=(i+1)*1:=by omega
 have m12:i≤n:=by omega
 have m13:i+1≤n:=by omega
 obtain ⟨g,cur,rfl,-,-,hcm,hbg,hh,hsz,htk⟩:=R_cells hR hn0
 have hne:vb≠g:=fun e=>hvb (by simp [Value.ownBlock,e])
 have hT:cur.toList.take (i)=(xs.take i).flatMap natC:=by have h:=(row_parts na_len hn m12 htk).1;rw [← m10] at h;exact h
 obtain ⟨D,hD⟩:∃ D,(xs.drop (i+1)).flatMap natC=D:=⟨_,rfl⟩
 have hDl:D.length=(n-(i+1))*1:=by rw [← hD,flatMap_len na_len,List.length_drop,hn]
 have hsrc:∀ (j:Nat) (v:Value),D[j]?=some v→cur.toList[(i+1)+j]?=some v:=by
  intro j v hj
  rw [← hD] at hj
  rw [m11]
  exact (row_parts na_len hn m13 htk).2 j v hj
 have hsE:(Tryz.prog.info? 3).map (·.size)=some 1:=(by kernel_rfl)
 obtain ⟨cur1,hc1⟩:∃ C,(splice cur.toList (i) (natC y)).toArray=C:=⟨_,rfl⟩
 have hs1:cur1.size=c*1:=by rw [← hc1,List.size_toArray,splice_len (by rw [na_len y,Array.length_toList,hsz];exact m7),Array.length_toList,hsz]
 obtain ⟨W1,hW1⟩:∃ W,w.drew.setCells g (i) (natC y)=W:=⟨_,rfl⟩
 have hW1r:W1=w.drew.setRow g cur1:=by rw [← hW1,← hc1];exact setCells_row g _ _ _ _ _ _ hh (by rw [na_len y,hsz];exact m7)
 have hg1:W1.heap[g]?=some (Obj.cells cur1 3):=by rw [hW1r];exact setRow_heap _ _ _ _ _ _ hh
 have hcp1:∀ ty,(Builtin.copy_ #[53,53] ty #[.slice (some ⟨g,i,none⟩) (n-i) (c-i),.slice (some ⟨vb,vo,none⟩) 1 vc]).run Tryz.prog w.drew = .ok (goInt 1) W1:=fun ty=>by
  have:=run_copy_sz (P:=Tryz.prog) w.drew 53 53 ty 3 g (i) (n-i) (c-i) ⟨vb,vo,none⟩ 1 vc (natC y) 1 Tryz.underlying53 hsE (by rw [m1];exact na_len y)
   (fun j v hj=>by rw [add_none,cell_of_row w.drew vb _ _ _ _ hY];exact hyc j v hj)
   (fun j hj=>by rw [cell_of_row w.drew g _ _ _ _ hh,Array.getElem?_eq_getElem (by rw [hsz];rw [na_len y] at hj;exact Nat.lt_of_lt_of_le (Nat.add_lt_add_left hj _) m7)];rfl)
   (fun j hj=>blk_frozen (w:=w.drew) hh _) (na_one y)
  rw [m1,hW1] at this
  exact this
 have hsrc1:∀ (j:Nat) (v:Value),D[j]?=some v→cur1.toList[(i+1)+j]?=some v:=by
  intro j v hj
  have hjl:=(List.getElem?_eq_some_iff.1 hj).1
  rw [← hc1,← m4]
  show (splice cur.toList (i) (natC y))[i+1+j]?=some v
  unfold splice
  have hl:(cur.toList.take (i)++natC y).length=i+1:=by rw [List.length_append,List.length_take,na_len y,Array.length_toList,hsz,Nat.min_eq_left (Nat.le_trans (Nat.le_add_right _ _) m7)]
  rw [← List.append_assoc,List.getElem?_append_right (by rw [hl];exact Nat.le_add_right _ _),hl,Nat.add_sub_cancel_left,List.getElem?_drop,na_len y,m4]
  exact hsrc j v hj
 obtain ⟨cur2,hc2⟩:∃ C,(splice cur1.toList ((i+1)) D).toArray=C:=⟨_,rfl⟩
 have hs2:cur2.size=c*1:=by rw [← hc2,List.size_toArray,splice_len (by rw [hDl,Array.length_toList,hs1];exact m3),Array.length_toList,hs1]
 obtain ⟨W2,hW2⟩:∃ W,W1.drew.setCells g ((i+1)) D=W:=⟨_,rfl⟩
 have hW2r:W2=W1.drew.setRow g cur2:=by rw [← hW2,← hc2];exact setCells_row g _ _ _ _ _ _ hg1 (by rw [hDl,hs1];exact m3)
 have hcp2:∀ ty,(Builtin.copy_ #[53,53] ty #[.slice (some ⟨g,(i+1),none⟩) (n-(i+1)) (c-(i+1)),.slice (some ⟨g,(i+1),none⟩) (n-(i+1)) (c-(i+1))]).run Tryz.prog W1.drew = .ok (goInt ((n-(i+1):Nat):Int)) W2:=fun ty=>by
  have:=run_copy_sz (P:=Tryz.prog) W1.drew 53 53 ty 3 g ((i+1)) (n-(i+1)) (c-(i+1)) ⟨g,(i+1),none⟩ (n-(i+1)) (c-(i+1)) D 1 Tryz.underlying53 hsE (by rw [hDl,m2])
   (fun j v hj=>by rw [add_none];rw [cell_of_row W1.drew g _ _ _ _ hg1];simpa using hsrc1 j v hj)
   (fun j hj=>by rw [cell_of_row W1.drew g _ _ _ _ hg1,Array.getElem?_eq_getElem (by rw [hs1];rw [hDl] at hj;exact Nat.lt_of_lt_of_le (Nat.add_lt_add_left hj _) m3)];rfl)
   (fun j hj=>blk_frozen (w:=W1.drew) hg1 _) (by rw [← hD];exact flat_one na_one _)
  rw [m2,hW2] at this
  exact this
 have HFIN:Aside0 (kN.R 3 W2 base (fun _=>True) (.slice (some ⟨g,0,none⟩) n c) (xs.take i++y :: xs.drop (i+1))∧Fr w W2 (fun k=>(Value.slice (some ⟨g,0,none⟩) n c).ownBlock=some k)):=⟨by
  refine ⟨R_of_cells (cur:=cur2) ?_ hnc hcm hbg (by rw [hW2r];exact setRow_heap _ _ _ _ _ _ hg1) hs2 ?_,?_⟩
  ·rw [List.length_append,List.length_cons,List.length_take,List.length_drop,hn,Nat.min_eq_left m12];exact m9
  ·have:=splice3 (cur:=cur.toList) (a:=i) (b:=(i+1)) (X:=natC y) (D:=D) ((congrArg (i + ·) (na_len y)).trans m4) (by rw [Array.length_toList,hsz];exact m8)
   rw [hDl,m5] at this
   rw [← hc2,← hc1]
   show (splice (splice cur.toList (i) (natC y)) ((i+1)) D).take (n*1)=_
   rw [this,hT,← hD,List.flatMap_append,List.flatMap_cons,List.append_assoc]
  ·rw [hW2r,hW1r]
   exact Fr.setRow (S:=fun k=>(Value.slice (some ⟨g,0,none⟩) n c).ownBlock=some k) (Fr.drew (Fr.setRow (S:=fun k=>(Value.slice (some ⟨g,0,none⟩) n c).ownBlock=some k) ((Fr.refl w _).drew) (.inl rfl) _)) (.inl rfl) _⟩
 have e1:=E1.out
 have e1':=E1p.out
 have e2:=E2.out
 have e2':=E2p.out
 have e3:=E3.out
 have e3':=E3p.out
 have e4:=E4.out
 have e4':=E4p.out
 have e5:=E5.out
 have e5':=E5p.out
 have hcl:=fun (A:Option Addr) (c:Nat) (W:World)=>run_clear0 (P:=Tryz.prog) (ty:=0) Tryz.underlying53 A c W
 clear hii hjj ht htz E4 E4p E5 E5p E1 E1p E2 E2p E3 E3p hn0 hR m1 m2 m3 m4 m5 m7 m8 m9 m10 m11 m12 m13 hT hD hDl hsrc hsE hc1 hs1 hW1 hW1r hg1 hsrc1 hc2 hs2 hW2 hW2r hh hsz htk hcm hbg hne hY hyc hvb hn
 go_enter Tryz.func244,Tryz.ntmps244
 go_wp2
 go_region
 go_wp2_with (at_builtin;refine wpList_copy_runI _ rfl _ _ 53 53 rfl _ _ rfl rfl (hcp1 _) ?_)
 go_region_held3 (fun w'=>True) (trivial)
  ((refine step_copy_runI rfl (.tmp 103) (.tmp 106) 53 53 rfl _ _ rfl rfl (hcp2 _) ?_))
 by_cases hcn:c=n
 ·go_wp2
  go_ret
  exact ⟨_,rfl,HFIN.out.1,HFIN.out.2⟩
 ·go_wp2
  go_ret
  exact ⟨_,rfl,HFIN.out.1,HFIN.out.2⟩
end
section
attribute [local go_sem ↓] Go.wp_at_zero Go.wp_at_succ loadKey_eq loadEn_eq storeKey_eq storeEn_eq loadNd_eq storeNd_eq loadMap_eq storeMap_eq loadTab_eq storePg_eq loadRt_eq storeRt_eq
theorem replK_shift [Inhabited Sanct] {w:World} {base:Nat} {A:Option Addr} {vb vo i n c vc:Nat} {xs ys:List Ky} {vs:Array Value} (hR:kK.R 87 w base (fun _=>True) (.slice A n c) xs) (hn:xs.length=n) (hi:i+1<n) (h1:n≤100) (hnc1:n+1≤c) (hY:w.heap[vb]?=some (Obj.cells vs 87)) (hvz:vs.size≠0) (hys:ys.length=2) (hyc:∀ (j:Nat) (v:Value),(ys.flatMap keyC)[j]?=some v→vs[vo+j]?=some v) (hvb:(Value.slice A n c).ownBlock≠some vb) (ii jj:Int) (hii:ii=(i:Int)) (hjj:jj=(i:Int)+1) :
  Calls Tryz.prog 242 #[.slice A n c,.int .i64 ii,.int .i64 jj,.slice (some ⟨vb,vo,none⟩) 2 vc] w fun e w'=>∃ v',e = .returned v'∧kK.R 87 w' base (fun _=>True) v' (xs.take i++ys++xs.drop (i+1))∧Fr w w' (fun k=>(Value.slice A n c).ownBlock=some k):=by
 have hn0:0<xs.length:=by omega
 have hnc:=(Kd.R_reads' hR).2.1
 have d1:(0≤ii)=True:=eq_true (by omega)
 have d2:(ii≤jj)=True:=eq_true (by omega)
 have d3:(jj≤(c:Int))=True:=eq_true (by omega)
 have d4:(ii == jj)=false:=beq_eq_false_iff_ne.mpr (by omega)
 have d5:(jj == (n:Int))=false:=beq_eq_false_iff_ne.mpr (by omega)
 have d6:(ii≤(c:Int))=True:=eq_true (by omega)
 have d7:ii.toNat=i:=by omega
 have d8:jj.toNat=i+1:=by omega
 have d9:(c=i)=False:=eq_false (by omega)
 have d10:(c=i+1)=False:=eq_false (by omega)
 have d11:(jj≤(n:Int))=True:=eq_true (by omega)
 have d12:(ii≤(n:Int))=True:=eq_true (by omega)
 have d17:(0≤jj)=True:=eq_true (by omega)
 have d18:(i+1≤c)=True:=eq_true (by omega)
 have d19:(i≤n)=True:=eq_true (by omega)
 have d13:(i+1≤n)=True:=eq_true (by omega)
 obtain ⟨i2,hi2⟩:∃ z:Int,ii+2=z:=⟨_,rfl⟩
 obtain ⟨n1,hn1⟩:∃ z:Int,(n:Int)+1=z:=⟨_,rfl⟩
 have E1:Aside0 (wrap64 (ii+2)=i2):=⟨by rw [wrap64_id (by omega) (by omega)];omega⟩
 have E1p:Aside0 (IntKind.i64.wrap (ii+2)=i2):=⟨by rw [i64_id (by omega) (by omega)];omega⟩
 have E2:Aside0 (wrap64 ((i:Int)+2)=i2):=⟨by rw [wrap64_id (by omega) (by omega)];omega⟩
 have E2p:Aside0 (IntKind.i64.wrap ((i:Int)+2)=i2):=⟨by rw [i64_id (by omega) (by omega)];omega⟩
 have E4:Aside0 (wrap64 (i2+((n-(i+1):Nat):Int))=n1):=⟨by rw [wrap64_id (by omega) (by omega)];omega⟩
 have E4p:Aside0 (IntKind.i64.wrap (i2+((n-(i+1):Nat):Int))=n1):=⟨by rw [i64_id (by omega) (by omega)];omega⟩
 have E5:Aside0 (wrap64 (i2+((n:Int)-((i:Int)+1)))=n1):=⟨by rw [wrap64_id (by omega) (by omega)];omega⟩
 have E5p:Aside0 (IntKind.i64.wrap (i2+((n:Int)-((i:Int)+1)))=n1):=⟨by rw [i64_id (by omega) (by omega)];omega⟩
 have d14:decide ((c:Int)<n1)=false:=decide_eq_false (by omega)
 have d15:(n1≤(c:Int))=True:=eq_true (by omega)
 have d16:decide (i2≤jj)=false:=decide_eq_false (by omega)
 have d20:(0≤n1)=True:=eq_true (by omega)
 have d21:n1.toNat=n+1:=by omega
 have d22:(0≤i2)=True:=eq_true (by omega)
 have d23:i2.toNat=i+2:=by omega
 have d24:(i2≤(n:Int)+1)=True:=eq_true (by omega)
 have d25:(i2≤n1)=True:=eq_true (by omega)
 have d26:(ii≤n1)=True:=eq_true (by omega)
 have d27:(ii≤(n:Int)+1)=True:=eq_true (by omega)
 have d28:(i2≤(c:Int))=True:=eq_true (by omega)
 have d29:(c=i+2)=False:=eq_false (by omega)
 have m1:Nat.min (n-(i+1)) (n-(i+1))=n-(i+1):=Nat.min_self _
 have m2:Nat.min 2 (n+1-i)=2:=Nat.min_eq_left (by omega)
 have m3:(i+2)*2+(n-(i+1))*2≤c*2:=by omega
 have m4:i*2+2*2=(i+2)*2:=by omega
 have m5:(i+2)*2+(n-(i+1))*2=(n+1)*2:=by omega
 have m7:i*2+2*2≤c*2:=by omega
 have m8:(i+2)*2≤c*2:=by omega
 have m9:n+1=i+2+(n-(i+1)):=by omega
 have m10:i*2=i*2:=by omega
 have m11:(i+1)*2=(i+1)*2:=by omega
 have m12:i≤n:=by omega
 have m13:i+1≤n:=by omega
 have hcz:c*2≠0:=by omega
 obtain ⟨g,cur,rfl,-,-,hcm,hbg,hh,hsz,htk⟩:=R_cells hR hn0
 have hne:vb≠g:=fun e=>hvb (by simp [Value.ownBlock,e])
 have hT:cur.toList.take (i*2)=(xs.take i).flatMap keyC:=by have h:=(row_parts ky_len hn m12 htk).1;rw [← m10] at h;exact h
 obtain ⟨D,hD⟩:∃ D,(xs.drop (i+1)).flatMap keyC=D:=⟨_,rfl⟩
 obtain ⟨Y,hYe⟩:∃ Y,ys.flatMap keyC=Y:=⟨_,rfl⟩
 have hDl:D.length=(n-(i+1))*2:=by rw [← hD,flatMap_len ky_len,List.length_drop,hn]
 have hYl:Y.length=2*2:=by rw [← hYe,flatMap_len ky_len,hys]
 rw [hYe] at hyc
 have hsrc:∀ (j:Nat) (v:Value),D[j]?=some v→cur.toList[(i+1)*2+j]?=some v:=by
  intro j v hj
  rw [← hD] at hj
  rw [m11]
  exact (row_parts ky_len hn m13 htk).2 j v hj
 have hsE:(Tryz.prog.info? 87).map (·.size)=some 2:=key_size
 obtain ⟨i0,hi0,hi8⟩:∃ i0,Tryz.prog.info? 87=some i0∧i0.size=2:=by
  cases hq:Tryz.prog.info? 87 with
  | none=>rw [hq] at hsE;simp at hsE
  | some i0=>rw [hq] at hsE;exact ⟨i0,rfl,by simpa using hsE⟩
 have hov:∀ lb cb,(callFunc 261 #[.slice (some ⟨g,(i+2)*2,none⟩) lb cb,.slice (some ⟨vb,vo,none⟩) 2 vc]).run Tryz.prog w.drew = .ok (.value (.bool false)) w.drew:=fun lb cb=>by
  rw [run_callFunc_extern Tryz.func261 (by kernel_rfl) (by kernel_rfl) (by kernel_rfl) (e:=Extern.SlicesOverlaps.overlaps #[173,173] #[4]) (by kernel_rfl),
   Lib.run_overlaps_apart w.drew 173 4 87 Tryz.underlying173 2 (fun w=>by simp [sizeOf,typeInfo,hi0,hi8]) ⟨g,(i+2)*2,none⟩ ⟨vb,vo,none⟩ lb cb 2 vc (Ne.symm hne) _ _ _ _ (shape_blk (W:=w.drew) hh) (shape_blk (W:=w.drew) hY) hvz (blk_frozen (w:=w.drew) hh _) (blk_frozen (w:=w.drew) hh _)]
  rfl
 obtain ⟨cur1,hc1⟩:∃ C,(splice cur.toList ((i+2)*2) D).toArray=C:=⟨_,rfl⟩
 have hs1:cur1.size=c*2:=by rw [← hc1,List.size_toArray,splice_len (by rw [hDl,Array.length_toList,hsz];exact m3),Array.length_toList,hsz]
 obtain ⟨W1,hW1⟩:∃ W,w.drew.drew.setCells g ((i+2)*2) D=W:=⟨_,rfl⟩
 have hW1r:W1=w.drew.drew.setRow g cur1:=by rw [← hW1,← hc1];exact setCells_row g _ _ _ _ _ _ hh (by rw [hDl,hsz];exact m3)
 have hg1:W1.heap[g]?=some (Obj.cells cur1 87):=by rw [hW1r];exact setRow_heap _ _ _ _ _ _ hh
 have hy1:W1.heap[vb]?=some (Obj.cells vs 87):=by rw [hW1r];exact (setRow_other _ _ _ _ hne).trans hY
 have hcp1:∀ ty,(Builtin.copy_ #[173,173] ty #[.slice (some ⟨g,(i+2)*2,none⟩) (n-(i+1)) (c-(i+2)),.slice (some ⟨g,(i+1)*2,none⟩) (n-(i+1)) (c-(i+1))]).run Tryz.prog w.drew.drew = .ok (goInt ((n-(i+1):Nat):Int)) W1:=fun ty=>by
  have:=run_copy_sz (P:=Tryz.prog) w.drew.drew 173 173 ty 87 g ((i+2)*2) (n-(i+1)) (c-(i+2)) ⟨g,(i+1)*2,none⟩ (n-(i+1)) (c-(i+1)) D 2 Tryz.underlying173 hsE (by rw [hDl,m1])
   (fun j v hj=>by rw [add_none];rw [cell_of_row w.drew.drew g _ _ _ _ hh];simpa using hsrc j v hj)
   (fun j hj=>by rw [cell_of_row w.drew.drew g _ _ _ _ hh,Array.getElem?_eq_getElem (by rw [hsz];rw [hDl] at hj;exact Nat.lt_of_lt_of_le (Nat.add_lt_add_left hj _) m3)];rfl)
   (fun j hj=>blk_frozen (w:=w.drew.drew) hh _) (by rw [← hD];exact flat_one ky_one _)
  rw [m1,hW1] at this
  exact this
 obtain ⟨cur2,hc2⟩:∃ C,(splice cur1.toList (i*2) Y).toArray=C:=⟨_,rfl⟩
 have hs2:cur2.size=c*2:=by rw [← hc2,List.size_toArray,splice_len (by rw [hYl,Array.length_toList,hs1];exact m7),Array.length_toList,hs1]
 obtain ⟨W2,hW2⟩:∃ W,W1.setCells g (i*2) Y=W:=⟨_,rfl⟩
 have hW2r:W2=W1.setRow g cur2:=by rw [← hW2,← hc2];exact setCells_row g _ _ _ _ _ _ hg1 (by rw [hYl,hs1];exact m7)
 have hcp2:∀ ty,(Builtin.copy_ #[173,173] ty #[.slice (some ⟨g,i*2,none⟩) (n+1-i) (c-i),.slice (some ⟨vb,vo,none⟩) 2 vc]).run Tryz.prog W1 = .ok (goInt 2) W2:=fun ty=>by
  have:=run_copy_sz (P:=Tryz.prog) W1 173 173 ty 87 g (i*2) (n+1-i) (c-i) ⟨vb,vo,none⟩ 2 vc Y 2 Tryz.underlying173 hsE (by rw [m2];exact hYl)
   (fun j v hj=>by rw [add_none,cell_of_row W1 vb _ _ _ _ hy1];exact hyc j v hj)
   (fun j hj=>by rw [cell_of_row W1 g _ _ _ _ hg1,Array.getElem?_eq_getElem (by rw [hs1];rw [hYl] at hj;exact Nat.lt_of_lt_of_le (Nat.add_lt_add_left hj _) m7)];rfl)
   (fun j hj=>blk_frozen (w:=W1) hg1 _) (by rw [← hYe];exact flat_one ky_one _)
  rw [m2,hW2] at this
  exact this
 have HFIN:Aside0 (kK.R 87 W2 base (fun _=>True) (.slice (some ⟨g,0,none⟩) (n+1) c) (xs.take i++ys++xs.drop (i+1))∧Fr w W2 (fun k=>(Value.slice (some ⟨g,0,none⟩) n c).ownBlock=some k)):=⟨by
  refine ⟨R_of_cells (cur:=cur2) ?_ hnc1 hcm hbg (by rw [hW2r];exact setRow_heap _ _ _ _ _ _ hg1) hs2 ?_,?_⟩
  ·rw [List.length_append,List.length_append,List.length_take,List.length_drop,hn,Nat.min_eq_left m12,hys];exact m9
  ·have:=splice2 (cur:=cur.toList) (a:=i*2) (b:=(i+2)*2) (X:=Y) (D:=D) ((congrArg (i*2 + ·) hYl).trans m4) (by rw [Array.length_toList,hsz];exact m8)
   rw [hDl,m5] at this
   rw [← hc2,← hc1]
   show (splice (splice cur.toList ((i+2)*2) D) (i*2) Y).take ((n+1)*2)=_
   rw [this,hT,← hD,← hYe,List.flatMap_append,List.flatMap_append]
  ·rw [hW2r,hW1r]
   exact Fr.setRow (S:=fun k=>(Value.slice (some ⟨g,0,none⟩) n c).ownBlock=some k) (Fr.setRow (S:=fun k=>(Value.slice (some ⟨g,0,none⟩) n c).ownBlock=some k) ((Fr.refl w _).drew.drew) (.inl rfl) _) (.inl rfl) _⟩
 have e1:=E1.out
 have e1':=E1p.out
 have e2:=E2.out
 have e2':=E2p.out
 have e4:=E4.out
 have e4':=E4p.out
 have e5:=E5.out
 have e5':=E5p.out
 clear hii hjj hi2 hn1 E4 E4p E5 E5p E1 E1p E2 E2p hn0 hR m1 m2 m3 m4 m5 m7 m8 m9 m10 m11 m12 m13 hcz hT hD hYe hDl hYl hsrc hsE hi0 hi8 hc1 hs1 hW1 hW1r hg1 hy1 hc2 hs2 hW2 hW2r hh hsz htk hcm hbg hne hY hvz hys hyc hvb hn
 go_enter Tryz.func242,Tryz.ntmps242
 go_wp2
 go_region
 go_wp2_with (simp only [hov])
 go_region_held3 (fun w'=>True) (trivial)
  ((refine step_copy_runI rfl (.tmp 126) (.tmp 129) 173 173 rfl _ _ rfl rfl (hcp1 _) ?_))
 go_wp2_with (at_builtin;refine wpList_copy_runI _ rfl _ _ 173 173 rfl _ _ rfl rfl (hcp2 _) ?_)
 go_ret
 exact ⟨_,rfl,HFIN.out.1,HFIN.out.2⟩
theorem replN_shift [Inhabited Sanct] {w:World} {base:Nat} {A:Option Addr} {vb vo i n c vc:Nat} {xs ys:List Nat} {vs:Array Value} (hR:kN.R 3 w base (fun _=>True) (.slice A n c) xs) (hn:xs.length=n) (hi:i+1<n) (h1:n≤100) (hnc1:n+1≤c) (hY:w.heap[vb]?=some (Obj.cells vs 3)) (hvz:vs.size≠0) (hys:ys.length=2) (hyc:∀ (j:Nat) (v:Value),(ys.flatMap natC)[j]?=some v→vs[vo+j]?=some v) (hvb:(Value.slice A n c).ownBlock≠some vb) (ii jj:Int) (hii:ii=(i:Int)) (hjj:jj=(i:Int)+1) :
  Calls Tryz.prog 244 #[.slice A n c,.int .i64 ii,.int .i64 jj,.slice (some ⟨vb,vo,none⟩) 2 vc] w fun e w'=>∃ v',e = .returned v'∧kN.R 3 w' base (fun _=>True) v' (xs.take i++ys++xs.drop (i+1))∧Fr w w' (fun k=>(Value.slice A n c).ownBlock=some k):=by
 have hn0:0<xs.length:=by omega
 have hnc:=(Kd.R_reads' hR).2.1
 have d1:(0≤ii)=True:=eq_true (by omega)
 have d2:(ii≤jj)=True:=eq_true (by omega)
 have d3:(jj≤(c:Int))=True:=eq_true (by omega)
 have d4:(ii == jj)=false:=beq_eq_false_iff_ne.mpr (by omega)
 have d5:(jj == (n:Int))=false:=beq_eq_false_iff_ne.mpr (by omega)
 have d6:(ii≤(c:Int))=True:=eq_true (by omega)
 have d7:ii.toNat=i:=by omega
 have d8:jj.toNat=i+1:=by omega
 have d9:(c=i)=False:=eq_false (by omega)
 have d10:(c=i+1)=False:=eq_false (by omega)
 have d11:(jj≤(n:Int))=True:=eq_true (by omega)
 have d12:(ii≤(n:Int))=True:=eq_true (by omega)
 have d17:(0≤jj)=True:=eq_true (by omega)
 have d18:(i+1≤c)=True:=eq_true (by omega)
 have d19:(i≤n)=True:=eq_true (by omega)
 have d13:(i+1≤n)=True:=eq_true (by omega)
 obtain ⟨i2,hi2⟩:∃ z:Int,ii+2=z:=⟨_,rfl⟩
 obtain ⟨n1,hn1⟩:∃ z:Int,(n:Int)+1=z:=⟨_,rfl⟩
 have E1:Aside0 (wrap64 (ii+2)=i2):=⟨by rw [wrap64_id (by omega) (by omega)];omega⟩
 have E1p:Aside0 (IntKind.i64.wrap (ii+2)=i2):=⟨by rw [i64_id (by omega) (by omega)];omega⟩
 have E2:Aside0 (wrap64 ((i:Int)+2)=i2):=⟨by rw [wrap64_id (by omega) (by omega)];omega⟩
 have E2p:Aside0 (IntKind.i64.wrap ((i:Int)+2)=i2):=⟨by rw [i64_id (by omega) (by omega)];omega⟩
 have E4:Aside0 (wrap64 (i2+((n-(i+1):Nat):Int))=n1):=⟨by rw [wrap64_id (by omega) (by omega)];omega⟩
 have E4p:Aside0 (IntKind.i64.wrap (i2+((n-(i+1):Nat):Int))=n1):=⟨by rw [i64_id (by omega) (by omega)];omega⟩
 have E5:Aside0 (wrap64 (i2+((n:Int)-((i:Int)+1)))=n1):=⟨by rw [wrap64_id (by omega) (by omega)];omega⟩
 have E5p:Aside0 (IntKind.i64.wrap (i2+((n:Int)-((i:Int)+1)))=n1):=⟨by rw [i64_id (by omega) (by omega)];omega⟩
 have d14:decide ((c:Int)<n1)=false:=decide_eq_false (by omega)
 have d15:(n1≤(c:Int))=True:=eq_true (by omega)
 have d16:decide (i2≤jj)=false:=decide_eq_false (by omega)
 have d20:(0≤n1)=True:=eq_true (by omega)
 have d21:n1.toNat=n+1:=by omega
 have d22:(0≤i2)=True:=eq_true (by omega)
 have d23:i2.toNat=i+2:=by omega
 have d24:(i2≤(n:Int)+1)=True:=eq_true (by omega)
 have d25:(i2≤n1)=True:=eq_true (by omega)
 have d26:(ii≤n1)=True:=eq_true (by omega)
 have d27:(ii≤(n:Int)+1)=True:=eq_true (by omega)
 have d28:(i2≤(c:Int))=True:=eq_true (by omega)
 have d29:(c=i+2)=False:=eq_false (by omega)
 have m1:Nat.min (n-(i+1)) (n-(i+1))=n-(i+1):=Nat.min_self _
 have m2:Nat.min 2 (n+1-i)=2:=Nat.min_eq_left (by omega)
 have m3:(i+2)+(n-(i+1))*1≤c*1:=by omega
 have m4:i+2*1=(i+2):=by omega
 have m5:(i+2)+(n-(i+1))*1=(n+1)*1:=by omega
 have m7:i+2*1≤c*1:=by omega
 have m8:(i+2)≤c*1:=by omega
 have m9:n+1=i+2+(n-(i+1)):=by omega
 have m10:i=i*1:=by omega
 have m11:(i+1)=(i+1)*1:=by omega
 have m12:i≤n:=by omega
 have m13:i+1≤n:=by omega
 have hcz:c*1≠0:=by omega
 obtain ⟨g,cur,rfl,-,-,hcm,hbg,hh,hsz,htk⟩:=R_cells hR hn0
 have hne:vb≠g:=fun e=>hvb (by simp [Value.ownBlock,e])
 have hT:cur.toList.take (i)=(xs.take i).flatMap natC:=by have h:=(row_parts na_len hn m12 htk).1;rw [← m10] at h;exact h
 obtain ⟨D,hD⟩:∃ D,(xs.drop (i+1)).flatMap natC=D:=⟨_,rfl⟩
 obtain ⟨Y,hYe⟩:∃ Y,ys.flatMap natC=Y:=⟨_,rfl⟩
 have hDl:D.length=(n-(i+1))*1:=by rw [← hD,flatMap_len na_len,List.length_drop,hn]
 have hYl:Y.length=2*1:=by rw [← hYe,flatMap_len na_len,hys]
 rw [hYe] at hyc
 have hsrc:∀ (j:Nat) (v:Value),D[j]?=some v→cur.toList[(i+1)+j]?=some v:=by
  intro j v hj
  rw [← hD] at hj
  rw [m11]
  exact (row_parts na_len hn m13 htk).2 j v hj
 have hsE:(Tryz.prog.info? 3).map (·.size)=some 1:=(by kernel_rfl)
 obtain ⟨i0,hi0,hi8⟩:∃ i0,Tryz.prog.info? 3=some i0∧i0.size=1:=by
  cases hq:Tryz.prog.info? 3 with
  | none=>rw [hq] at hsE;simp at hsE
  | some i0=>rw [hq] at hsE;exact ⟨i0,rfl,by simpa using hsE⟩
 have hov:∀ lb cb,(callFunc 265 #[.slice (some ⟨g,(i+2),none⟩) lb cb,.slice (some ⟨vb,vo,none⟩) 2 vc]).run Tryz.prog w.drew = .ok (.value (.bool false)) w.drew:=fun lb cb=>by
  rw [run_callFunc_extern Tryz.func265 (by kernel_rfl) (by kernel_rfl) (by kernel_rfl) (e:=Extern.SlicesOverlaps.overlaps #[53,53] #[4]) (by kernel_rfl),
   Lib.run_overlaps_apart w.drew 53 4 3 Tryz.underlying53 1 (fun w=>by simp [sizeOf,typeInfo,hi0,hi8]) ⟨g,(i+2),none⟩ ⟨vb,vo,none⟩ lb cb 2 vc (Ne.symm hne) _ _ _ _ (shape_blk (W:=w.drew) hh) (shape_blk (W:=w.drew) hY) hvz (blk_frozen (w:=w.drew) hh _) (blk_frozen (w:=w.drew) hh _)]
  rfl
 obtain ⟨cur1,hc1⟩:∃ C,(splice cur.toList ((i+2)) D).toArray=C:=⟨_,rfl⟩
 have hs1:cur1.size=c*1:=by rw [← hc1,List.size_toArray,splice_len (by rw [hDl,Array.length_toList,hsz];exact m3),Array.length_toList,hsz]
 obtain ⟨W1,hW1⟩:∃ W,w.drew.drew.setCells g ((i+2)) D=W:=⟨_,rfl⟩
 have hW1r:W1=w.drew.drew.setRow g cur1:=by rw [← hW1,← hc1];exact setCells_row g _ _ _ _ _ _ hh (by rw [hDl,hsz];exact m3)
 have hg1:W1.heap[g]?=some (Obj.cells cur1 3):=by rw [hW1r];exact setRow_heap _ _ _ _ _ _ hh
 have hy1:W1.heap[vb]?=some (Obj.cells vs 3):=by rw [hW1r];exact (setRow_other _ _ _ _ hne).trans hY
 have hcp1:∀ ty,(Builtin.copy_ #[53,53] ty #[.slice (some ⟨g,(i+2),none⟩) (n-(i+1)) (c-(i+2)),.slice (some ⟨g,(i+1),none⟩) (n-(i+1)) (c-(i+1))]).run Tryz.prog w.drew.drew = .ok (goInt ((n-(i+1):Nat):Int)) W1:=fun ty=>by
  have:=run_copy_sz (P:=Tryz.prog) w.drew.drew 53 53 ty 3 g ((i+2)) (n-(i+1)) (c-(i+2)) ⟨g,(i+1),none⟩ (n-(i+1)) (c-(i+1)) D 1 Tryz.underlying53 hsE (by rw [hDl,m1])
   (fun j v hj=>by rw [add_none];rw [cell_of_row w.drew.drew g _ _ _ _ hh];simpa using hsrc j v hj)
   (fun j hj=>by rw [cell_of_row w.drew.drew g _ _ _ _ hh,Array.getElem?_eq_getElem (by rw [hsz];rw [hDl] at hj;exact Nat.lt_of_lt_of_le (Nat.add_lt_add_left hj _) m3)];rfl)
   (fun j hj=>blk_frozen (w:=w.drew.drew) hh _) (by rw [← hD];exact flat_one na_one _)
  rw [m1,hW1] at this
  exact this
 obtain ⟨cur2,hc2⟩:∃ C,(splice cur1.toList (i) Y).toArray=C:=⟨_,rfl⟩
 have hs2:cur2.size=c*1:=by rw [← hc2,List.size_toArray,splice_len (by rw [hYl,Array.length_toList,hs1];exact m7),Array.length_toList,hs1]
 obtain ⟨W2,hW2⟩:∃ W,W1.setCells g (i) Y=W:=⟨_,rfl⟩
 have hW2r:W2=W1.setRow g cur2:=by rw [← hW2,← hc2];exact setCells_row g _ _ _ _ _ _ hg1 (by rw [hYl,hs1];exact m7)
 have hcp2:∀ ty,(Builtin.copy_ #[53,53] ty #[.slice (some ⟨g,i,none⟩) (n+1-i) (c-i),.slice (some ⟨vb,vo,none⟩) 2 vc]).run Tryz.prog W1 = .ok (goInt 2) W2:=fun ty=>by
  have:=run_copy_sz (P:=Tryz.prog) W1 53 53 ty 3 g (i) (n+1-i) (c-i) ⟨vb,vo,none⟩ 2 vc Y 1 Tryz.underlying53 hsE (by rw [m2];exact hYl)
   (fun j v hj=>by rw [add_none,cell_of_row W1 vb _ _ _ _ hy1];exact hyc j v hj)
   (fun j hj=>by rw [cell_of_row W1 g _ _ _ _ hg1,Array.getElem?_eq_getElem (by rw [hs1];rw [hYl] at hj;exact Nat.lt_of_lt_of_le (Nat.add_lt_add_left hj _) m7)];rfl)
   (fun j hj=>blk_frozen (w:=W1) hg1 _) (by rw [← hYe];exact flat_one na_one _)
  rw [m2,hW2] at this
  exact this
 have HFIN:Aside0 (kN.R 3 W2 base (fun _=>True) (.slice (some ⟨g,0,none⟩) (n+1) c) (xs.take i++ys++xs.drop (i+1))∧Fr w W2 (fun k=>(Value.slice (some ⟨g,0,none⟩) n c).ownBlock=some k)):=⟨by
  refine ⟨R_of_cells (cur:=cur2) ?_ hnc1 hcm hbg (by rw [hW2r];exact setRow_heap _ _ _ _ _ _ hg1) hs2 ?_,?_⟩
  ·rw [List.length_append,List.length_append,List.length_take,List.length_drop,hn,Nat.min_eq_left m12,hys];exact m9
  ·have:=splice2 (cur:=cur.toList) (a:=i) (b:=(i+2)) (X:=Y) (D:=D) ((congrArg (i + ·) hYl).trans m4) (by rw [Array.length_toList,hsz];exact m8)
   rw [hDl,m5] at this
   rw [← hc2,← hc1]
   show (splice (splice cur.toList ((i+2)) D) (i) Y).take ((n+1)*1)=_
   rw [this,hT,← hD,← hYe,List.flatMap_append,List.flatMap_append]
  ·rw [hW2r,hW1r]
   exact Fr.setRow (S:=fun k=>(Value.slice (some ⟨g,0,none⟩) n c).ownBlock=some k) (Fr.setRow (S:=fun k=>(Value.slice (some ⟨g,0,none⟩) n c).ownBlock=some k) ((Fr.refl w _).drew.drew) (.inl rfl) _) (.inl rfl) _⟩
 have e1:=E1.out
 have e1':=E1p.out
 have e2:=E2.out
 have e2':=E2p.out
 have e4:=E4.out
 have e4':=E4p.out
 have e5:=E5.out
 have e5':=E5p.out
 clear hii hjj hi2 hn1 E4 E4p E5 E5p E1 E1p E2 E2p hn0 hR m1 m2 m3 m4 m5 m7 m8 m9 m10 m11 m12 m13 hcz hT hD hYe hDl hYl hsrc hsE hi0 hi8 hc1 hs1 hW1 hW1r hg1 hy1 hc2 hs2 hW2 hW2r hh hsz htk hcm hbg hne hY hvz hys hyc hvb hn
 go_enter Tryz.func244,Tryz.ntmps244
 go_wp2
 go_region
 go_wp2_with (simp only [hov])
 go_region_held3 (fun w'=>True) (trivial)
  ((refine step_copy_runI rfl (.tmp 126) (.tmp 129) 53 53 rfl _ _ rfl rfl (hcp1 _) ?_))
 go_wp2_with (at_builtin;refine wpList_copy_runI _ rfl _ _ 53 53 rfl _ _ rfl rfl (hcp2 _) ?_)
 go_ret
 exact ⟨_,rfl,HFIN.out.1,HFIN.out.2⟩
end
end Go.Proofs.YtnhkikebfinejaaGreatDoor.Z
