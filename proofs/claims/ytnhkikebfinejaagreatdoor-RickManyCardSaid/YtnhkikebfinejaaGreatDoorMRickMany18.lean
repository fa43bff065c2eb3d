/- Texts of this claim, laid together. No conditions. -/
import Derived.Test.YtnhkikebfinejaaGreatDoorMRickMany17
import Derived.Test.YtnhkikebfinejaaGreatDoorMRickMany16
set_option linter.unusedVariables false
set_option linter.unusedSimpArgs false
set_option maxRecDepth 100000
set_option maxHeartbeats 16000000
namespace Go.Proofs.YtnhkikebfinejaaGreatDoor.Z
open Go Go.RowKit Go.Proofs.YtnhkikebfinejaaGreatDoorW.PrintWords Go.Proofs.YtnhkikebfinejaaGreatDoorW.PrintLast Go.Proofs.YtnhkikebfinejaaGreatDoorW.PrintMore Go.Proofs.YtnhkikebfinejaaGreatDoor.S Go.Proofs.YtnhkikebfinejaaGreatDoor.X
section
attribute [local go_sem ↓] Go.wp_at_zero Go.wp_at_succ loadKey_eq loadEn_eq storeKey_eq storeEn_eq loadNd_eq storeNd_eq loadMap_eq storeMap_eq loadTab_eq storePg_eq loadRt_eq storeRt_eq
theorem replK_grow [Inhabited Sanct] {w:World} {base:Nat} {A:Option Addr} {vb vo i n vc:Nat} {xs ys:List Ky} {vs:Array Value} (hR:kK.R 87 w base (fun _=>True) (.slice A n n) xs) (hn:xs.length=n) (hi:i+1<n) (h1:n≤100) (hY:w.heap[vb]?=some (Obj.cells vs 87)) (hys:ys.length=2) (hyc:∀ (j:Nat) (v:Value),(ys.flatMap keyC)[j]?=some v→vs[vo+j]?=some v) (hbase:base≤w.heap.size) (ii jj:Int) (hii:ii=(i:Int)) (hjj:jj=(i:Int)+1) :
  Calls Tryz.prog 242 #[.slice A n n,.int .i64 ii,.int .i64 jj,.slice (some ⟨vb,vo,none⟩) 2 vc] w fun e w'=>∃ v',e = .returned v'∧kK.R 87 w' base (fun _=>True) v' (xs.take i++ys++xs.drop (i+1))∧Fr w w' (fun k=>(Value.slice A n n).ownBlock=some k):=by
 have hn0:0<xs.length:=by omega
 have d1:(0≤ii)=True:=eq_true (by omega)
 have d2:(ii≤jj)=True:=eq_true (by omega)
 have d3:(jj≤(n:Int))=True:=eq_true (by omega)
 have d4:(ii == jj)=false:=beq_eq_false_iff_ne.mpr (by omega)
 have d5:(jj == (n:Int))=false:=beq_eq_false_iff_ne.mpr (by omega)
 have d6:(ii≤(n:Int))=True:=eq_true (by omega)
 have d7:ii.toNat=i:=by omega
 have d8:jj.toNat=i+1:=by omega
 have d9:(n=i)=False:=eq_false (by omega)
 have d10:(n=i+1)=False:=eq_false (by omega)
 have d17:(0≤jj)=True:=eq_true (by omega)
 have d19:(i≤n)=True:=eq_true (by omega)
 have d13:(i+1≤n)=True:=eq_true (by omega)
 obtain ⟨i2,hi2⟩:∃ z:Int,ii+2=z:=⟨_,rfl⟩
 obtain ⟨n1,hn1⟩:∃ z:Int,(n:Int)+1=z:=⟨_,rfl⟩
 obtain ⟨k,hk⟩:∃ k,k=n+1-i:=⟨_,rfl⟩
 obtain ⟨kz,hkz⟩:∃ z:Int,n1-ii=z:=⟨_,rfl⟩
 have E1:Aside0 (wrap64 (ii+2)=i2):=⟨by rw [wrap64_id (by omega) (by omega)];omega⟩
 have E1p:Aside0 (IntKind.i64.wrap (ii+2)=i2):=⟨by rw [i64_id (by omega) (by omega)];omega⟩
 have E2:Aside0 (wrap64 ((i:Int)+2)=i2):=⟨by rw [wrap64_id (by omega) (by omega)];omega⟩
 have E2p:Aside0 (IntKind.i64.wrap ((i:Int)+2)=i2):=⟨by rw [i64_id (by omega) (by omega)];omega⟩
 have E4:Aside0 (wrap64 (i2+((n-(i+1):Nat):Int))=n1):=⟨by rw [wrap64_id (by omega) (by omega)];omega⟩
 have E4p:Aside0 (IntKind.i64.wrap (i2+((n-(i+1):Nat):Int))=n1):=⟨by rw [i64_id (by omega) (by omega)];omega⟩
 have E5:Aside0 (wrap64 (i2+((n:Int)-((i:Int)+1)))=n1):=⟨by rw [wrap64_id (by omega) (by omega)];omega⟩
 have E5p:Aside0 (IntKind.i64.wrap (i2+((n:Int)-((i:Int)+1)))=n1):=⟨by rw [i64_id (by omega) (by omega)];omega⟩
 have E6:Aside0 (IntKind.i64.wrap (n1-ii)=kz):=⟨by rw [i64_id (by omega) (by omega)];omega⟩
 have E6p:Aside0 (wrap64 (n1-ii)=kz):=⟨by rw [wrap64_id (by omega) (by omega)];omega⟩
 have hkk:kz=(k:Int):=by omega
 have d14:decide ((n:Int)<n1)=true:=decide_eq_true (by omega)
 have d22:(0≤i2)=True:=eq_true (by omega)
 have d23:i2.toNat=i+2:=by omega
 have hml:i+k≤maxLen:=by unfold maxLen;omega
 obtain ⟨G,hG⟩:∃ G,grownCap w.drew (i+k) n 87=G:=⟨_,rfl⟩
 have hG1:i+k≤G:=by (rw [← hG];exact grownCap_ge w.drew _ _ _)
 have hG2:G≤9223372036854775807:=by
  have:=grownCap_le_maxLen w.drew (i+k) n 87 hml
  rw [hG] at this
  unfold maxLen at this
  exact this
 have HG:=Aside0.mk hG
 clear hG hml
 have f1:(i≤i+k)=True:=eq_true (by omega)
 have f2:(ii≤((i+k:Nat):Int))=True:=eq_true (by omega)
 have f2':(ii≤(i:Int)+(k:Int))=True:=eq_true (by omega)
 have f3:(i≤G)=True:=eq_true (by omega)
 have f4:(ii≤(G:Int))=True:=eq_true (by omega)
 have f5:(i2≤((i+k:Nat):Int))=True:=eq_true (by omega)
 have f5':(i2≤(i:Int)+(k:Int))=True:=eq_true (by omega)
 have f6:(i2≤(G:Int))=True:=eq_true (by omega)
 have f7:(G=i)=False:=eq_false (by omega)
 have f8:(G=i+2)=False:=eq_false (by omega)
 have m0:0<k:=by omega
 have m1:Nat.min (n-(i+1)) (i+k-(i+2))=n-(i+1):=Nat.min_eq_left (by omega)
 have m2:Nat.min 2 k=2:=Nat.min_eq_left (by omega)
 have m3:(i+2)*2+(n-(i+1))*2≤G*2:=by omega
 have m4:i*2+2*2=(i+2)*2:=by omega
 have m5:(i+2)*2+(n-(i+1))*2=(i+k)*2:=by omega
 have m7:i*2+2*2≤G*2:=by omega
 have m8:(i+2)*2≤G*2:=by omega
 have m9:i+k=i+2+(n-(i+1)):=by omega
 have m10:i*2=i*2:=by omega
 have m11:(i+1)*2=(i+1)*2:=by omega
 have m12:i≤n:=by omega
 have m13:i+1≤n:=by omega
 have q1:n<i+k:=by omega
 have q2:((i+k:Nat):Int)≤9223372036854775807:=by omega
 have q3:k*16≤281474976710656:=by omega
 have q4:(i+k)*16≤140737488355328:=by omega
 obtain ⟨g,cur,rfl,-,-,hcm,hbg,hh,hsz,htk⟩:=R_cells hR hn0
 have hT0:cur.toList.take (i*2)=(xs.take i).flatMap keyC:=by have h:=(row_parts ky_len hn m12 htk).1;rw [← m10] at h;exact h
 obtain ⟨D,hD⟩:∃ D,(xs.drop (i+1)).flatMap keyC=D:=⟨_,rfl⟩
 obtain ⟨Y,hYe⟩:∃ Y,ys.flatMap keyC=Y:=⟨_,rfl⟩
 obtain ⟨T,hTT⟩:∃ D,(xs.take i).flatMap keyC=D:=⟨_,rfl⟩
 have hDl:D.length=(n-(i+1))*2:=by rw [← hD,flatMap_len ky_len,List.length_drop,hn]
 have hYl:Y.length=2*2:=by rw [← hYe,flatMap_len ky_len,hys]
 have hTl:T.length=i*2:=by rw [← hTT,flatMap_len ky_len,List.length_take,hn,Nat.min_eq_left m12]
 rw [hTT] at hT0
 rw [hYe] at hyc
 have hsrc:∀ (j:Nat) (v:Value),D[j]?=some v→cur.toList[(i+1)*2+j]?=some v:=by
  intro j v hj
  rw [← hD] at hj
  rw [m11]
  exact (row_parts ky_len hn m13 htk).2 j v hj
 have hsrcT:∀ (j:Nat) (v:Value),T[j]?=some v→cur[j]?=some v:=fun j v hj=>by
  rw [← hT0,List.getElem?_take] at hj
  split at hj
  ·simpa using hj
  ·cases hj
 have hsE:(Tryz.prog.info? 87).map (·.size)=some 2:=key_size
 obtain ⟨i0,hi0,hi8,hi64,hiz⟩:∃ i0,Tryz.prog.info? 87=some i0∧i0.size=2∧i0.bytes=16∧i0.zero=some (.agg zKy):=by
  have:=info_ky
  cases hq:Tryz.prog.info? 87 with
  | none=>rw [hq] at this;simp at this
  | some i0=>rw [hq] at this;simp at this;exact ⟨i0,rfl,this.2.1,this.2.2,this.1⟩
 have hold:(Builtin.firstCells i0.size i (.slice (some ⟨g,0,none⟩) i n)).run Tryz.prog w.drew.drew = .ok T.toArray w.drew.drew:=by
  rw [hi8]
  exact run_firstCells_some w.drew.drew 2 i ⟨g,0,none⟩ i n T hTl (fun j v hj=>by
   rw [add_none,Nat.zero_add,cell_of_row w.drew.drew g _ _ _ _ hh]
   exact hsrcT j v hj)
 have hz8:((.agg zKy):Value).cells.size=2:=rfl
 obtain ⟨ROW,hROW⟩:∃ R:Array Value,T.toArray++Builtin.zeroCells ((.agg zKy):Value).cells k++Builtin.zeroCells ((.agg zKy):Value).cells (G-(i+k))=R:=⟨_,rfl⟩
 have hrow:=grown_row (z:=((.agg zKy):Value).cells) hTl hz8 hG1
 rw [hROW] at hrow
 have hrow2:ROW.toList.take (i*2)=T:=by have h:=hrow.2;rw [← m10] at h;exact h
 obtain ⟨gN,hgN⟩:∃ q,w.heap.size=q:=⟨_,rfl⟩
 obtain ⟨W1,hW1⟩:∃ W,w.drew.drew.alloc (Obj.cells ROW 87)=W:=⟨_,rfl⟩
 have hrz:∀ ty,(Builtin.append_ #[173,3] ty #[.slice (some ⟨g,0,none⟩) i n,.int .i64 kz]).run Tryz.prog w.drew = .ok (.slice (some ⟨gN,0,none⟩) (i+k) G) W1:=fun ty=>by
  have h:=Lib.run_append_grow_zeros w.drew 173 3 ty 87 i0 (.agg zKy) .i64 .i64 Tryz.underlying173 Tryz.underlying3 hi0 hiz (some ⟨g,0,none⟩) i n T hold k m0 (by rw [hi8];decide) q1 q2 (by rw [hi64];exact q3) (by rw [hi64];exact growslice_fits q1 q4)
  rw [HG.out,hROW,hW1] at h
  rw [hkk,← hgN]
  exact h
 have hg1:W1.heap[gN]?=some (Obj.cells ROW 87):=by rw [← hW1];exact newb hgN
 have hcur1:W1.heap[g]?=some (Obj.cells cur 87):=by rw [← hW1];exact blk_alloc (w:=w.drew.drew) hh _
 have hy1:W1.heap[vb]?=some (Obj.cells vs 87):=by rw [← hW1];exact blk_alloc (w:=w.drew.drew) hY _
 have hgNe:g≠gN:=fun e=>Nat.lt_irrefl gN (by have:=blk_lt hh;rw [hgN,e] at this;exact this)
 obtain ⟨row1,hr1⟩:∃ C,(splice ROW.toList (i*2) Y).toArray=C:=⟨_,rfl⟩
 have hs1:row1.size=G*2:=by rw [← hr1,List.size_toArray,splice_len (by rw [hYl,Array.length_toList,hrow.1];exact m7),Array.length_toList,hrow.1]
 obtain ⟨W2,hW2⟩:∃ W,W1.setCells gN (i*2) Y=W:=⟨_,rfl⟩
 have hW2r:W2=W1.setRow gN row1:=by rw [← hW2,← hr1];exact setCells_row gN _ _ _ _ _ _ hg1 (by rw [hYl,hrow.1];exact m7)
 have hcp1:∀ ty,(Builtin.copy_ #[173,173] ty #[.slice (some ⟨gN,i*2,none⟩) k (G-i),.slice (some ⟨vb,vo,none⟩) 2 vc]).run Tryz.prog W1 = .ok (goInt 2) W2:=fun ty=>by
  have:=run_copy_sz (P:=Tryz.prog) W1 173 173 ty 87 gN (i*2) k (G-i) ⟨vb,vo,none⟩ 2 vc Y 2 Tryz.underlying173 hsE (by rw [m2];exact hYl)
   (fun j v hj=>by rw [add_none,cell_of_row W1 vb _ _ _ _ hy1];exact hyc j v hj)
   (fun j hj=>by rw [cell_of_row W1 gN _ _ _ _ hg1,Array.getElem?_eq_getElem (by rw [hrow.1];rw [hYl] at hj;exact Nat.lt_of_lt_of_le (Nat.add_lt_add_left hj _) m7)];rfl)
   (fun j hj=>blk_frozen (w:=W1) hg1 _) (by rw [← hYe];exact flat_one ky_one _)
  rw [m2,hW2] at this
  exact this
 have hg2:W2.heap[gN]?=some (Obj.cells row1 87):=by rw [hW2r];exact setRow_heap _ _ _ _ _ _ hg1
 have hcur2:W2.heap[g]?=some (Obj.cells cur 87):=by rw [hW2r];exact (setRow_other _ _ _ _ hgNe).trans hcur1
 obtain ⟨row2,hr2⟩:∃ C,(splice row1.toList ((i+2)*2) D).toArray=C:=⟨_,rfl⟩
 have hs2:row2.size=G*2:=by rw [← hr2,List.size_toArray,splice_len (by rw [hDl,Array.length_toList,hs1];exact m3),Array.length_toList,hs1]
 obtain ⟨W3,hW3⟩:∃ W,W2.drew.setCells gN ((i+2)*2) D=W:=⟨_,rfl⟩
 have hW3r:W3=W2.drew.setRow gN row2:=by rw [← hW3,← hr2];exact setCells_row gN _ _ _ _ _ _ hg2 (by rw [hDl,hs1];exact m3)
 have hcp2:∀ ty,(Builtin.copy_ #[173,173] ty #[.slice (some ⟨gN,(i+2)*2,none⟩) (i+k-(i+2)) (G-(i+2)),.slice (some ⟨g,(i+1)*2,none⟩) (n-(i+1)) (n-(i+1))]).run Tryz.prog W2.drew = .ok (goInt ((n-(i+1):Nat):Int)) W3:=fun ty=>by
  have:=run_copy_sz (P:=Tryz.prog) W2.drew 173 173 ty 87 gN ((i+2)*2) (i+k-(i+2)) (G-(i+2)) ⟨g,(i+1)*2,none⟩ (n-(i+1)) (n-(i+1)) D 2 Tryz.underlying173 hsE (by rw [hDl,m1])
   (fun j v hj=>by rw [add_none];rw [cell_of_row W2.drew g _ _ _ _ hcur2];simpa using hsrc j v hj)
   (fun j hj=>by rw [cell_of_row W2.drew gN _ _ _ _ hg2,Array.getElem?_eq_getElem (by rw [hs1];rw [hDl] at hj;exact Nat.lt_of_lt_of_le (Nat.add_lt_add_left hj _) m3)];rfl)
   (fun j hj=>blk_frozen (w:=W2.drew) hg2 _) (by rw [← hD];exact flat_one ky_one _)
  rw [m1,hW3] at this
  exact this
 have HFIN:Aside0 (kK.R 87 W3 base (fun _=>True) (.slice (some ⟨gN,0,none⟩) (i+k) G) (xs.take i++ys++xs.drop (i+1))∧Fr w W3 (fun k=>(Value.slice (some ⟨g,0,none⟩) n n).ownBlock=some k)):=⟨by
  refine ⟨R_of_cells (cur:=row2) ?_ hG1 hG2 (by rw [← hgN];exact hbase) (by rw [hW3r];exact setRow_heap _ _ _ _ _ _ hg2) hs2 ?_,?_⟩
  ·rw [List.length_append,List.length_append,List.length_take,List.length_drop,hn,Nat.min_eq_left m12,hys];exact m9
  ·have:=splice3 (cur:=ROW.toList) (a:=i*2) (b:=(i+2)*2) (X:=Y) (D:=D) ((congrArg (i*2 + ·) hYl).trans m4) (by rw [Array.length_toList,hrow.1];exact m8)
   rw [hDl,m5,hrow2] at this
   rw [← hr2,← hr1]
   show (splice (splice ROW.toList (i*2) Y) ((i+2)*2) D).take ((i+k)*2)=_
   rw [this,← hTT,← hD,← hYe,List.flatMap_append,List.flatMap_append]
  ·rw [hW3r,hW2r,← hW1]
   refine Fr.setRow (S:=fun k=>(Value.slice (some ⟨g,0,none⟩) n n).ownBlock=some k) (Fr.drew (Fr.setRow (S:=fun k=>(Value.slice (some ⟨g,0,none⟩) n n).ownBlock=some k) (((Fr.refl w _).drew.drew).alloc _) (.inr ?_) _)) (.inr ?_) _
   ·rw [hgN];exact Nat.le_refl _
   ·rw [hgN];exact Nat.le_refl _⟩
 have e1:=E1.out
 have e1':=E1p.out
 have e2:=E2.out
 have e2':=E2p.out
 have e4:=E4.out
 have e4':=E4p.out
 have e5:=E5.out
 have e5':=E5p.out
 have e6:=E6.out
 have e6':=E6p.out
 clear hii hjj hi2 hn1 hk hkz hkk E4 E4p E5 E5p E1 E1p E2 E2p E6 E6p hn0 hR m0 m1 m2 m3 m4 m5 m7 m8 m9 m10 m11 m12 m13 q1 q2 q3 q4 HG hG1 hG2 hT0 hTT hTl hsrcT hD hYe hDl hYl hsrc hsE hi0 hi8 hi64 hiz hold hz8 hROW hrow hrow2 hgN hW1 hg1 hcur1 hy1 hgNe hr1 hs1 hW2 hW2r hg2 hcur2 hr2 hs2 hW3 hW3r hh hsz htk hcm hbg hY hys hyc hn hbase
 go_enter Tryz.func242,Tryz.ntmps242
 go_wp2
 go_region
 go_wp2_with (first
  | (at_builtin;refine Lib.wpList_append_run _ rfl _ _ _ _ rfl _ _ rfl rfl _ _ (hrz _) ?_)
  | (at_builtin;refine wpList_copy_runI _ rfl _ _ 173 173 rfl _ _ rfl rfl (hcp1 _) ?_))
 go_region_held3 (fun w'=>True) (trivial)
  ((refine step_copy_runI rfl (.tmp 78) (.tmp 81) 173 173 rfl _ _ rfl rfl (hcp2 _) ?_))
 go_wp2
 go_ret
 exact ⟨_,rfl,HFIN.out.1,HFIN.out.2⟩
theorem replN_grow [Inhabited Sanct] {w:World} {base:Nat} {A:Option Addr} {vb vo i n vc:Nat} {xs ys:List Nat} {vs:Array Value} (hR:kN.R 3 w base (fun _=>True) (.slice A n n) xs) (hn:xs.length=n) (hi:i+1<n) (h1:n≤100) (hY:w.heap[vb]?=some (Obj.cells vs 3)) (hys:ys.length=2) (hyc:∀ (j:Nat) (v:Value),(ys.flatMap natC)[j]?=some v→vs[vo+j]?=some v) (hbase:base≤w.heap.size) (ii jj:Int) (hii:ii=(i:Int)) (hjj:jj=(i:Int)+1) :
  Calls Tryz.prog 244 #[.slice A n n,.int .i64 ii,.int .i64 jj,.slice (some ⟨vb,vo,none⟩) 2 vc] w fun e w'=>∃ v',e = .returned v'∧kN.R 3 w' base (fun _=>True) v' (xs.take i++ys++xs.drop (i+1))∧Fr w w' (fun k=>(Value.slice A n n).ownBlock=some k):=by
 have hn0:0<xs.length:=by omega
 have d1:(0≤ii)=True:=eq_true (by omega)
 have d2:(ii≤jj)=True:=eq_true (by omega)
 have d3:(jj≤(n:Int))=True:=eq_true (by omega)
 have d4:(ii == jj)=false:=beq_eq_false_iff_ne.mpr (by omega)
 have d5:(jj == (n:Int))=false:=beq_eq_false_iff_ne.mpr (by omega)
 have d6:(ii≤(n:Int))=True:=eq_true (by omega)
 have d7:ii.toNat=i:=by omega
 have d8:jj.toNat=i+1:=by omega
 have d9:(n=i)=False:=eq_false (by omega)
 have d10:(n=i+1)=False:=eq_false (by omega)
 have d17:(0≤jj)=True:=eq_true (by omega)
 have d19:(i≤n)=True:=eq_true (by omega)
 have d13:(i+1≤n)=True:=eq_true (by omega)
 obtain ⟨i2,hi2⟩:∃ z:Int,ii+2=z:=⟨_,rfl⟩
 obtain ⟨n1,hn1⟩:∃ z:Int,(n:Int)+1=z:=⟨_,rfl⟩
 obtain ⟨k,hk⟩:∃ k,k=n+1-i:=⟨_,rfl⟩
 obtain ⟨kz,hkz⟩:∃ z:Int,n1-ii=z:=⟨_,rfl⟩
 have E1:Aside0 (wrap64 (ii+2)=i2):=⟨by rw [wrap64_id (by omega) (by omega)];omega⟩
 have E1p:Aside0 (IntKind.i64.wrap (ii+2)=i2):=⟨by rw [i64_id (by omega) (by omega)];omega⟩
 have E2:Aside0 (wrap64 ((i:Int)+2)=i2):=⟨by rw [wrap64_id (by omega) (by omega)];omega⟩
 have E2p:Aside0 (IntKind.i64.wrap ((i:Int)+2)=i2):=⟨by rw [i64_id (by omega) (by omega)];omega⟩
 have E4:Aside0 (wrap64 (i2+((n-(i+1):Nat):Int))=n1):=⟨by rw [wrap64_id (by omega) (by omega)];omega⟩
 have E4p:Aside0 (IntKind.i64.wrap (i2+((n-(i+1):Nat):Int))=n1):=⟨by rw [i64_id (by omega) (by omega)];omega⟩
 have E5:Aside0 (wrap64 (i2+((n:Int)-((i:Int)+1)))=n1):=⟨by rw [wrap64_id (by omega) (by omega)];omega⟩
 have E5p:Aside0 (IntKind.i64.wrap (i2+((n:Int)-((i:Int)+1)))=n1):=⟨by rw [i64_id (by omega) (by omega)];omega⟩
 have E6:Aside0 (IntKind.i64.wrap (n1-ii)=kz):=⟨by rw [i64_id (by omega) (by omega)];omega⟩
 have E6p:Aside0 (wrap64 (n1-ii)=kz):=⟨by rw [wrap64_id (by omega) (by omega)];omega⟩
 have hkk:kz=(k:Int):=by omega
 have d14:decide ((n:Int)<n1)=true:=decide_eq_true (by omega)
 have d22:(0≤i2)=True:=eq_true (by omega)
 have d23:i2.toNat=i+2:=by omega
 have hml:i+k≤maxLen:=by unfold maxLen;omega
 obtain ⟨G,hG⟩:∃ G,grownCap w.drew (i+k) n 3=G:=⟨_,rfl⟩
 have hG1:i+k≤G:=by (rw [← hG];exact grownCap_ge w.drew _ _ _)
 have hG2:G≤9223372036854775807:=by
  have:=grownCap_le_maxLen w.drew (i+k) n 3 hml
  rw [hG] at this
  unfold maxLen at this
  exact this
 have HG:=Aside0.mk hG
 clear hG hml
 have f1:(i≤i+k)=True:=eq_true (by omega)
 have f2:(ii≤((i+k:Nat):Int))=True:=eq_true (by omega)
 have f2':(ii≤(i:Int)+(k:Int))=True:=eq_true (by omega)
 have f3:(i≤G)=True:=eq_true (by omega)
 have f4:(ii≤(G:Int))=True:=eq_true (by omega)
 have f5:(i2≤((i+k:Nat):Int))=True:=eq_true (by omega)
 have f5':(i2≤(i:Int)+(k:Int))=True:=eq_true (by omega)
 have f6:(i2≤(G:Int))=True:=eq_true (by omega)
 have f7:(G=i)=False:=eq_false (by omega)
 have f8:(G=i+2)=False:=eq_false (by omega)
 have m0:0<k:=by omega
 have m1:Nat.min (n-(i+1)) (i+k-(i+2))=n-(i+1):=Nat.min_eq_left (by omega)
 have m2:Nat.min 2 k=2:=Nat.min_eq_left (by omega)
 have m3:(i+2)+(n-(i+1))*1≤G*1:=by omega
 have m4:i+2*1=(i+2):=by omega
 have m5:(i+2)+(n-(i+1))*1=(i+k)*1:=by omega
 have m7:i+2*1≤G*1:=by omega
 have m8:(i+2)≤G*1:=by omega
 have m9:i+k=i+2+(n-(i+1)):=by omega
 have m10:i=i*1:=by omega
 have m11:(i+1)=(i+1)*1:=by omega
 have m12:i≤n:=by omega
 have m13:i+1≤n:=by omega
 have q1:n<i+k:=by omega
 have q2:((i+k:Nat):Int)≤9223372036854775807:=by omega
 have q3:k*8≤281474976710656:=by omega
 have q4:(i+k)*8≤140737488355328:=by omega
 obtain ⟨g,cur,rfl,-,-,hcm,hbg,hh,hsz,htk⟩:=R_cells hR hn0
 have hT0:cur.toList.take (i)=(xs.take i).flatMap natC:=by have h:=(row_parts na_len hn m12 htk).1;rw [← m10] at h;exact h
 obtain ⟨D,hD⟩:∃ D,(xs.drop (i+1)).flatMap natC=D:=⟨_,rfl⟩
 obtain ⟨Y,hYe⟩:∃ Y,ys.flatMap natC=Y:=⟨_,rfl⟩
 obtain ⟨T,hTT⟩:∃ D,(xs.take i).flatMap natC=D:=⟨_,rfl⟩
 have hDl:D.length=(n-(i+1))*1:=by rw [← hD,flatMap_len na_len,List.length_drop,hn]
 have hYl:Y.length=2*1:=by rw [← hYe,flatMap_len na_len,hys]
 have hTl:T.length=i*1:=by rw [← hTT,flatMap_len na_len,List.length_take,hn,Nat.min_eq_left m12]
 rw [hTT] at hT0
 rw [hYe] at hyc
 have hsrc:∀ (j:Nat) (v:Value),D[j]?=some v→cur.toList[(i+1)+j]?=some v:=by
  intro j v hj
  rw [← hD] at hj
  rw [m11]
  exact (row_parts na_len hn m13 htk).2 j v hj
 have hsrcT:∀ (j:Nat) (v:Value),T[j]?=some v→cur[j]?=some v:=fun j v hj=>by
  rw [← hT0,List.getElem?_take] at hj
  split at hj
  ·simpa using hj
  ·cases hj
 have hsE:(Tryz.prog.info? 3).map (·.size)=some 1:=(by kernel_rfl)
 obtain ⟨i0,hi0,hi8,hi64,hiz⟩:∃ i0,Tryz.prog.info? 3=some i0∧i0.size=1∧i0.bytes=8∧i0.zero=some (.int .i64 0):=by
  have:=info_in
  cases hq:Tryz.prog.info? 3 with
  | none=>rw [hq] at this;simp at this
  | some i0=>rw [hq] at this;simp at this;exact ⟨i0,rfl,this.2.1,this.2.2,this.1⟩
 have hold:(Builtin.firstCells i0.size i (.slice (some ⟨g,0,none⟩) i n)).run Tryz.prog w.drew.drew = .ok T.toArray w.drew.drew:=by
  rw [hi8]
  exact run_firstCells_some w.drew.drew 1 i ⟨g,0,none⟩ i n T hTl (fun j v hj=>by
   rw [add_none,Nat.zero_add,cell_of_row w.drew.drew g _ _ _ _ hh]
   exact hsrcT j v hj)
 have hz8:((.int .i64 0):Value).cells.size=1:=rfl
 obtain ⟨ROW,hROW⟩:∃ R:Array Value,T.toArray++Builtin.zeroCells ((.int .i64 0):Value).cells k++Builtin.zeroCells ((.int .i64 0):Value).cells (G-(i+k))=R:=⟨_,rfl⟩
 have hrow:=grown_row (z:=((.int .i64 0):Value).cells) hTl hz8 hG1
 rw [hROW] at hrow
 have hrow2:ROW.toList.take (i)=T:=by have h:=hrow.2;rw [← m10] at h;exact h
 obtain ⟨gN,hgN⟩:∃ q,w.heap.size=q:=⟨_,rfl⟩
 obtain ⟨W1,hW1⟩:∃ W,w.drew.drew.alloc (Obj.cells ROW 3)=W:=⟨_,rfl⟩
 have hrz:∀ ty,(Builtin.append_ #[53,3] ty #[.slice (some ⟨g,0,none⟩) i n,.int .i64 kz]).run Tryz.prog w.drew = .ok (.slice (some ⟨gN,0,none⟩) (i+k) G) W1:=fun ty=>by
  have h:=Lib.run_append_grow_zeros w.drew 53 3 ty 3 i0 (.int .i64 0) .i64 .i64 Tryz.underlying53 Tryz.underlying3 hi0 hiz (some ⟨g,0,none⟩) i n T hold k m0 (by rw [hi8];decide) q1 q2 (by rw [hi64];exact q3) (by rw [hi64];exact growslice_fits q1 q4)
  rw [HG.out,hROW,hW1] at h
  rw [hkk,← hgN]
  exact h
 have hg1:W1.heap[gN]?=some (Obj.cells ROW 3):=by rw [← hW1];exact newb hgN
 have hcur1:W1.heap[g]?=some (Obj.cells cur 3):=by rw [← hW1];exact blk_alloc (w:=w.drew.drew) hh _
 have hy1:W1.heap[vb]?=some (Obj.cells vs 3):=by rw [← hW1];exact blk_alloc (w:=w.drew.drew) hY _
 have hgNe:g≠gN:=fun e=>Nat.lt_irrefl gN (by have:=blk_lt hh;rw [hgN,e] at this;exact this)
 obtain ⟨row1,hr1⟩:∃ C,(splice ROW.toList (i) Y).toArray=C:=⟨_,rfl⟩
 have hs1:row1.size=G*1:=by rw [← hr1,List.size_toArray,splice_len (by rw [hYl,Array.length_toList,hrow.1];exact m7),Array.length_toList,hrow.1]
 obtain ⟨W2,hW2⟩:∃ W,W1.setCells gN (i) Y=W:=⟨_,rfl⟩
 have hW2r:W2=W1.setRow gN row1:=by rw [← hW2,← hr1];exact setCells_row gN _ _ _ _ _ _ hg1 (by rw [hYl,hrow.1];exact m7)
 have hcp1:∀ ty,(Builtin.copy_ #[53,53] ty #[.slice (some ⟨gN,i,none⟩) k (G-i),.slice (some ⟨vb,vo,none⟩) 2 vc]).run Tryz.prog W1 = .ok (goInt 2) W2:=fun ty=>by
  have:=run_copy_sz (P:=Tryz.prog) W1 53 53 ty 3 gN (i) k (G-i) ⟨vb,vo,none⟩ 2 vc Y 1 Tryz.underlying53 hsE (by rw [m2];exact hYl)
   (fun j v hj=>by rw [add_none,cell_of_row W1 vb _ _ _ _ hy1];exact hyc j v hj)
   (fun j hj=>by rw [cell_of_row W1 gN _ _ _ _ hg1,Array.getElem?_eq_getElem (by rw [hrow.1];rw [hYl] at hj;exact Nat.lt_of_lt_of_le (Nat.add_lt_add_left hj _) m7)];rfl)
   (fun j hj=>blk_frozen (w:=W1) hg1 _) (by rw [← hYe];exact flat_one na_one _)
  rw [m2,hW2] at this
  exact this
 have hg2:W2.heap[gN]?=some (Obj.cells row1 3):=by rw [hW2r];exact setRow_heap _ _ _ _ _ _ hg1
 have hcur2:W2.heap[g]?=some (Obj.cells cur 3):=by rw [hW2r];exact (setRow_other _ _ _ _ hgNe).trans hcur1
 obtain ⟨row2,hr2⟩:∃ C,(splice row1.toList ((i+2)) D).toArray=C:=⟨_,rfl⟩
 have hs2:row2.size=G*1:=by rw [← hr2,List.size_toArray,splice_len (by rw [hDl,Array.length_toList,hs1];exact m3),Array.length_toList,hs1]
 obtain ⟨W3,hW3⟩:∃ W,W2.drew.setCells gN ((i+2)) D=W:=⟨_,rfl⟩
 have hW3r:W3=W2.drew.setRow gN row2:=by rw [← hW3,← hr2];exact setCells_row gN _ _ _ _ _ _ hg2 (by rw [hDl,hs1];exact m3)
 have hcp2:∀ ty,(Builtin.copy_ #[53,53] ty #[.slice (some ⟨gN,(i+2),none⟩) (i+k-(i+2)) (G-(i+2)),.slice (some ⟨g,(i+1),none⟩) (n-(i+1)) (n-(i+1))]).run Tryz.prog W2.drew = .ok (goInt ((n-(i+1):Nat):Int)) W3:=fun ty=>by
  have:=run_copy_sz (P:=Tryz.prog) W2.drew 53 53 ty 3 gN ((i+2)) (i+k-(i+2)) (G-(i+2)) ⟨g,(i+1),none⟩ (n-(i+1)) (n-(i+1)) D 1 Tryz.underlying53 hsE (by rw [hDl,m1])
   (fun j v hj=>by rw [add_none];rw [cell_of_row W2.drew g _ _ _ _ hcur2];simpa using hsrc j v hj)
   (fun j hj=>by rw [cell_of_row W2.drew gN _ _ _ _ hg2,Array.getElem?_eq_getElem (by rw [hs1];rw [hDl] at hj;exact Nat.lt_of_lt_of_le (Nat.add_lt_add_left hj _) m3)];rfl)
   (fun j hj=>blk_frozen (w:=W2.drew) hg2 _) (by rw [← hD];exact flat_one na_one _)
  rw [m1,hW3] at this
  exact this
 have HFIN:Aside0 (kN.R 3 W3 base (fun _=>True) (.slice (some ⟨gN,0,none⟩) (i+k) G) (xs.take i++ys++xs.drop (i+1))∧Fr w W3 (fun k=>(Value.slice (some ⟨g,0,none⟩) n n).ownBlock=some k)):=⟨by
  refine ⟨R_of_cells (cur:=row2) ?_ hG1 hG2 (by rw [← hgN];exact hbase) (by rw [hW3r];exact setRow_heap _ _ _ _ _ _ hg2) hs2 ?_,?_⟩
  ·rw [List.length_append,List.length_append,List.length_take,List.length_drop,hn,Nat.min_eq_left m12,hys];exact m9
  ·have:=splice3 (cur:=ROW.toList) (a:=i) (b:=(i+2)) (X:=Y) (D:=D) ((congrArg (i + ·) hYl).trans m4) (by rw [Array.length_toList,hrow.1];exact m8)
   rw [hDl,m5,hrow2] at this
   rw [← hr2,← hr1]
   show (splice (splice ROW.toList (i) Y) ((i+2)) D).take ((i+k)*1)=_
   rw [this,← hTT,← hD,← hYe,List.flatMap_append,List.flatMap_append]
  ·rw [hW3r,hW2r,← hW1]
   refine Fr.setRow (S:=fun k=>(Value.slice (some ⟨g,0,none⟩) n n).ownBlock=some k) (Fr.drew (Fr.setRow (S:=fun k=>(Value.slice (some ⟨g,0,none⟩) n n).ownBlock=some k) (((Fr.refl w _).drew.drew).alloc _) (.inr ?_) _)) (.inr ?_) _
   ·rw [hgN];exact Nat.le_refl _
   ·rw [hgN];exact Nat.le_refl _⟩
 have e1:=E1.out
 have e1':=E1p.out
 have e2:=E2.out
 have e2':=E2p.out
 have e4:=E4.out
 have e4':=E4p.out
 have e5:=E5.out
 have e5':=E5p.out
 have e6:=E6.out
 have e6':=E6p.out
 clear hii hjj hi2 hn1 hk hkz hkk E4 E4p E5 E5p E1 E1p E2 E2p E6 E6p hn0 hR m0 m1 m2 m3 m4 m5 m7 m8 m9 m10 m11 m12 m13 q1 q2 q3 q4 HG hG1 hG2 hT0 hTT hTl hsrcT hD hYe hDl hYl hsrc hsE hi0 hi8 hi64 hiz hold hz8 hROW hrow hrow2 hgN hW1 hg1 hcur1 hy1 hgNe hr1 hs1 hW2 hW2r hg2 hcur2 hr2 hs2 hW3 hW3r hh hsz htk hcm hbg hY hys hyc hn hbase
 go_enter Tryz.func244,Tryz.ntmps244
 go_wp2
 go_region
 go_wp2_with (first
  | (at_builtin;refine Lib.wpList_append_run _ rfl _ _ _ _ rfl _ _ rfl rfl _ _ (hrz _) ?_)
  | (at_builtin;refine wpList_copy_runI _ rfl _ _ 53 53 rfl _ _ rfl rfl (hcp1 _) ?_))
 go_region_held3 (fun w'=>True) (trivial)
  ((refine step_copy_runI rfl (.tmp 78) (.tmp 81) 53 53 rfl _ _ rfl rfl (hcp2 _) ?_))
 go_wp2
 go_ret
 exact ⟨_,rfl,HFIN.out.1,HFIN.out.2⟩
end
theorem replK_calls [Inhabited Sanct] {w:World} {base bV:Nat} {A V:Option Addr} {i n c m vc:Nat} {xs ys:List Ky} (hR:kK.R 87 w base (fun _=>True) (.slice A n c) xs) (hn:xs.length=n) (hi:i<n) (h1:n≤100) (hY:kK.R 87 w bV (fun _=>True) (.slice V m vc) ys) (hm:ys.length=m) (h12:m=1∨m=2) (hvb:∀ k,(Value.slice V m vc).ownBlock=some k→(Value.slice A n c).ownBlock≠some k) (hbase:base≤w.heap.size) (ii jj:Int) (hii:ii=(i:Int)) (hjj:jj=(i:Int)+1) :
  Calls Tryz.prog 242 #[.slice A n c,.int .i64 ii,.int .i64 jj,.slice V m vc] w fun e w'=>∃ v',e = .returned v'∧kK.R 87 w' base (fun _=>True) v' (xs.take i++ys++xs.drop (i+1))∧Fr w w' (fun k=>(Value.slice A n c).ownBlock=some k):=by
 by_cases he:i+1=n
 ·rw [List.drop_of_length_le (by omega),List.append_nil]
  exact replK_end hR hn he h1 (R_rw hY (by omega)) hm (by omega) (by omega) hbase ii jj hii hjj
 ·have hnc:=(Kd.R_reads' hR).2.1
  obtain ⟨vb,vs,rfl,hmy,-,-,-,hh,hsz,htk⟩:=R_cells hY (by omega)
  have hyc:∀ (j:Nat) (v:Value),(ys.flatMap keyC)[j]?=some v→vs[0+j]?=some v:=fun j v hj=>by
   rw [← htk,List.getElem?_take] at hj
   split at hj
   ·simpa using hj
   ·cases hj
  have hne:=hvb vb rfl
  rcases h12 with h | h
  ·obtain ⟨y,rfl⟩:∃ y,ys=[y]:=by match ys,hm.trans h with | [y],_=>exact ⟨y,rfl⟩
   subst h
   have:=replK_same (vo:=0) hR hn (by omega) h1 hh (fun j v hj=>hyc j v (by simpa using hj)) hne ii jj hii hjj (vc:=vc)
   simpa using this
  ·subst h
   rcases Nat.lt_or_ge c (n+1) with h2 | h2
   ·obtain rfl:c=n:=by omega
    exact replK_grow (vo:=0) hR hn (by omega) h1 hh hm hyc hbase ii jj hii hjj
   ·have hvz:vs.size≠0:=fun e=>by
     have:=congrArg List.length htk
     rw [flatMap_len ky_len,List.length_take,Array.length_toList,e,hm] at this
     omega
    exact replK_shift (vo:=0) hR hn (by omega) h1 h2 hh hvz hm hyc hne ii jj hii hjj
theorem replN_calls [Inhabited Sanct] {w:World} {base bV:Nat} {A V:Option Addr} {i n c m vc:Nat} {xs ys:List Nat} (hR:kN.R 3 w base (fun _=>True) (.slice A n c) xs) (hn:xs.length=n) (hi:i<n) (h1:n≤100) (hY:kN.R 3 w bV (fun _=>True) (.slice V m vc) ys) (hm:ys.length=m) (h12:m=1∨m=2) (hvb:∀ k,(Value.slice V m vc).ownBlock=some k→(Value.slice A n c).ownBlock≠some k) (hbase:base≤w.heap.size) (ii jj:Int) (hii:ii=(i:Int)) (hjj:jj=(i:Int)+1) :
  Calls Tryz.prog 244 #[.slice A n c,.int .i64 ii,.int .i64 jj,.slice V m vc] w fun e w'=>∃ v',e = .returned v'∧kN.R 3 w' base (fun _=>True) v' (xs.take i++ys++xs.drop (i+1))∧Fr w w' (fun k=>(Value.slice A n c).ownBlock=some k):=by
 by_cases he:i+1=n
 ·rw [List.drop_of_length_le (by omega),List.append_nil]
  exact replN_end hR hn he h1 (R_rw hY (by omega)) hm (by omega) (by omega) hbase ii jj hii hjj
 ·have hnc:=(Kd.R_reads' hR).2.1
  obtain ⟨vb,vs,rfl,hmy,-,-,-,hh,hsz,htk⟩:=R_cells hY (by omega)
  have hyc:∀ (j:Nat) (v:Value),(ys.flatMap natC)[j]?=some v→vs[0+j]?=some v:=fun j v hj=>by
   rw [← htk,List.getElem?_take] at hj
   split at hj
   ·simpa using hj
   ·cases hj
  have hne:=hvb vb rfl
  rcases h12 with h | h
  ·obtain ⟨y,rfl⟩:∃ y,ys=[y]:=by match ys,hm.trans h with | [y],_=>exact ⟨y,rfl⟩
   subst h
   have:=replN_same (vo:=0) hR hn (by omega) h1 hh (fun j v hj=>hyc j v (by simpa using hj)) hne ii jj hii hjj (vc:=vc)
   simpa using this
  ·subst h
   rcases Nat.lt_or_ge c (n+1) with h2 | h2
   ·obtain rfl:c=n:=by omega
    exact replN_grow (vo:=0) hR hn (by omega) h1 hh hm hyc hbase ii jj hii hjj
   ·have hvz:vs.size≠0:=fun e=>by
     have:=congrArg List.length htk
     rw [flatMap_len na_len,List.length_take,Array.length_toList,e,hm] at this
     omega
    exact replN_shift (vo:=0) hR hn (by omega) h1 h2 hh hvz hm hyc hne ii jj hii hjj
structure Kid where
 a:Nat
 n:Nd
 es:List En
 ps:List Nat
structure Pc where
 n:Nd
 es:List En
 ps:List Nat
def EnG (e:En):Prop:=EnOk e∧e.z=e.k.a
def Sp (es:List En):Prop:=es.Pairwise (fun x y=>lessB x.k y.k=true)
def kidPs (L:List Kid):List Nat:=L.flatMap (fun k=>k.a :: k.ps)
def kidEs (L:List Kid):List En:=L.flatMap Kid.es
def innN (L:List Kid):Nd:=⟨false,[],L.map (fun k=>ndLeast k.n),L.map Kid.a⟩
def leastN (nd:Nd):Nat:=if nd.lf then 4 else 8
def NdT (f:Nat→List Int):Nat→Nd→List En→List Nat→Prop
 | 0,nd,es,ps=>nd=⟨true,es,[],[]⟩∧ps=[]
 | h+1,nd,es,ps=>∃ L:List Kid,nd=innN L∧es=kidEs L∧ps=kidPs L ∧ ∀ k∈L,NdOk k.n∧leastN k.n≤ndSize k.n∧PageAt f k.a (kindN k.n) (ndB k.n)∧NdT f h k.n k.es k.ps
def KidOk (f:Nat→List Int) (h:Nat) (k:Kid):Prop:=NdOk k.n∧leastN k.n≤ndSize k.n∧PageAt f k.a (kindN k.n) (ndB k.n)∧NdT f h k.n k.es k.ps
theorem less_iff {a b:Ky}:lessB a b=true↔a.s<b.s∨(a.s=b.s∧a.a<b.a):=by simp [lessB]
theorem less_trans {a b c:Ky} (h1:lessB a b=true) (h2:lessB b c=true):lessB a c=true:=by rw [less_iff] at *;omega
theorem less_not {a b:Ky} (h:lessB a b=false) (hn:a≠b):lessB b a=true:=by
 rw [less_iff]
 have h1:¬ (a.s<b.s∨(a.s=b.s∧a.a<b.a)):=fun c=>by rw [less_iff.2 c] at h;cases h
 have h2:¬ (a.s=b.s∧a.a=b.a):=fun c=>hn (by cases a;cases b;simp_all)
 omega
theorem NdT.same [Inhabited Sanct] {f g:Nat→List Int}:∀ {h:Nat} {nd:Nd} {es:List En} {ps:List Nat},NdT f h nd es ps→(∀ p∈ps,SameAt f g p)→NdT g h nd es ps
 | 0,_,_,_,H,_=>H
 | h+1,_,_,_,⟨L,h1,h2,h3,h4⟩,hs=>⟨L,h1,h2,h3,fun k hk=>by
  obtain ⟨k1,k2,k3,k4⟩:=h4 k hk
  have hm:∀ p∈k.a :: k.ps,SameAt f g p:=fun p hp=>hs p (by rw [h3];exact List.mem_flatMap.2 ⟨k,hk,hp⟩)
  exact ⟨k1,k2,(hm _ List.mem_cons_self).page k3,k4.same (fun p hp=>hm p (List.mem_cons_of_mem _ hp))⟩⟩
theorem KidOk.same [Inhabited Sanct] {f g:Nat→List Int} {h:Nat} {k:Kid} (H:KidOk f h k) (hm:∀ p∈k.a :: k.ps,SameAt f g p):KidOk g h k:=
 ⟨H.1,H.2.1,(hm _ List.mem_cons_self).page H.2.2.1,H.2.2.2.same (fun p hp=>hm p (List.mem_cons_of_mem _ hp))⟩
theorem NdOk.one {nd:Nd} (h:NdOk nd):1≤ndSize nd∧ndSize nd≤mostN nd:=by
 unfold ndSize mostN
 rcases h with ⟨h1,_,_,h4⟩ | ⟨h1,_,h3⟩
 ·rw [if_pos h1,if_pos h1];exact ⟨h4.n1,h4.n7⟩
 ·rw [h1];exact ⟨h3.n1,h3.n16⟩
theorem NdT.least {f:Nat→List Int}:∀ {h:Nat} {nd:Nd} {es:List En} {ps:List Nat},NdT f h nd es ps→1≤ndSize nd → ∃ e es',es=e :: es'∧ndLeast nd=e.k
 | 0,_,es,_,⟨h1,_⟩,hz=>by
  subst h1
  cases es with
  | nil=>simp [ndSize] at hz
  | cons e es=>exact ⟨e,es,rfl,rfl⟩
 | h+1,_,_,_,⟨L,h1,h2,_,h4⟩,hz=>by
  subst h1
  cases L with
  | nil=>simp [ndSize,innN] at hz
  | cons k L=>
   obtain ⟨k1,_,_,k4⟩:=h4 k List.mem_cons_self
   obtain ⟨e,es',e1,e2⟩:=k4.least k1.one.1
   exact ⟨e,es'++kidEs L,by rw [h2,kidEs,List.flatMap_cons,e1];rfl,e2⟩
theorem srt_of {es:List En} (h:Sp es) (hg:∀ e∈es,EnG e):srt es:=by
 intro i x y hx hy
 obtain ⟨i1,e1⟩:=List.getElem?_eq_some_iff.1 hx
 obtain ⟨i2,e2⟩:=List.getElem?_eq_some_iff.1 hy
 have hl:lessB x.k y.k=true:=by have:=List.pairwise_iff_getElem.1 h i (i+1) i1 i2 (by omega);rwa [e1,e2] at this
 refine ⟨hl,fun hs=>?_⟩
 have:=(hg x (List.mem_of_getElem? hx)).2
 rw [less_iff] at hl
 omega
theorem kids_nodup [Inhabited Sanct] {L:List Kid} (h:(kidPs L).Nodup):(L.map Kid.a).Nodup:=by
 refine List.Sublist.nodup ?_ h
 induction L with
 | nil=>exact List.Sublist.refl _
 | cons k L ih=>
  rw [kidPs,List.flatMap_cons,List.map_cons,List.cons_append]
  exact List.Sublist.cons_cons _ ((ih (by rw [kidPs,List.flatMap_cons] at h;exact (List.nodup_append.1 h).2.1)).trans (List.sublist_append_right _ _))
theorem kids_sorted [Inhabited Sanct] {f:Nat→List Int} {h:Nat} {L:List Kid} (hk:∀ k∈L,KidOk f h k) (hs:Sp (kidEs L)):(L.map (fun k=>ndLeast k.n)).Pairwise (fun x y=>lessB x y=true):=by
 rw [List.pairwise_map]
 refine List.Pairwise.imp_of_mem ?_ (List.pairwise_flatMap.1 hs).2
 intro a b ha hb hab
 obtain ⟨e,es,e1,e2⟩:=(hk a ha).2.2.2.least (hk a ha).1.one.1
 obtain ⟨e',es',e3,e4⟩:=(hk b hb).2.2.2.least (hk b hb).1.one.1
 rw [e2,e4]
 exact hab e (by rw [e1];simp) e' (by rw [e3];simp)
theorem NdT.ok [Inhabited Sanct] {f:Nat→List Int} {h:Nat} {nd:Nd} {es:List En} {ps:List Nat} (H:NdT f h nd es ps) (hs:Sp es) (hg:∀ e∈es,EnG e) (h1:1≤ndSize nd) (h2:ndSize nd≤mostN nd) (hn:ps.Nodup) (hp:∀ p∈ps,2≤p∧p≤511):NdOk nd:=by
 cases h with
 | zero=>
  obtain ⟨rfl,rfl⟩:=H
  exact .inl ⟨rfl,rfl,rfl,h1,h2,fun e he=>(hg e he).1,srt_of hs hg⟩
 | succ h=>
  obtain ⟨L,rfl,rfl,rfl,h4⟩:=H
  refine .inr ⟨rfl,rfl,?_,h1,h2,?_,?_,?_,kids_nodup hn⟩
  ·simp [innN]
  ·intro k hk
   obtain ⟨b,hb,rfl⟩:=List.mem_map.1 hk
   exact least_ok (h4 b hb).1
  ·intro i x y hx hy
   obtain ⟨i1,e1⟩:=List.getElem?_eq_some_iff.1 hx
   obtain ⟨i2,e2⟩:=List.getElem?_eq_some_iff.1 hy
   have:=List.pairwise_iff_getElem.1 (kids_sorted (f:=f) h4 hs) i (i+1) i1 i2 (by omega)
   rw [← e1,← e2];exact this
  ·intro t ht
   obtain ⟨b,hb,rfl⟩:=List.mem_map.1 ht
   exact hp _ (List.mem_flatMap.2 ⟨b,hb,List.mem_cons_self⟩)
theorem insE_cons (x y:En) (es:List En):insE x (y :: es)=if lessB x.k y.k then x :: y :: es else y :: insE x es:=by
 unfold insE insAt
 rw [List.findIdx_cons]
 cases lessB x.k y.k<;>simp
theorem insE_perm [Inhabited Sanct] (x:En) (es:List En):(insE x es).Perm (x :: es):=by
 unfold insE
 refine List.perm_middle.trans ?_
 rw [List.take_append_drop]
theorem insE_sp [Inhabited Sanct] {x:En}:∀ {es:List En},Sp es→(∀ y∈es,y.k≠x.k)→Sp (insE x es)
 | [],_,_=>by simp [insE,Sp]
 | y :: es,hs,hn=>by
  obtain ⟨h1,h2⟩:=List.pairwise_cons.1 hs
  rw [insE_cons]
  cases hl:lessB x.k y.k with
  | true=>
   refine List.pairwise_cons.2 ⟨fun z hz=>?_,hs⟩
   rcases List.mem_cons.1 hz with rfl | hz
   ·exact hl
   ·exact less_trans hl (h1 z hz)
  | false=>
   refine List.pairwise_cons.2 ⟨fun z hz=>?_,insE_sp h2 (fun z hz=>hn z (List.mem_cons_of_mem _ hz))⟩
   rcases List.mem_cons.1 ((insE_perm x es).mem_iff.1 hz) with rfl | hz
   ·exact less_not hl (fun e=>hn y List.mem_cons_self e.symm)
   ·exact h1 z hz
theorem split_pcs [Inhabited Sanct] {f:Nat→List Int} {h:Nat} {nd:Nd} {es:List En} {ps:List Nat} (H:NdT f h nd es ps) (hs:Sp es) (hg:∀ e∈es,EnG e) (h1:1≤ndSize nd) (h2:ndSize nd≤mostN nd+1) (hn:ps.Nodup) (hp:∀ p∈ps,2≤p∧p≤511) :
  ∃ P:List Pc,splitL nd=P.map Pc.n∧P.flatMap Pc.es=es∧P.flatMap Pc.ps=ps∧(∀ p∈P,NdT f h p.n p.es p.ps∧NdOk p.n∧(leastN nd≤ndSize nd→leastN p.n≤ndSize p.n))∧(P.length=1∨(P.length=2 ∧ ∀ p∈P,leastN p.n≤ndSize p.n)):=by
 unfold splitL
 by_cases hz:ndSize nd≤mostN nd
 ·rw [if_pos hz]
  refine ⟨[⟨nd,es,ps⟩],rfl,by simp,by simp,fun p hp'=>?_,.inl rfl⟩
  rcases List.mem_singleton.1 hp' with rfl
  exact ⟨H,H.ok hs hg h1 hz hn hp,id⟩
 ·rw [if_neg hz]
  cases h with
  | zero=>
   obtain ⟨rfl,rfl⟩:=H
   have hz8:es.length=8:=by simp only [ndSize,mostN,if_true] at hz h2;omega
   have hd:es.take 4++es.drop 4=es:=List.take_append_drop _ _
   have hs':=hs
   rw [← hd] at hs'
   obtain ⟨s1,s2,-⟩:=List.pairwise_append.1 hs'
   have l1:(es.take 4).length=4:=by simp;omega
   have l2:(es.drop 4).length=4:=by simp;omega
   have hk:∀ p∈[(⟨⟨true,es.take 4,[],[]⟩,es.take 4,[]⟩:Pc),⟨⟨true,es.drop 4,[],[]⟩,es.drop 4,[]⟩],NdT f 0 p.n p.es p.ps∧NdOk p.n∧leastN p.n≤ndSize p.n:=by
    intro p hp'
    rcases List.mem_cons.1 hp' with rfl | hp'
    ·have a0:NdT f 0 ⟨true,es.take 4,[],[]⟩ (es.take 4) []:=⟨rfl,rfl⟩
     refine ⟨a0,a0.ok s1 (fun e he=>hg e (List.mem_of_mem_take he)) ?_ ?_ List.nodup_nil (by simp),?_⟩<;>simp only [ndSize,mostN,leastN,if_true,l1]<;>decide
    ·rcases List.mem_singleton.1 hp' with rfl
     have a0:NdT f 0 ⟨true,es.drop 4,[],[]⟩ (es.drop 4) []:=⟨rfl,rfl⟩
     refine ⟨a0,a0.ok s2 (fun e he=>hg e (List.mem_of_mem_drop he)) ?_ ?_ List.nodup_nil (by simp),?_⟩<;>simp only [ndSize,mostN,leastN,if_true,l2]<;>decide
   refine ⟨_,?_,?_,?_,fun p hp'=>⟨(hk p hp').1,(hk p hp').2.1,fun _=>(hk p hp').2.2⟩,.inr ⟨rfl,fun p hp'=>(hk p hp').2.2⟩⟩
   ·simp only [cutN,ndSize,if_true,hz8,List.map_cons,List.map_nil,List.drop_zero]
    simp only [show (8+1) / 2-0=4 by decide,show (8+1) / 2=4 by decide,show 8-4=4 by decide,List.take_of_length_le (Nat.le_of_eq l2)]
   ·simp
   ·simp
  | succ h=>
   obtain ⟨L,rfl,rfl,rfl,h4⟩:=H
   have hL:L.length=17:=by simp only [ndSize,mostN,innN,List.length_map] at hz h2;simp at hz h2;omega
   have hd:L.take 9++L.drop 9=L:=List.take_append_drop _ _
   have l1:(L.take 9).length=9:=by simp;omega
   have l2:(L.drop 9).length=8:=by simp;omega
   have ee:kidEs (L.take 9)++kidEs (L.drop 9)=kidEs L:=by rw [kidEs,kidEs,← List.flatMap_append,hd];rfl
   have pe:kidPs (L.take 9)++kidPs (L.drop 9)=kidPs L:=by rw [kidPs,kidPs,← List.flatMap_append,hd];rfl
   have hs':=hs
   rw [← ee] at hs'
   obtain ⟨s1,s2,-⟩:=List.pairwise_append.1 hs'
   have hn':=hn
   rw [← pe] at hn'
   obtain ⟨n1,n2,-⟩:=List.nodup_append.1 hn'
   have hk:∀ p∈[(⟨innN (L.take 9),kidEs (L.take 9),kidPs (L.take 9)⟩:Pc),⟨innN (L.drop 9),kidEs (L.drop 9),kidPs (L.drop 9)⟩],NdT f (h+1) p.n p.es p.ps∧NdOk p.n∧leastN p.n≤ndSize p.n:=by
    intro p hp'
    rcases List.mem_cons.1 hp' with rfl | hp'
    ·have a0:NdT f (h+1) (innN (L.take 9)) (kidEs (L.take 9)) (kidPs (L.take 9)):=⟨_,rfl,rfl,rfl,fun k hk=>h4 k (List.mem_of_mem_take hk)⟩
     refine ⟨a0,a0.ok s1 (fun e he=>hg e (by rw [← ee];exact List.mem_append_left _ he)) ?_ ?_ n1 (fun q hq=>hp q (by rw [← pe];exact List.mem_append_left _ hq)),?_⟩<;>simp only [ndSize,mostN,leastN,innN,List.length_map,l1,Bool.false_eq_true,if_false]<;>decide
    ·rcases List.mem_singleton.1 hp' with rfl
     have a0:NdT f (h+1) (innN (L.drop 9)) (kidEs (L.drop 9)) (kidPs (L.drop 9)):=⟨_,rfl,rfl,rfl,fun k hk=>h4 k (List.mem_of_mem_drop hk)⟩
     refine ⟨a0,a0.ok s2 (fun e he=>hg e (by rw [← ee];exact List.mem_append_right _ he)) ?_ ?_ n2 (fun q hq=>hp q (by rw [← pe];exact List.mem_append_right _ hq)),?_⟩<;>simp only [ndSize,mostN,leastN,innN,List.length_map,l2,Bool.false_eq_true,if_false]<;>decide
   refine ⟨_,?_,?_,?_,fun p hp'=>⟨(hk p hp').1,(hk p hp').2.1,fun _=>(hk p hp').2.2⟩,.inr ⟨rfl,fun p hp'=>(hk p hp').2.2⟩⟩
   ·have hsz:ndSize (innN L)=17:=by simp [ndSize,innN,hL]
    rw [hsz]
    simp only [cutN,innN,Bool.false_eq_true,if_false,List.map_cons,List.map_nil,List.drop_zero,List.map_take,List.map_drop]
    simp only [show (17+1) / 2-0=9 by decide,show (17+1) / 2=9 by decide,show 17-9=8 by decide]
    rw [List.take_of_length_le (l:=List.drop 9 (List.map (fun k=>ndLeast k.n) L)) (by simp;omega),List.take_of_length_le (l:=List.drop 9 (List.map Kid.a L)) (by simp;omega)]
   ·simp [ee]
   ·simp [pe]
theorem chIx_spec:∀ (ks:List Ky) (k:Ky),1≤ks.length→chIx ks k<ks.length∧(∀ b,0<chIx ks k→ks[chIx ks k]?=some b→lessB k b=false)∧(∀ b,ks[chIx ks k+1]?=some b→lessB k b=true)
 | [],_,h=>by simp at h
 | [a],k,_=>by simp [chIx]
 | a :: b :: l,k,_=>by
  rw [chIx]
  cases hl:lessB k b with
  | true=>simp [hl]
  | false=>
   obtain ⟨h1,h2,h3⟩:=chIx_spec (b :: l) k (by simp)
   simp only [Bool.false_eq_true,if_false,List.getElem?_cons_succ]
   refine ⟨by simp at h1 ⊢;omega,fun c _ hc=>?_,fun c hc=>h3 c (by simpa using hc)⟩
   rcases Nat.eq_zero_or_pos (chIx (b :: l) k) with e | e
   ·rw [e] at hc;injection hc with hc;rw [← hc];exact hl
   ·exact h2 c e hc
theorem sp_mid {E1 E2 E3 E2':List En} {x:En} (hs:Sp (E1++(E2++E3))) (hp:E2'.Perm (x :: E2)) (h2:Sp E2') (h1:∀ a∈E1,lessB a.k x.k=true) (h3:∀ b∈E3,lessB x.k b.k=true):Sp (E1++(E2'++E3)):=by
 obtain ⟨s1,s2,s3⟩:=List.pairwise_append.1 hs
 obtain ⟨s4,s5,s6⟩:=List.pairwise_append.1 s2
 refine List.pairwise_append.2 ⟨s1,List.pairwise_append.2 ⟨h2,s5,fun a ha b hb=>?_⟩,fun a ha b hb=>?_⟩
 ·rcases List.mem_cons.1 (hp.mem_iff.1 ha) with rfl | ha
  ·exact h3 b hb
  ·exact s6 a ha b hb
 ·rcases List.mem_append.1 hb with hb | hb
  ·rcases List.mem_cons.1 (hp.mem_iff.1 hb) with rfl | hb
   ·exact h1 a ha
   ·exact s3 a ha b (List.mem_append_left _ hb)
  ·exact s3 a ha b (List.mem_append_right _ hb)
theorem kidEs_split [Inhabited Sanct] (L:List Kid) (i:Nat) {k:Kid} (hk:L[i]?=some k):kidEs L=kidEs (L.take i)++(k.es++kidEs (L.drop (i+1))):=by
 have:L=L.take i++k :: L.drop (i+1):=by
  obtain ⟨hi,e⟩:=List.getElem?_eq_some_iff.1 hk
  rw [← e,List.getElem_cons_drop,List.take_append_drop]
 conv=>lhs;rw [this]
 simp [kidEs]
theorem kidPs_split [Inhabited Sanct] (L:List Kid) (i:Nat) {k:Kid} (hk:L[i]?=some k):kidPs L=kidPs (L.take i)++(k.a :: k.ps++kidPs (L.drop (i+1))):=by
 have:L=L.take i++k :: L.drop (i+1):=by
  obtain ⟨hi,e⟩:=List.getElem?_eq_some_iff.1 hk
  rw [← e,List.getElem_cons_drop,List.take_append_drop]
 conv=>lhs;rw [this]
 simp [kidPs]
theorem ins_mid [Inhabited Sanct] {f:Nat→List Int} {h:Nat} {L:List Kid} (hk:∀ k∈L,KidOk f h k) (hs:Sp (kidEs L)) (h1:1≤L.length) {x:En} (hx:∀ y∈kidEs L,y.k≠x.k) :
  ∃ k,L[chIx (innN L).ks x.k]?=some k∧(∀ a∈kidEs (L.take (chIx (innN L).ks x.k)),lessB a.k x.k=true)∧(∀ b∈kidEs (L.drop (chIx (innN L).ks x.k+1)),lessB x.k b.k=true):=by
 obtain ⟨c1,c2,c3⟩:=chIx_spec (innN L).ks x.k (by simpa [innN] using h1)
 obtain ⟨i,hi⟩:∃ i,chIx (innN L).ks x.k=i:=⟨_,rfl⟩
 rw [hi] at c1 c2 c3 ⊢
 have hil:i<L.length:=by simpa [innN] using c1
 have hk0:L[i]?=some L[i]:=List.getElem?_eq_getElem hil
 obtain ⟨k,hkk⟩:∃ k,L[i]=k:=⟨_,rfl⟩
 rw [hkk] at hk0
 have hkm:k∈L:=List.mem_of_getElem? hk0
 have hsp:=hs
 rw [kidEs_split L i hk0] at hsp hx
 obtain ⟨s1,s2,s3⟩:=List.pairwise_append.1 hsp
 obtain ⟨s4,s5,s6⟩:=List.pairwise_append.1 s2
 obtain ⟨e,es',e1,e2⟩:=(hk k hkm).2.2.2.least (hk k hkm).1.one.1
 refine ⟨k,hk0,fun a ha=>?_,fun b hb=>?_⟩
 ·have h0:0<i:=by
   rcases Nat.eq_zero_or_pos i with e | e
   ·rw [e] at ha;simp [kidEs] at ha
   ·exact e
  have hf:=c2 e.k h0 (by rw [← e2];simp [innN,hk0])
  have hex:lessB e.k x.k=true:=less_not hf (fun q=>hx e (by rw [e1];simp) q.symm)
  exact less_trans (s3 a ha e (by rw [e1];simp)) hex
 ·cases hd:L[i+1]? with
  | none=>
   rw [List.drop_eq_nil_of_le (by have:=List.getElem?_eq_none_iff.1 hd;omega)] at hb
   simp [kidEs] at hb
  | some k2=>
   obtain ⟨hi2,e2'⟩:=List.getElem?_eq_some_iff.1 hd
   have hk2:k2∈L:=List.mem_of_getElem? hd
   obtain ⟨e3,es3,e4,e5⟩:=(hk k2 hk2).2.2.2.least (hk k2 hk2).1.one.1
   have hxe:lessB x.k e3.k=true:=c3 e3.k (by rw [← e5];simp [innN,hd])
   have hdd:kidEs (L.drop (i+1))=e3 :: (es3++kidEs (L.drop (i+2))):=by
    rw [← List.getElem_cons_drop hi2,e2',kidEs,List.flatMap_cons,e4];rfl
   rw [hdd] at hb s5
   rcases List.mem_cons.1 hb with rfl | hb
   ·exact hxe
   ·exact less_trans hxe ((List.pairwise_cons.1 s5).1 b hb)
theorem NdT.count {f:Nat→List Int}:∀ {h:Nat} {nd:Nd} {es:List En} {ps:List Nat},NdT f h nd es ps→leastN nd≤ndSize nd→ps.length+4≤es.length∧4*8 ^ h≤es.length
 | 0,_,es,_,⟨h1,h2⟩,hz=>by
  subst h1 h2
  simp only [leastN,ndSize,if_true] at hz
  simpa using hz
 | h+1,_,_,_,⟨L,h1,h2,h3,h4⟩,hz=>by
  subst h1 h2 h3
  have key:∀ M:List Kid,(∀ k∈M,KidOk f h k)→(kidPs M).length+3*M.length≤(kidEs M).length∧M.length*(4*8 ^ h)≤(kidEs M).length:=by
   intro M
   induction M with
   | nil=>intro _;simp [kidPs,kidEs]
   | cons k M ih=>
    intro hM
    obtain ⟨i1,i2⟩:=ih (fun q hq=>hM q (List.mem_cons_of_mem _ hq))
    obtain ⟨c1,c2⟩:=(hM k List.mem_cons_self).2.2.2.count (hM k List.mem_cons_self).2.1
    rw [show kidPs (k :: M)=(k.a :: k.ps)++kidPs M from rfl,show kidEs (k :: M)=k.es++kidEs M from rfl]
    simp only [List.length_append,List.length_cons]
    refine ⟨by omega,?_⟩
    rw [Nat.succ_mul]
    omega
  obtain ⟨k1,k2⟩:=key L h4
  have hl:8≤L.length:=by simpa [leastN,ndSize,innN] using hz
  refine ⟨by omega,?_⟩
  have:=Nat.mul_le_mul_right (4*8 ^ h) hl
  rw [Nat.pow_succ]
  omega
theorem NdT.rootCount {f:Nat→List Int} {h:Nat} {nd:Nd} {es:List En} {ps:List Nat} (H:NdT f h nd es ps) (hz:2≤ndSize nd∨h=0):ps.length≤es.length∧(0<h→8 ^ h≤es.length):=by
 cases h with
 | zero=>obtain ⟨rfl,rfl⟩:=H;simp
 | succ h=>
  obtain ⟨L,rfl,rfl,rfl,h4⟩:=H
  have hl:2≤L.length:=by rcases hz with hz | hz;simpa [ndSize,innN] using hz;cases hz
  have key:∀ M:List Kid,(∀ k∈M,KidOk f h k)→(kidPs M).length+3*M.length≤(kidEs M).length∧M.length*(4*8 ^ h)≤(kidEs M).length:=by
   intro M
   induction M with
   | nil=>intro _;simp [kidPs,kidEs]
   | cons k M ih=>
    intro hM
    obtain ⟨i1,i2⟩:=ih (fun q hq=>hM q (List.mem_cons_of_mem _ hq))
    obtain ⟨c1,c2⟩:=(hM k List.mem_cons_self).2.2.2.count (hM k List.mem_cons_self).2.1
    rw [show kidPs (k :: M)=(k.a :: k.ps)++kidPs M from rfl,show kidEs (k :: M)=k.es++kidEs M from rfl]
    simp only [List.length_append,List.length_cons]
    refine ⟨by omega,?_⟩
    rw [Nat.succ_mul]
    omega
  obtain ⟨k1,k2⟩:=key L h4
  refine ⟨by omega,fun _=>?_⟩
  have:=Nat.mul_le_mul_right (4*8 ^ h) hl
  rw [Nat.pow_succ]
  omega
section
structure Us (N:Nat) (m:List Bool) (U:List Nat):Prop where
 u:Used m U
 n:U.Nodup
 b:∀ p∈U,2≤p∧p+1≤N
section
variable {N:Nat} {m o:List Bool} {U V:List Nat} {a:Nat}
theorem Us.perm (h:Us N m U) (hp:U.Perm V):Us N m V:=⟨h.u.perm hp,hp.nodup_iff.1 h.n,fun p hp'=>h.b p (hp.mem_iff.2 hp')⟩
theorem Us.give [Inhabited Sanct] (h:Us N m (a :: V)):Us N (setN false m a 1) V:=⟨h.u.give (List.Perm.refl _) h.n (h.b a List.mem_cons_self).1,(List.nodup_cons.1 h.n).2,fun p hp=>h.b p (List.mem_cons_of_mem _ hp)⟩
theorem Us.take [Inhabited Sanct] (h:Us N m U) (hm:MapOk N m) (hf:FreeRun m o a 1) (ha:a+1≤N):Us N (setN true m a 1) (a :: U):=
 ⟨(h.u.take hf).1,List.nodup_cons.2 ⟨(h.u.take hf).2,h.n⟩,fun p hp=>by
  rcases List.mem_cons.1 hp with rfl | hp
  ·exact ⟨hm.free_ge hf,ha⟩
  ·exact h.b p hp⟩
theorem Us.at_ (h:Us N m U) {p:Nat} (hp:p∈U):m[p]?=some true:=(h.u p).2 (.inr hp)
end
theorem SameAt.trans [Inhabited Sanct] {f g h:Nat→List Int} {a:Nat} (h1:SameAt f g a) (h2:SameAt g h a):SameAt f h a:=fun s k1 k2=>(h2 s k1 k2).trans (h1 s k1 k2)
theorem Wrs.done [Inhabited Sanct] {N:Nat} {o:List Bool}:∀ {L:List Nd} {ts:List Nat} {m m1:List Bool} {f f1:Nat→List Int} {U:List Nat},Wrs N o L ts m f m1 f1→MapOk N m→Us N m U →
  Us N m1 (ts++U)∧(∀ p∈U,SameAt f f1 p) ∧ ∀ (i:Nat) (nd:Nd) (a:Nat),L[i]?=some nd→ts[i]?=some a→PageAt f1 a (kindN nd) (ndB nd)
 | [],[],_,_,_,_,_,⟨h1,h2⟩,_,hU=>by
  subst h1 h2
  exact ⟨hU,fun p _ s _ _=>rfl,fun i nd a hi=>by simp at hi⟩
 | x :: L,b :: ts,m,m1,f,f1,U,⟨g,k1,k2,k3,k4⟩,hm,hU=>by
  obtain ⟨d1,d2,d3⟩:=k4.done (hm.set _ (hm.free_ge k2) k1) (hU.take hm k2 k1)
  have hb:b ∉ U:=(List.nodup_cons.1 (hU.take hm k2 k1).n).1
  refine ⟨d1.perm List.perm_middle,fun p hp=>(k3.2 p (fun e=>hb (e▸hp))).trans (d2 p (List.mem_cons_of_mem _ hp)),fun i nd a hi ha=>?_⟩
  cases i with
  | zero=>
   injection hi with hi
   injection ha with ha
   subst hi ha
   exact (d2 b List.mem_cons_self).page k3.1
  | succ i=>exact d3 i nd a (by simpa using hi) (by simpa using ha)
 | [],_ :: _,_,_,_,_,_,h,_,_=>h.elim
 | _ :: _,[],_,_,_,_,_,h,_,_=>h.elim
def kidsOf (P:List Pc) (ts:List Nat):List Kid:=(P.zip ts).map (fun q=>⟨q.2,q.1.n,q.1.es,q.1.ps⟩)
theorem kidsOf_cons (p:Pc) (P:List Pc) (t:Nat) (ts:List Nat):kidsOf (p :: P) (t :: ts)=⟨t,p.n,p.es,p.ps⟩ :: kidsOf P ts:=rfl
theorem kidsOf_all [Inhabited Sanct]:∀ (P:List Pc) (ts:List Nat),P.length=ts.length→(kidsOf P ts).map (fun k=>ndLeast k.n)=(P.map Pc.n).map ndLeast∧(kidsOf P ts).map Kid.a=ts∧kidEs (kidsOf P ts)=P.flatMap Pc.es∧(kidPs (kidsOf P ts)).Perm (ts++P.flatMap Pc.ps)
 | [],[],_=>⟨rfl,rfl,rfl,List.Perm.refl _⟩
 | p :: P,t :: ts,h=>by
  obtain ⟨h1,h2,h3,h4⟩:=kidsOf_all P ts (by simpa using h)
  rw [kidsOf_cons]
  refine ⟨by simp [h1],by simp [h2],?_,?_⟩
  ·rw [kidEs,List.flatMap_cons,List.flatMap_cons,← h3];rfl
  ·rw [kidPs,List.flatMap_cons,List.flatMap_cons]
   show ((t :: p.ps)++kidPs (kidsOf P ts)).Perm _
   refine (List.Perm.append_left _ h4).trans ?_
   refine List.Perm.cons t ?_
   show (p.ps++(ts++List.flatMap Pc.ps P)).Perm (ts++(p.ps++List.flatMap Pc.ps P))
   rw [← List.append_assoc,← List.append_assoc]
   exact List.Perm.append_right _ List.perm_append_comm
 | [],_ :: _,h=>by simp at h
 | _ :: _,[],h=>by simp at h
structure Ins (f:Nat→List Int) (h:Nat) (nd:Nd) (x:En) (es:List En) (P:List Pc):Prop where
 len:P.length=1∨(P.length=2 ∧ ∀ p∈P,leastN p.n≤ndSize p.n)
 ok:∀ p∈P,NdT f h p.n p.es p.ps∧NdOk p.n∧(leastN nd≤ndSize nd→leastN p.n≤ndSize p.n)∧(p.n.lf=true∨2≤p.n.ts.length)
 es:(P.flatMap Pc.es).Perm (x :: es)
 sp:Sp (P.flatMap Pc.es)
theorem NdT.lf {f:Nat→List Int} {h:Nat} {nd:Nd} {es:List En} {ps:List Nat} (H:NdT f h nd es ps):nd.lf=decide (h=0):=by
 cases h with
 | zero=>rw [H.1];rfl
 | succ h=>obtain ⟨L,rfl,_⟩:=H;rfl
theorem Ins.of [Inhabited Sanct] {f:Nat→List Int} {h:Nat} {nd nd':Nd} {x:En} {es es':List En} {ps':List Nat} (H:NdT f h nd' es' ps') (hf:nd.lf=nd'.lf) (hz:ndSize nd≤ndSize nd') (h2:nd.lf=true∨2≤ndSize nd) (hp:es'.Perm (x :: es)) (hs:Sp es') (hg:∀ e∈es',EnG e) (hm:ndSize nd'≤mostN nd'+1) (h1:1≤ndSize nd') (hn:ps'.Nodup) (hb:∀ p∈ps',2≤p∧p≤511) :
  ∃ P:List Pc,splitL nd'=P.map Pc.n∧P.flatMap Pc.ps=ps'∧Ins f h nd x es P:=by
 obtain ⟨P,p1,p2,p3,p4,p5⟩:=split_pcs H hs hg h1 hm hn hb
 refine ⟨P,p1,p3,p5,fun p hp'=>?_,by rw [p2];exact hp,by rw [p2];exact hs⟩
 obtain ⟨q1,q2,q3⟩:=p4 p hp'
 refine ⟨q1,q2,fun hl=>q3 ?_,?_⟩
 ·have:leastN nd'=leastN nd:=by unfold leastN;rw [hf]
  omega
 ·have e1:=q1.lf
  have e2:=H.lf
  rcases h2 with h2 | h2
  ·exact .inl (by rw [e1,← e2,← hf];exact h2)
  ·rcases Bool.eq_false_or_eq_true p.n.lf with hl | hl
   ·exact .inl hl
   ·refine .inr ?_
    have hl':nd'.lf=false:=by rw [e2,← e1];exact hl
    have:ndSize p.n=p.n.ts.length:=by unfold ndSize;rw [hl];rfl
    rw [← this]
    rcases p5 with p5 | ⟨_,p5⟩
    ·obtain ⟨q,rfl⟩:∃ q,P=[q]:=by match P,p5 with | [q],_=>exact ⟨q,rfl⟩
     rcases List.mem_singleton.1 hp' with rfl
     have hq:p.n=nd':=by
      unfold splitL at p1
      split at p1
      ·simpa using p1.symm
      ·simp at p1
     rw [hq];omega
    ·have:=p5 p hp'
     unfold leastN at this
     rw [hl] at this
     simp at this
     omega
theorem NdT.grow [Inhabited Sanct] {L:List Kid} {i:Nat} {k:Kid} {P:List Pc} {ts:List Nat} (hi:L[i]?=some k) (hl:P.length=ts.length) :
  let M:=L.take i++(kidsOf P ts++L.drop (i+1))
  (innN M).ks=(innN L).ks.take i++(P.map Pc.n).map ndLeast++(innN L).ks.drop (i+1)∧(innN M).ts=(innN L).ts.take i++ts++(innN L).ts.drop (i+1)∧M.length+1=L.length+P.length∧kidEs M=kidEs (L.take i)++(P.flatMap Pc.es++kidEs (L.drop (i+1)))∧(kidPs M).Perm (ts++(P.flatMap Pc.ps++(kidPs (L.take i)++kidPs (L.drop (i+1))))):=by
 obtain ⟨h1,h2,h3,h4⟩:=kidsOf_all P ts hl
 have hil:=(List.getElem?_eq_some_iff.1 hi).1
 intro M
 refine ⟨?_,?_,?_,?_,?_⟩
 ·show M.map _=_
  simp only [M,List.map_append,h1,innN,List.map_take,List.map_drop,List.append_assoc]
 ·show M.map _=_
  simp only [M,List.map_append,h2,innN,List.map_take,List.map_drop,List.append_assoc]
 ·have:(kidsOf P ts).length=P.length:=by simp [kidsOf,hl]
  simp only [M,List.length_append,List.length_take,List.length_drop,this]
  omega
 ·simp only [M,kidEs,List.flatMap_append]
  rw [← h3];rfl
 ·have e:kidPs M=kidPs (L.take i)++(kidPs (kidsOf P ts)++kidPs (L.drop (i+1))):=by simp only [M,kidPs,List.flatMap_append]
  rw [e]
  refine (List.Perm.append_left _ (List.Perm.append_right _ h4)).trans ?_
  rw [List.append_assoc]
  generalize kidPs (L.take i)=X
  generalize kidPs (L.drop (i+1))=Y
  generalize P.flatMap Pc.ps=Q
  rw [← List.append_assoc X ts]
  refine (List.Perm.append_right _ List.perm_append_comm).trans ?_
  rw [List.append_assoc]
  refine List.Perm.append_left _ ?_
  rw [← List.append_assoc X,← List.append_assoc Q]
  exact List.Perm.append_right _ List.perm_append_comm
end
end Go.Proofs.YtnhkikebfinejaaGreatDoor.Z
