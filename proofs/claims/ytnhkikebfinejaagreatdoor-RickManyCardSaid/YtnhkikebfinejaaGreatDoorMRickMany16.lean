/- Texts of this claim, laid together. No conditions. -/
import Derived.Test.YtnhkikebfinejaaGreatDoorMRickMany15
import Derived.Lib.Overlaps
import Derived.Lib.AppendZerosOnto
import Derived.Shelf.Spec.SlicesInsert
import Derived.Shelf.Spec.SlicesInsertGrow
set_option linter.unusedVariables false
set_option linter.unusedSimpArgs false
set_option maxRecDepth 100000
set_option maxHeartbeats 16000000
namespace Go.Proofs.YtnhkikebfinejaaGreatDoor.Z
open Go Go.RowKit Go.Proofs.YtnhkikebfinejaaGreatDoorW.PrintWords Go.Proofs.YtnhkikebfinejaaGreatDoorW.PrintLast Go.Proofs.YtnhkikebfinejaaGreatDoorW.PrintMore Go.Proofs.YtnhkikebfinejaaGreatDoor.S Go.Proofs.YtnhkikebfinejaaGreatDoor.X
section
attribute [local go_sem ↓] Go.wp_at_zero Go.wp_at_succ loadKey_eq loadEn_eq storeKey_eq storeEn_eq loadNd_eq storeNd_eq loadMap_eq storeMap_eq loadTab_eq storePg_eq loadRt_eq storeRt_eq
theorem insfn_calls [Inhabited Sanct] {w:World} {gx:Nat} (x y:En) (hx:EnAt w gx x):Calls Tryz.prog 209 #[.agg (enA y),.pointer (some ⟨gx,0,none⟩)] w fun r w'=>r = .returned (.bool (lessB x.k y.k))∧Below w.heap.size w w':=by
 obtain ⟨W1,hW1⟩:∃ W,w.alloc (Obj.cells (enA y) 89)=W:=⟨_,rfl⟩
 have HB:Aside0 (Below w.heap.size w W1):=⟨by rw [← hW1];exact below_alloc (Below.refl _ _) _⟩
 obtain ⟨gy,hgy⟩:∃ q,w.heap.size=q:=⟨_,rfl⟩
 have hy:EnAt W1 gy y:=by rw [← hW1];exact en_new y hgy
 have hx1:EnAt W1 gx x:=hx.below HB.out
 have hlx:=ld_en (g:=gx) (e:=x)
 have hly:=ld_en (g:=gy) (e:=y)
 have HL:Aside0 (∀ W,Calls Tryz.prog 134 #[.agg (keyA x.k),.agg (keyA y.k)] W fun e w'=>e = .returned (.bool (lessB x.k y.k))∧Below W.heap.size W w'):=⟨fun W=>less_calls x.k y.k⟩
 clear hx
 go_enter Tryz.func209,Tryz.ntmps209
 go_wp2_with (go_at_call 134;(with_reducible refine (HL.out _).mono ?_);rintro e w2 ⟨rfl,h2⟩;have HB2:=Aside0.mk (below_step HB.out h2);clear h2)
 go_ret
 exact ⟨rfl,HB2.out⟩
def insAt (x:En) (es:List En):Nat:=es.findIdx (fun y=>lessB x.k y.k)
theorem insAt_le (x:En) (es:List En):insAt x es≤es.length:=List.findIdx_le_length
theorem insAt_eq {x y:En} {es:List En} {i:Nat} (h:∀ j b,j<i→es[j]?=some b→lessB x.k b.k=false) (hy:es[i]?=some y) (ht:lessB x.k y.k=true):insAt x es=i:=by
 obtain ⟨hl,he⟩:=List.getElem?_eq_some_iff.1 hy
 refine (List.findIdx_eq hl).2 ⟨by rw [he];exact ht,fun j hj=>?_⟩
 exact h j _ hj (List.getElem?_eq_getElem (by omega))
theorem insAt_len {x:En} {es:List En} (h:∀ j b,j<es.length→es[j]?=some b→lessB x.k b.k=false):insAt x es=es.length:=by
 unfold insAt
 rw [List.findIdx_eq_length]
 intro y hy
 obtain ⟨j,hj,he⟩:=List.mem_iff_getElem.1 hy
 exact h j y hj (by rw [List.getElem?_eq_getElem hj,he])
theorem index_calls [Inhabited Sanct] {w:World} {gx:Nat} {A:Option Addr} {es:List En} (x:En) (n c:Nat) (hn:es.length=n) (hn2:n≤100) (hr:REn w A es) (hx:EnAt w gx x) :
  Calls Tryz.prog 208 #[.slice A n c,.func (Fn.func 209) #[] #[.pointer (some ⟨gx,0,none⟩)]] w fun r w'=>r = .returned (.int .i64 (if insAt x es<n then (insAt x es:Int) else -1))∧Below w.heap.size w w':=by
 have HF:Aside0 (∀ W y,Below w.heap.size w W→Calls Tryz.prog 209 #[.agg (enA y),.pointer (some ⟨gx,0,none⟩)] W fun r w'=>r = .returned (.bool (lessB x.k y.k))∧Below W.heap.size W w'):=⟨fun W y hW=>insfn_calls x y (hx.below hW)⟩
 have HR:=Aside0.mk hr
 have HN:=Aside0.mk (And.intro hn hn2)
 obtain ⟨R,hR⟩:∃ z:Int,(if insAt x es<n then (insAt x es:Int) else -1)=z:=⟨_,rfl⟩
 have HRR:=Aside0.mk hR
 rw [hR]
 clear hr hn hx hn2 hR
 go_enter Tryz.func208,Tryz.ntmps208
 go_wp2
 go_loopw [8] (fun v8 wr=>∃ (i:Nat) (ii:Int),v8 = .int .i64 ii∧Aside0 (ii=(i:Int))∧Aside0 (i≤n)∧Aside0 (∀ j b,j<i→es[j]?=some b→lessB x.k b.k=false)∧Aside0 (Below w.heap.size w wr)) (fun v8 _=>((n:Int)-intOf v8).toNat)
 case atStart=>exact ⟨0,0,rfl,⟨rfl⟩,⟨Nat.zero_le _⟩,⟨fun j b hj=>by omega⟩,⟨Below.refl _ _⟩⟩
 case round=>
  obtain ⟨i,ii,rfl,HI,HIL,HA,HB⟩:=hrel
  have hi0:0≤ii∧ii≤100:=by have:=HI.out;have:=HIL.out;have:=HN.out;omega
  have e5:wrap64 (ii+1)=ii+1:=wrap64_id (by omega) (by omega)
  by_cases hlt:i<n
  ·have d1:decide (ii<(n:Int))=true:=decide_eq_true (by have:=HI.out;omega)
   have d2:(ii<(n:Int))=True:=eq_true (by have:=HI.out;omega)
   have d3:(0≤ii)=True:=eq_true (by omega)
   have eii:ii.toNat=i:=by have:=HI.out;omega
   obtain ⟨e,he⟩:∃ e,es[i]?=some e:=⟨_,List.getElem?_eq_getElem (by rw [HN.out.1];exact hlt)⟩
   obtain ⟨g,o,hA,hcc⟩:=(HR.out.below HB.out).at_ he
   have hld:(loadEnI (.pointer (some ⟨g,o+i*8,none⟩))).run Tryz.prog wr = .ok (.agg (enA e)) wr:=run_loadEn hcc
   subst hA
   have HE:=Aside0.mk he
   have HFC:=Aside0.mk (HF.out wr e HB.out)
   obtain ⟨b,hb⟩:∃ b,lessB x.k e.k=b:=⟨_,rfl⟩
   rw [hb] at HFC
   have HBB:=Aside0.mk hb
   clear he hcc hb
   cases b with
   | true=>
    go_wp2_with (go_at_call 209;(with_reducible refine HFC.out.mono ?_);rintro r w2 ⟨rfl,h2⟩;have HB2:=Aside0.mk (below_step HB.out h2);clear h2)
    go_ret
    refine ⟨?_,HB2.out⟩
    have:=HRR.out
    rw [insAt_eq HA.out HE.out HBB.out,if_pos hlt,← HI.out] at this
    rw [← this]
    rfl
   | false=>
    go_wp2_with (go_at_call 209;(with_reducible refine HFC.out.mono ?_);rintro r w2 ⟨rfl,h2⟩;have HB2:=Aside0.mk (below_step HB.out h2);clear h2)
    go_roundw
    case rel=>
     refine ⟨i+1,_,rfl,⟨by have:=HI.out;omega⟩,⟨hlt⟩,⟨fun j c hj hc=>?_⟩,HB2⟩
     rcases Nat.lt_or_ge j i with h | h
     ·exact HA.out j c h hc
     ·obtain rfl:j=i:=by omega
      have hbk:=HE.out
      rw [hc] at hbk
      injection hbk with hbk
      rw [hbk]
      exact HBB.out
    case measure=>simp [intOf];have:=HI.out;omega
  ·obtain rfl:n=i:=by have:=HIL.out;omega
   have d1:decide (ii<(n:Int))=false:=decide_eq_false (by have:=HI.out;omega)
   go_wp2
   go_ret
   refine ⟨?_,HB.out⟩
   have:=HRR.out
   rw [insAt_len (by rw [HN.out.1];exact HA.out),HN.out.1,if_neg (by omega)] at this
   rw [← this]
   rfl
end
section
section
variable {α:Type} {enc:α→List Value} {sz:Nat}
theorem reps_flat (hl:∀ x,(enc x).length=sz):∀ {xs:List α} {inner:List Value},Reps (fun x cs=>cs=enc x) sz xs inner→inner=xs.flatMap enc
 | [],inner,h=>by
  have:=h.1
  simp at this
  rw [this];rfl
 | x :: xs,inner,h=>by
  have h1:=h.2 0 x rfl
  rw [Nat.zero_mul,List.drop_zero] at h1
  have h2:Reps (fun x cs=>cs=enc x) sz xs (inner.drop sz):=by
   refine ⟨by rw [List.length_drop,h.1,List.length_cons,Nat.succ_mul];omega,fun j p hj=>?_⟩
   have:=h.2 (j+1) p hj
   rw [Nat.succ_mul] at this
   rw [List.drop_drop,Nat.add_comm]
   exact this
  have h3:=reps_flat hl h2
  rw [List.flatMap_cons,← h3,← h1,List.take_append_drop]
theorem flat_reps (hl:∀ x,(enc x).length=sz) (xs:List α):Reps (fun x cs=>cs=enc x) sz xs (xs.flatMap enc):=by
 induction xs with
 | nil=>exact Reps.none _ _
 | cons x xs ih=>
  have:=Kd.reps_append (reps_one (R:=fun x cs=>cs=enc x) (p:=x) rfl (hl x)) ih
  simpa using this
theorem flatMap_len (hl:∀ x,(enc x).length=sz) (xs:List α):(xs.flatMap enc).length=xs.length*sz:=by
 have:=(flat_reps hl xs).1
 exact this
variable {T:TypeId} {hl:∀ x,(enc x).length=sz} {h1:∀ x u,u∈enc x→u.oneCell'=true} {w:World} {base:Nat} {n c:Nat} {A:Option Addr} {xs:List α}
theorem R_cells [Inhabited Sanct] (h:(flat enc sz hl h1).R T w base (fun _=>True) (.slice A n c) xs) (h0:0<xs.length):∃ g cur,A=some ⟨g,0,none⟩∧n=xs.length∧n≤c∧c≤9223372036854775807∧base≤g∧w.heap[g]?=some (Obj.cells cur T)∧cur.size=c*sz∧cur.toList.take (n*sz)=xs.flatMap enc:=by
 obtain ⟨_,inner,⟨_,h2⟩,hr⟩:=h
 have hi:=reps_flat hl hr
 rcases h2 with ⟨h3,h4⟩ | ⟨g,cap,cur,hv,hg,hh,hn,hmx,hz,ht⟩
 ·omega
 ·injection hv with hv1 hv2 hv3
  subst hv1 hv2 hv3
  exact ⟨g,cur,rfl,rfl,hn,hmx,hg,hh,hz,ht.trans hi⟩
theorem R_of_cells [Inhabited Sanct] {g:Nat} {cur:Array Value} (hn:n=xs.length) (hnc:n≤c) (hc:c≤9223372036854775807) (hg:base≤g) (hh:w.heap[g]?=some (Obj.cells cur T)) (hz:cur.size=c*sz) (ht:cur.toList.take (n*sz)=xs.flatMap enc) :
  (flat enc sz hl h1).R T w base (fun _=>True) (.slice (some ⟨g,0,none⟩) n c) xs:=by
 subst hn
 exact ⟨fun _ _=>trivial,xs.flatMap enc,⟨flatMap_len hl xs,.inr ⟨g,c,cur,rfl,hg,hh,hnc,hc,hz,ht⟩⟩,flat_reps hl xs⟩
theorem flat_one (h1:∀ x u,u∈enc x→u.oneCell'=true) (xs:List α):∀ v∈xs.flatMap enc,v.oneCell'=true:=fun v hv=>by
 obtain ⟨x,_,hx⟩:=List.mem_flatMap.1 hv
 exact h1 x v hx
end
theorem splice2 [Inhabited Sanct] {cur:List Value} {a b:Nat} {X D:List Value} (ha:a+X.length=b) (hb:b≤cur.length):(splice (splice cur b D) a X).take (b+D.length)=cur.take a++X++D:=by
 have e1:(splice cur b D).take a=cur.take a:=by
  unfold splice
  rw [List.take_append_of_le_length (by rw [List.length_take];omega),List.take_take,Nat.min_eq_left (by omega)]
 have e2:((splice cur b D).drop (a+X.length)).take D.length=D:=by
  unfold splice
  rw [ha,List.drop_append,List.length_take,Nat.min_eq_left hb,Nat.sub_self,List.drop_zero,List.drop_of_length_le (by rw [List.length_take];omega),List.nil_append,List.take_append_of_le_length (Nat.le_refl _),List.take_length]
 rw [show splice (splice cur b D) a X=(splice cur b D).take a++(X++(splice cur b D).drop (a+X.length)) from rfl,e1,← List.append_assoc]
 have hl:(cur.take a++X).length=b:=by rw [List.length_append,List.length_take];omega
 rw [List.take_append,hl,Nat.add_sub_cancel_left,e2,List.take_of_length_le (by rw [hl];omega)]
theorem splice_len {cur r:List Value} {o:Nat} (h:o+r.length≤cur.length):(splice cur o r).length=cur.length:=by
 unfold splice
 simp only [List.length_append,List.length_take,List.length_drop]
 omega
theorem run_copy_sz [Inhabited Sanct] {P:Program} (w:World) (dT sT ty elem:TypeId) (b o dLen dCap:Nat) (a:Addr) (sLen sCap:Nat) (cs:List Value) (sz:Nat)
  (hu:P.underlying dT=some (.slice elem)) (hs:(P.info? elem).map (·.size)=some sz) (hn:cs.length=Nat.min sLen dLen*sz)
  (hsrc:∀ j v,cs[j]?=some v→w.cell? (a.add j)=some v) (hc:∀ j,j<cs.length→(w.cell? ⟨b,o+j,none⟩).isSome=true) (hf:∀ j,j<cs.length→w.frozen? ⟨b,o+j,none⟩=false) (h1:∀ v∈cs,v.oneCell'=true) :
  (Builtin.copy_ #[dT,sT] ty #[.slice (some ⟨b,o,none⟩) dLen dCap,.slice (some a) sLen sCap]).run P w = .ok (goInt (Nat.min sLen dLen)) (w.setCells b o cs):=by
 have hl:=run_loadCells_list (P:=P) w a cs hsrc
 have hst:=run_storeCells_cells (P:=P) b o cs 0 w (by simpa using hc) (by simpa using hf) h1
 cases hq:P.info? elem with
 | none=>simp [hq] at hs
 | some i=>
  have hi:i.size=sz:=by simpa [hq] using hs
  simp [Builtin.copy_,run_underlying hu,Builtin.lenOf,Builtin.firstCells,sizeOf,typeInfo,hq,hi,← hn,hl,hst]
theorem shape_blk [Inhabited Sanct] {W:World} {g:Nat} {cs:Array Value} {t:TypeId} {fr:Nat×Nat} (h:W.heap[g]?=some (Obj.cells cs t fr)):W.shape? g=some (t,cs.size):=by
 simp [World.shape?,h]
end
section
attribute [local go_sem ↓] Go.wp_at_zero Go.wp_at_succ loadKey_eq loadEn_eq storeKey_eq storeEn_eq loadNd_eq storeNd_eq loadMap_eq storeMap_eq loadTab_eq storePg_eq loadRt_eq storeRt_eq
theorem rw_of_blk {α:Type} {T:TypeId} {enc:α→List Value} {x:α} {W:World} {g:Nat} {cells:Array Value} {sz:Nat} (hg:W.heap[g]?=some (Obj.cells cells T)) (hc:cells=(enc x).toArray):Rw T enc sz W (some ⟨g,0,none⟩) [x]:=by
 refine ⟨by simp,fun _=>⟨g,0,cells,(0,0),rfl,hg,fun j y hy i u hu=>?_⟩⟩
 cases j with
 | zero=>
  injection hy with hy
  subst hy
  rw [hc]
  simpa using hu
 | succ j=>simp at hy
theorem insert_end [Inhabited Sanct] {w:World} {base:Nat} {A:Option Addr} {n c:Nat} {es:List En} (x:En) (hR:kE.R 89 w base (fun _=>True) (.slice A n c) es) (hn:es.length=n) (h0:1≤n) (h1:n≤100) (vb:Nat) (hx:EnAt w vb x) (hbase:base≤w.heap.size) :
  Calls Tryz.prog 210 #[.slice A n c,.int .i64 (n:Int),.slice (some ⟨vb,0,none⟩) 1 1] w fun e w'=>∃ v',e = .returned v'∧kE.R 89 w' base (fun _=>True) v' (es++[x])∧Fr w w' (fun k=>(Value.slice A n c).ownBlock=some k):=by
 obtain ⟨g,cur,rfl,-,hnc,-,-,hh,-,-⟩:=R_cells hR (by omega)
 have HR:=Aside0.mk hR
 have HN:=Aside0.mk (And.intro hn (And.intro h0 (And.intro h1 (And.intro hx hbase))))
 have d1:(0≤(n:Int))=True:=eq_true (by omega)
 have d2:(n≤c)=True:=eq_true (by omega)
 have d3:((n:Int)≤(c:Int))=True:=eq_true (by omega)
 have d4:(n≤n)=True:=eq_true (Nat.le_refl _)
 clear hR hn hx hbase hh
 go_enter Tryz.func210,Tryz.ntmps210
 by_cases hcn:c=n
 ·have d5:(c=n)=True:=eq_true hcn
  go_wp2_with ((with_reducible refine gate_builtin (b:=.append) (xs:=#[.tmp 23,.tmp 24]) rfl ?_);at_builtin;refine hold ?_)
  unfold Hold
  refine Kd.R_append_rows kE (Rr:=fun x (cs:List Value)=>cs=enC x) (w0:=w) base rfl (.tmp 23) (.tmp 24) 159 89 (.agg zEn) 64 rfl Tryz.underlying159 info_en rfl (by decide) (by decide) _ es [x] (some ⟨vb,0,none⟩) 1 1 (fun _=>True) (fun _=>False) rfl rfl HR.out ((rw_of_blk (enc:=enC) (sz:=8) HN.out.2.2.2.1 rfl).reads en_len 1 rfl) (fun _ _ h=>h) (fun _ hk=>hk.elim) (fun _ _=>trivial) (Below.refl _ _) HN.out.2.2.2.2 (by have:=HN.out;omega) ?_
  intro v9 w9 ho hb hg hat
  have H9:=Aside0.mk (And.intro ho hg)
  clear ho hb hg hat
  go_wp2
  go_ret
  exact ⟨v9,rfl,H9.out.1,(Fr.refl w _).grown H9.out.2 (fun k hk=>.inl hk)⟩
 ·have d5:(c=n)=False:=eq_false hcn
  go_wp2_with ((with_reducible refine gate_builtin (b:=.append) (xs:=#[.tmp 23,.tmp 24]) rfl ?_);at_builtin;refine hold ?_)
  unfold Hold
  refine Kd.R_append_rows kE (Rr:=fun x (cs:List Value)=>cs=enC x) (w0:=w) base rfl (.tmp 23) (.tmp 24) 159 89 (.agg zEn) 64 rfl Tryz.underlying159 info_en rfl (by decide) (by decide) _ es [x] (some ⟨vb,0,none⟩) 1 1 (fun _=>True) (fun _=>False) rfl rfl HR.out ((rw_of_blk (enc:=enC) (sz:=8) HN.out.2.2.2.1 rfl).reads en_len 1 rfl) (fun _ _ h=>h) (fun _ hk=>hk.elim) (fun _ _=>trivial) (Below.refl _ _) HN.out.2.2.2.2 (by have:=HN.out;omega) ?_
  intro v9 w9 ho hb hg hat
  have H9:=Aside0.mk (And.intro ho hg)
  clear ho hb hg hat
  go_wp2
  go_ret
  exact ⟨v9,rfl,H9.out.1,(Fr.refl w _).grown H9.out.2 (fun k hk=>.inl hk)⟩
theorem insert_shift [Inhabited Sanct] {w:World} {base:Nat} {A:Option Addr} {n c:Nat} {es:List En} (x:En) (i:Nat) (hi:i<n) (hnc:n+1≤c) (hR:kE.R 89 w base (fun _=>True) (.slice A n c) es) (hn:es.length=n) (h1:n≤100) (vb:Nat) (hx:EnAt w vb x) (hvb:(Value.slice A n c).ownBlock≠some vb) :
  Calls Tryz.prog 210 #[.slice A n c,.int .i64 (i:Int),.slice (some ⟨vb,0,none⟩) 1 1] w fun e w'=>∃ v',e = .returned v'∧kE.R 89 w' base (fun _=>True) v' (es.take i++x :: es.drop i)∧Fr w w' (fun k=>(Value.slice A n c).ownBlock=some k):=by
 have hn0:0<es.length:=by omega
 have hc0:c≠0:=by omega
 have d1:(0≤(i:Int))=True:=eq_true (by omega)
 have d2:(i≤n)=True:=eq_true (by omega)
 have d2':((i:Int)≤(n:Int))=True:=eq_true (by omega)
 have d3:(i≤c)=True:=eq_true (by omega)
 have d3':((i:Int)≤(c:Int))=True:=eq_true (by omega)
 have d4:(c=i)=False:=eq_false (by omega)
 have d5:((i:Int) == (n:Int))=false:=beq_eq_false_iff_ne.mpr (by omega)
 have d5':(i == n)=false:=beq_eq_false_iff_ne.mpr (by omega)
 have d6:(c=i+1)=False:=eq_false (by omega)
 obtain ⟨n1,hn1⟩:∃ q:Int,(n:Int)+1=q:=⟨_,rfl⟩
 obtain ⟨i1,hi1⟩:∃ q:Int,(i:Int)+1=q:=⟨_,rfl⟩
 have e1:IntKind.i64.wrap ((n:Int)+1)=n1:=by rw [hn1];exact i64_id (by omega) (by omega)
 have e1':wrap64 ((n:Int)+1)=n1:=by rw [hn1];exact wrap64_id (by omega) (by omega)
 have e2:IntKind.i64.wrap ((i:Int)+1)=i1:=by rw [hi1];exact i64_id (by omega) (by omega)
 have e2':wrap64 ((i:Int)+1)=i1:=by rw [hi1];exact wrap64_id (by omega) (by omega)
 have e3:n1.toNat=n+1:=by omega
 have e4:i1.toNat=i+1:=by omega
 have d7:decide ((c:Int)<n1)=false:=decide_eq_false (by omega)
 have d8:(0≤n1)=True:=eq_true (by omega)
 have d9:(n1≤(c:Int))=True:=eq_true (by omega)
 have d10:(0≤i1)=True:=eq_true (by omega)
 have d11:(i1≤((n+1:Nat):Int))=True:=eq_true (by omega)
 have d12:(i1≤(c:Int))=True:=eq_true (by omega)
 have d13:(i1≤(n:Int)+1)=True:=eq_true (by omega)
 have d14:((i:Int)≤(n:Int)+1)=True:=eq_true (by omega)
 have d15:(i≤n+1)=True:=eq_true (by omega)
 have d16:(i1≤n1)=True:=eq_true (by omega)
 have d17:((i:Int)≤n1)=True:=eq_true (by omega)
 have d18:n+1-(i+1)=n-i:=by omega
 have m1:Nat.min (n+1-i) (n-i)=n-i:=Nat.min_eq_right (by omega)
 have m2:Nat.min 1 (n+1-i)=1:=Nat.min_eq_left (by omega)
 have m3:(i+1)*8+(n-i)*8≤c*8:=by omega
 have m4:i*8+8=(i+1)*8:=by omega
 have m5:(i+1)*8+(n-i)*8=(n+1)*8:=by omega
 have m6:i*8≤n*8:=by omega
 have m7:i*8+8≤c*8:=by omega
 have m8:(i+1)*8≤c*8:=by omega
 have m9:n+1=i+(n-i+1):=by omega
 obtain ⟨g,cur,rfl,-,-,hcm,hbg,hh,hsz,htk⟩:=R_cells hR hn0
 have hcz:cur.size≠0:=by rw [hsz];exact Nat.mul_ne_zero hc0 (by decide)
 have hne:vb≠g:=fun e=>hvb (by simp [Value.ownBlock,e])
 obtain ⟨i0,hi0,hi8⟩:∃ i0,Tryz.prog.info? 89=some i0∧i0.size=8:=by
  have:=en_size
  cases hq:Tryz.prog.info? 89 with
  | none=>rw [hq] at this;simp at this
  | some i0=>rw [hq] at this;exact ⟨i0,rfl,by simpa using this⟩
 have hov:∀ lb cb,(callFunc 240 #[.slice (some ⟨vb,0,none⟩) 1 1,.slice (some ⟨g,(i+1)*8,none⟩) lb cb]).run Tryz.prog w = .ok (.value (.bool false)) w:=fun lb cb=>by
  rw [run_callFunc_extern Tryz.func240 (by kernel_rfl) (by kernel_rfl) (by kernel_rfl) (e:=Extern.SlicesOverlaps.overlaps #[159,159] #[4]) (by kernel_rfl),
   Lib.run_overlaps_apart w 159 4 89 Tryz.underlying159 8 (fun w=>by simp [sizeOf,typeInfo,hi0,hi8]) ⟨vb,0,none⟩ ⟨g,(i+1)*8,none⟩ 1 1 lb cb hne _ _ _ _ (shape_blk hx) (shape_blk hh) hcz (blk_frozen hx _) (blk_frozen hx _)]
  rfl
 have HR:=Aside0.mk hR
 obtain ⟨D,hD⟩:∃ D,(es.drop i).flatMap enC=D:=⟨_,rfl⟩
 have hDl:D.length=(n-i)*8:=by rw [← hD,flatMap_len en_len,List.length_drop,hn]
 have hT:cur.toList.take (i*8)=(es.take i).flatMap enC:=by
  have h3:(cur.toList.take (n*8)).take (i*8)=(es.flatMap enC).take (i*8):=by rw [htk]
  rw [List.take_take,Nat.min_eq_left m6] at h3
  rw [h3]
  conv=>lhs;rw [← List.take_append_drop i es,List.flatMap_append]
  rw [List.take_append_of_le_length (by rw [flatMap_len en_len,List.length_take,hn];exact Nat.le_of_eq (by rw [Nat.min_eq_left (Nat.le_of_lt hi)])),List.take_of_length_le (by rw [flatMap_len en_len,List.length_take,hn];exact Nat.le_of_eq (by rw [Nat.min_eq_left (Nat.le_of_lt hi)]))]
 have hsrc:∀ j v,D[j]?=some v→cur.toList[i*8+j]?=some v:=fun j v hj=>by
  have h3:(cur.toList.take (n*8))[i*8+j]?=some v:=by
   rw [htk]
   conv=>lhs;rw [← List.take_append_drop i es,List.flatMap_append]
   rw [List.getElem?_append_right (by rw [flatMap_len en_len,List.length_take,hn,Nat.min_eq_left (Nat.le_of_lt hi)];exact Nat.le_add_right _ _),flatMap_len en_len,List.length_take,hn,Nat.min_eq_left (Nat.le_of_lt hi),Nat.add_sub_cancel_left,hD]
   exact hj
  rw [List.getElem?_take] at h3
  split at h3
  ·exact h3
  ·cases h3
 obtain ⟨cur1,hc1⟩:∃ C,(splice cur.toList ((i+1)*8) D).toArray=C:=⟨_,rfl⟩
 have hs1:cur1.size=c*8:=by rw [← hc1,List.size_toArray,splice_len (by rw [hDl,Array.length_toList,hsz];exact m3),Array.length_toList,hsz]
 obtain ⟨W1,hW1⟩:∃ W,w.drew.setCells g ((i+1)*8) D=W:=⟨_,rfl⟩
 have hW1r:W1=w.drew.setRow g cur1:=by rw [← hW1,← hc1];exact setCells_row g _ _ _ _ _ _ hh (by rw [hDl,hsz];exact m3)
 have hg1:W1.heap[g]?=some (Obj.cells cur1 89):=by rw [hW1r];exact setRow_heap _ _ _ _ _ _ hh
 have hx1:EnAt W1 vb x:=by rw [hW1r];exact (setRow_other _ _ _ _ hne).trans hx
 have hcp1:∀ ty,(Builtin.copy_ #[159,159] ty #[.slice (some ⟨g,(i+1)*8,none⟩) (n-i) (c-(i+1)),.slice (some ⟨g,i*8,none⟩) (n+1-i) (c-i)]).run Tryz.prog w.drew = .ok (goInt ((n-i:Nat):Int)) W1:=fun ty=>by
  have:=run_copy_sz (P:=Tryz.prog) w.drew 159 159 ty 89 g ((i+1)*8) (n-i) (c-(i+1)) ⟨g,i*8,none⟩ (n+1-i) (c-i) D 8 Tryz.underlying159 en_size (by rw [hDl,m1])
   (fun j v hj=>by rw [add_none];rw [cell_of_row w.drew g _ _ _ _ hh];simpa using hsrc j v hj)
   (fun j hj=>by rw [cell_of_row w.drew g _ _ _ _ hh,Array.getElem?_eq_getElem (by rw [hsz];rw [hDl] at hj;exact Nat.lt_of_lt_of_le (Nat.add_lt_add_left hj _) m3)];rfl)
   (fun j hj=>blk_frozen (w:=w.drew) hh _) (by rw [← hD];exact flat_one en_one _)
  rw [m1,hW1] at this
  exact this
 obtain ⟨cur2,hc2⟩:∃ C,(splice cur1.toList (i*8) (enC x)).toArray=C:=⟨_,rfl⟩
 have hs2:cur2.size=c*8:=by rw [← hc2,List.size_toArray,splice_len (by rw [en_len,Array.length_toList,hs1];exact m7),Array.length_toList,hs1]
 obtain ⟨W2,hW2⟩:∃ W,W1.setCells g (i*8) (enC x)=W:=⟨_,rfl⟩
 have hW2r:W2=W1.setRow g cur2:=by rw [← hW2,← hc2];exact setCells_row g _ _ _ _ _ _ hg1 (by rw [en_len,hs1];exact m7)
 have hcp2:∀ ty,(Builtin.copy_ #[159,159] ty #[.slice (some ⟨g,i*8,none⟩) (n+1-i) (c-i),.slice (some ⟨vb,0,none⟩) 1 1]).run Tryz.prog W1 = .ok (goInt 1) W2:=fun ty=>by
  have:=run_copy_sz (P:=Tryz.prog) W1 159 159 ty 89 g (i*8) (n+1-i) (c-i) ⟨vb,0,none⟩ 1 1 (enC x) 8 Tryz.underlying159 en_size (by rw [m2];rfl)
   (fun j v hj=>by rw [add_none,Nat.zero_add,cell_of_row W1 vb _ _ _ _ hx1];simpa [enA] using hj)
   (fun j hj=>by rw [cell_of_row W1 g _ _ _ _ hg1,Array.getElem?_eq_getElem (by rw [hs1];exact Nat.lt_of_lt_of_le (Nat.add_lt_add_left hj _) m7)];rfl)
   (fun j hj=>blk_frozen (w:=W1) hg1 _) (en_one x)
  rw [m2,hW2] at this
  exact this
 have HFIN:Aside0 (kE.R 89 W2 base (fun _=>True) (.slice (some ⟨g,0,none⟩) (n+1) c) (es.take i++x :: es.drop i)∧Fr w W2 (fun k=>(Value.slice (some ⟨g,0,none⟩) n c).ownBlock=some k)):=⟨by
  refine ⟨R_of_cells (cur:=cur2) ?_ hnc hcm hbg (by rw [hW2r];exact setRow_heap _ _ _ _ _ _ hg1) hs2 ?_,?_⟩
  ·rw [List.length_append,List.length_cons,List.length_take,List.length_drop,hn,Nat.min_eq_left (Nat.le_of_lt hi)];exact m9
  ·have:=splice2 (cur:=cur.toList) (a:=i*8) (b:=(i+1)*8) (X:=enC x) (D:=D) m4 (by rw [Array.length_toList,hsz];exact m8)
   rw [hDl,m5] at this
   rw [← hc2,← hc1]
   show (splice (splice cur.toList ((i+1)*8) D) (i*8) (enC x)).take ((n+1)*8)=_
   rw [this,hT,← hD,List.flatMap_append,List.flatMap_cons,List.append_assoc]
  ·rw [hW2r,hW1r]
   exact Fr.setRow (S:=fun k=>(Value.slice (some ⟨g,0,none⟩) n c).ownBlock=some k) (Fr.setRow (S:=fun k=>(Value.slice (some ⟨g,0,none⟩) n c).ownBlock=some k) ((Fr.refl w _).drew) (.inl rfl) _) (.inl rfl) _⟩
 clear HR hW1 hW2 hW1r hW2r hg1 hx1 hs1 hs2 hsrc hT hDl hD hc1 hc2 m1 m2 m3 m4 m5 m6 m7 m8 m9
 have HH:=Aside0.mk (And.intro hh (And.intro hsz (And.intro htk (And.intro hn (And.intro h1 (And.intro hx (And.intro hbg hcm)))))))
 clear hn0 hcz hc0
 clear hh hR hsz htk hn hx hvb hbg hcm hn1 hi1
 go_enter Tryz.func210,Tryz.ntmps210
 go_wp2_with (simp only [hov])
 go_region_held3 (fun w'=>True) (trivial)
  ((refine step_copy_runI rfl (.tmp 73) (.tmp 76) 159 159 rfl _ _ rfl rfl (hcp1 _) ?_))
 go_wp2_with (at_builtin;refine wpList_copy_runI _ rfl _ _ 159 159 rfl _ _ rfl rfl (hcp2 _) ?_)
 go_ret
 exact ⟨_,rfl,HFIN.out.1,HFIN.out.2⟩
end
section
attribute [local go_sem ↓] Go.wp_at_zero Go.wp_at_succ loadKey_eq loadEn_eq storeKey_eq storeEn_eq loadNd_eq storeNd_eq loadMap_eq storeMap_eq loadTab_eq storePg_eq loadRt_eq storeRt_eq
theorem splice3 [Inhabited Sanct] {cur:List Value} {a b:Nat} {X D:List Value} (ha:a+X.length=b) (hb:b≤cur.length):(splice (splice cur a X) b D).take (b+D.length)=cur.take a++X++D:=by
 have e1:(splice cur a X).take b=cur.take a++X:=by
  unfold splice
  rw [← List.append_assoc,List.take_append_of_le_length (by rw [List.length_append,List.length_take];omega),List.take_of_length_le (by rw [List.length_append,List.length_take];omega)]
 rw [show splice (splice cur a X) b D=(splice cur a X).take b++(D++(splice cur a X).drop (b+D.length)) from rfl,e1]
 have hl:(cur.take a++X).length=b:=by rw [List.length_append,List.length_take];omega
 rw [← List.append_assoc,List.take_append_of_le_length (by rw [List.length_append,hl];omega),List.take_of_length_le (by rw [List.length_append,hl];omega)]
theorem zeros_size [Inhabited Sanct] (z:Array Value) (k:Nat):(Builtin.zeroCells z k).size=k*z.size:=by simp [Builtin.zeroCells]
theorem grown_row [Inhabited Sanct] {T:List Value} {z:Array Value} {i k G sz:Nat} (hT:T.length=i*sz) (hz:z.size=sz) (hG:i+k≤G):(T.toArray++Builtin.zeroCells z k++Builtin.zeroCells z (G-(i+k))).size=G*sz∧(T.toArray++Builtin.zeroCells z k++Builtin.zeroCells z (G-(i+k))).toList.take (i*sz)=T:=by
 refine ⟨?_,?_⟩
 ·rw [Array.size_append,Array.size_append,zeros_size,zeros_size,List.size_toArray,hT,hz,← Nat.add_mul,← Nat.add_mul]
  congr 1
  omega
 ·rw [Array.toList_append,Array.toList_append,List.append_assoc,List.toList_toArray,List.take_append_of_le_length (Nat.le_of_eq hT.symm),List.take_of_length_le (Nat.le_of_eq hT)]
theorem insert_grow [Inhabited Sanct] {w:World} {base:Nat} {A:Option Addr} {n c:Nat} {es:List En} (x:En) (i:Nat) (hi:i<n) (hnc:c<n+1) (hR:kE.R 89 w base (fun _=>True) (.slice A n c) es) (hn:es.length=n) (h1:n≤100) (vb:Nat) (hx:EnAt w vb x) (hbase:base≤w.heap.size) :
  Calls Tryz.prog 210 #[.slice A n c,.int .i64 (i:Int),.slice (some ⟨vb,0,none⟩) 1 1] w fun e w'=>∃ v',e = .returned v'∧kE.R 89 w' base (fun _=>True) v' (es.take i++x :: es.drop i)∧Fr w w' (fun k=>(Value.slice A n c).ownBlock=some k):=by
 have hn0:0<es.length:=by omega
 have hn00:0<n:=by omega
 have hcn:=(Kd.R_reads' hR).2.1
 obtain rfl:c=n:=by omega
 obtain ⟨n1,hn1⟩:∃ q:Int,(c:Int)+1=q:=⟨_,rfl⟩
 obtain ⟨i1,hi1⟩:∃ q:Int,(i:Int)+1=q:=⟨_,rfl⟩
 obtain ⟨k,hk⟩:∃ k,c+1-i=k:=⟨_,rfl⟩
 have d1:(0≤(i:Int))=True:=eq_true (by omega)
 have d2:(i≤c)=True:=eq_true (by omega)
 have d2':((i:Int)≤(c:Int))=True:=eq_true (by omega)
 have d4:(c=i)=False:=eq_false (by omega)
 have d5:((i:Int) == (c:Int))=false:=beq_eq_false_iff_ne.mpr (by omega)
 have d5':(i == c)=false:=beq_eq_false_iff_ne.mpr (by omega)
 have e4:i1.toNat=i+1:=by omega
 obtain ⟨kz,hkz⟩:∃ q:Int,n1-(i:Int)=q:=⟨_,rfl⟩
 have hkk:kz=(k:Int):=by omega
 have d7:decide ((c:Int)<n1)=true:=decide_eq_true (by omega)
 have d8:(0≤i1)=True:=eq_true (by omega)
 have hml:i+k≤maxLen:=by unfold maxLen;omega
 obtain ⟨G,hG⟩:∃ G,grownCap w (i+k) c 89=G:=⟨_,rfl⟩
 have hG1:i+k≤G:=by (rw [← hG];exact grownCap_ge w _ _ _)
 have hG2:G≤9223372036854775807:=by
  have:=grownCap_le_maxLen w (i+k) c 89 hml
  rw [hG] at this
  unfold maxLen at this
  exact this
 have HG:=Aside0.mk hG
 clear hG hml
 have d9:(i≤i+k)=True:=eq_true (by omega)
 have d9':((i:Int)≤((i+k:Nat):Int))=True:=eq_true (by omega)
 have d10:(i≤G)=True:=eq_true (by omega)
 have d10':((i:Int)≤(G:Int))=True:=eq_true (by omega)
 have d11:(i1≤((i+k:Nat):Int))=True:=eq_true (by omega)
 have d11':(i1≤(i:Int)+(k:Int))=True:=eq_true (by omega)
 have d12:(i1≤(G:Int))=True:=eq_true (by omega)
 have d13:(G=i)=False:=eq_false (by omega)
 have d14:(G=i+1)=False:=eq_false (by omega)
 have m0:0<k:=by omega
 have m1:Nat.min (c-i) (i+k-(i+1))=c-i:=Nat.min_eq_left (by omega)
 have m2:Nat.min 1 k=1:=Nat.min_eq_left (by omega)
 have m3:(i+1)*8+(c-i)*8≤G*8:=by omega
 have m4:i*8+8=(i+1)*8:=by omega
 have m5:(i+1)*8+(c-i)*8=(i+k)*8:=by omega
 have m6:i*8≤c*8:=by omega
 have m7:i*8+8≤G*8:=by omega
 have m8:(i+1)*8≤G*8:=by omega
 have m9:i+k=i+(c-i+1):=by omega
 have q1:c<i+k:=by omega
 have q2:((i+k:Nat):Int)≤9223372036854775807:=by omega
 have q3:k*64≤281474976710656:=by omega
 have q4:(i+k)*64≤140737488355328:=by omega
 have E1:Aside0 (IntKind.i64.wrap ((c:Int)+1)=n1):=⟨by rw [hn1];exact i64_id (by omega) (by omega)⟩
 have E1p:Aside0 (wrap64 ((c:Int)+1)=n1):=⟨by rw [hn1];exact wrap64_id (by omega) (by omega)⟩
 have E2:Aside0 (IntKind.i64.wrap ((i:Int)+1)=i1):=⟨by rw [hi1];exact i64_id (by omega) (by omega)⟩
 have E2p:Aside0 (wrap64 ((i:Int)+1)=i1):=⟨by rw [hi1];exact wrap64_id (by omega) (by omega)⟩
 have E3:Aside0 (IntKind.i64.wrap (n1-(i:Int))=kz):=⟨by rw [hkz];exact i64_id (by omega) (by omega)⟩
 have E3p:Aside0 (wrap64 (n1-(i:Int))=kz):=⟨by rw [hkz];exact wrap64_id (by omega) (by omega)⟩
 have e1:=E1.out
 have e1':=E1p.out
 have e2:=E2.out
 have e2':=E2p.out
 have e3:=E3.out
 have e3':=E3p.out
 clear hn1 hi1 hkz hk hn0
 obtain ⟨g,cur,rfl,-,-,hcm,hbg,hh,hsz,htk⟩:=R_cells hR (by rw [hn];exact hn00)
 obtain ⟨i0,hi0,hi8,hi64,hiz⟩:∃ i0,Tryz.prog.info? 89=some i0∧i0.size=8∧i0.bytes=64∧i0.zero=some (.agg zEn):=by
  have:=info_en
  cases hq:Tryz.prog.info? 89 with
  | none=>rw [hq] at this;simp at this
  | some i0=>rw [hq] at this;simp at this;exact ⟨i0,rfl,this.2.1,this.2.2,this.1⟩
 obtain ⟨D,hD⟩:∃ D,(es.drop i).flatMap enC=D:=⟨_,rfl⟩
 obtain ⟨T,hT0⟩:∃ D,(es.take i).flatMap enC=D:=⟨_,rfl⟩
 have hDl:D.length=(c-i)*8:=by rw [← hD,flatMap_len en_len,List.length_drop,hn]
 have hTl:T.length=i*8:=by rw [← hT0,flatMap_len en_len,List.length_take,hn,Nat.min_eq_left (Nat.le_of_lt hi)]
 have hTD:T++D=es.flatMap enC:=by rw [← hT0,← hD,← List.flatMap_append,List.take_append_drop]
 rw [← hTD] at htk
 have hsrcT:∀ (j:Nat) (v:Value),T[j]?=some v→cur.toList[j]?=some v:=fun j v hj=>by
  have h3:(cur.toList.take (c*8))[j]?=some v:=by
   rw [htk,List.getElem?_append_left (List.getElem?_eq_some_iff.1 hj).1]
   exact hj
  rw [List.getElem?_take] at h3
  split at h3
  ·exact h3
  ·cases h3
 have hsrc:∀ (j:Nat) (v:Value),D[j]?=some v→cur.toList[i*8+j]?=some v:=fun j v hj=>by
  have h3:(cur.toList.take (c*8))[i*8+j]?=some v:=by
   rw [htk,List.getElem?_append_right (by rw [hTl];exact Nat.le_add_right _ _),hTl,Nat.add_sub_cancel_left]
   exact hj
  rw [List.getElem?_take] at h3
  split at h3
  ·exact h3
  ·cases h3
 have hold:(Builtin.firstCells i0.size i (.slice (some ⟨g,0,none⟩) i c)).run Tryz.prog w.drew = .ok T.toArray w.drew:=by
  rw [hi8]
  exact run_firstCells_some w.drew 8 i ⟨g,0,none⟩ i c T hTl (fun j v hj=>by
   rw [add_none,Nat.zero_add,cell_of_row w.drew g _ _ _ _ hh]
   simpa using hsrcT j v hj)
 have hz8:(Value.agg zEn).cells.size=8:=rfl
 obtain ⟨ROW,hROW⟩:∃ R:Array Value,T.toArray++Builtin.zeroCells (Value.agg zEn).cells k++Builtin.zeroCells (Value.agg zEn).cells (G-(i+k))=R:=⟨_,rfl⟩
 have hrow:=grown_row (z:=(Value.agg zEn).cells) hTl hz8 hG1
 rw [hROW] at hrow
 obtain ⟨gN,hgN⟩:∃ q,w.heap.size=q:=⟨_,rfl⟩
 obtain ⟨W1,hW1⟩:∃ W,w.drew.alloc (Obj.cells ROW 89)=W:=⟨_,rfl⟩
 have hrz:∀ ty,(Builtin.append_ #[159,3] ty #[.slice (some ⟨g,0,none⟩) i c,.int .i64 kz]).run Tryz.prog w = .ok (.slice (some ⟨gN,0,none⟩) (i+k) G) W1:=fun ty=>by
  have h:=Lib.run_append_grow_zeros w 159 3 ty 89 i0 (.agg zEn) .i64 .i64 Tryz.underlying159 Tryz.underlying3 hi0 hiz (some ⟨g,0,none⟩) i c T hold k m0 (by rw [hi8];decide) q1 q2 (by rw [hi64];exact q3) (by rw [hi64];exact growslice_fits q1 q4)
  rw [HG.out,hROW,hW1,hgN] at h
  rw [hkk]
  exact h
 have hg1:W1.heap[gN]?=some (Obj.cells ROW 89):=by rw [← hW1];exact newb hgN
 have hcur1:W1.heap[g]?=some (Obj.cells cur 89):=by rw [← hW1];exact blk_alloc (w:=w.drew) hh _
 have hx1:EnAt W1 vb x:=by rw [← hW1];exact blk_alloc (w:=w.drew) hx _
 have hvN:vb≠gN:=fun e=>Nat.lt_irrefl gN (by have:=blk_lt hx;rw [hgN,e] at this;exact this)
 have hgNe:g≠gN:=fun e=>Nat.lt_irrefl gN (by have:=blk_lt hh;rw [hgN,e] at this;exact this)
 obtain ⟨row1,hr1⟩:∃ C,(splice ROW.toList (i*8) (enC x)).toArray=C:=⟨_,rfl⟩
 have hs1:row1.size=G*8:=by rw [← hr1,List.size_toArray,splice_len (by rw [en_len,Array.length_toList,hrow.1];exact m7),Array.length_toList,hrow.1]
 obtain ⟨W2,hW2⟩:∃ W,W1.setCells gN (i*8) (enC x)=W:=⟨_,rfl⟩
 have hW2r:W2=W1.setRow gN row1:=by rw [← hW2,← hr1];exact setCells_row gN _ _ _ _ _ _ hg1 (by rw [en_len,hrow.1];exact m7)
 have hcp1:∀ ty,(Builtin.copy_ #[159,159] ty #[.slice (some ⟨gN,i*8,none⟩) k (G-i),.slice (some ⟨vb,0,none⟩) 1 1]).run Tryz.prog W1 = .ok (goInt 1) W2:=fun ty=>by
  have:=run_copy_sz (P:=Tryz.prog) W1 159 159 ty 89 gN (i*8) k (G-i) ⟨vb,0,none⟩ 1 1 (enC x) 8 Tryz.underlying159 en_size (by rw [m2];rfl)
   (fun j v hj=>by rw [add_none,Nat.zero_add,cell_of_row W1 vb _ _ _ _ hx1];simpa [enA] using hj)
   (fun j hj=>by rw [cell_of_row W1 gN _ _ _ _ hg1,Array.getElem?_eq_getElem (by rw [hrow.1];exact Nat.lt_of_lt_of_le (Nat.add_lt_add_left hj _) m7)];rfl)
   (fun j hj=>blk_frozen (w:=W1) hg1 _) (en_one x)
  rw [m2,hW2] at this
  exact this
 have hg2:W2.heap[gN]?=some (Obj.cells row1 89):=by rw [hW2r];exact setRow_heap _ _ _ _ _ _ hg1
 have hcur2:W2.heap[g]?=some (Obj.cells cur 89):=by rw [hW2r];exact (setRow_other _ _ _ _ hgNe).trans hcur1
 obtain ⟨row2,hr2⟩:∃ C,(splice row1.toList ((i+1)*8) D).toArray=C:=⟨_,rfl⟩
 have hs2:row2.size=G*8:=by rw [← hr2,List.size_toArray,splice_len (by rw [hDl,Array.length_toList,hs1];exact m3),Array.length_toList,hs1]
 obtain ⟨W3,hW3⟩:∃ W,W2.drew.setCells gN ((i+1)*8) D=W:=⟨_,rfl⟩
 have hW3r:W3=W2.drew.setRow gN row2:=by rw [← hW3,← hr2];exact setCells_row gN _ _ _ _ _ _ hg2 (by rw [hDl,hs1];exact m3)
 have hcp2:∀ ty,(Builtin.copy_ #[159,159] ty #[.slice (some ⟨gN,(i+1)*8,none⟩) (i+k-(i+1)) (G-(i+1)),.slice (some ⟨g,i*8,none⟩) (c-i) (c-i)]).run Tryz.prog W2.drew = .ok (goInt ((c-i:Nat):Int)) W3:=fun ty=>by
  have:=run_copy_sz (P:=Tryz.prog) W2.drew 159 159 ty 89 gN ((i+1)*8) (i+k-(i+1)) (G-(i+1)) ⟨g,i*8,none⟩ (c-i) (c-i) D 8 Tryz.underlying159 en_size (by rw [hDl,m1])
   (fun j v hj=>by rw [add_none];rw [cell_of_row W2.drew g _ _ _ _ hcur2];simpa using hsrc j v hj)
   (fun j hj=>by rw [cell_of_row W2.drew gN _ _ _ _ hg2,Array.getElem?_eq_getElem (by rw [hs1];rw [hDl] at hj;exact Nat.lt_of_lt_of_le (Nat.add_lt_add_left hj _) m3)];rfl)
   (fun j hj=>blk_frozen (w:=W2.drew) hg2 _) (by rw [← hD];exact flat_one en_one _)
  rw [m1,hW3] at this
  exact this
 have HFIN:Aside0 (kE.R 89 W3 base (fun _=>True) (.slice (some ⟨gN,0,none⟩) (i+k) G) (es.take i++x :: es.drop i)∧Fr w W3 (fun k=>(Value.slice (some ⟨g,0,none⟩) c c).ownBlock=some k)):=⟨by
  refine ⟨R_of_cells (cur:=row2) ?_ hG1 hG2 (by rw [← hgN];exact hbase) (by rw [hW3r];exact setRow_heap _ _ _ _ _ _ hg2) hs2 ?_,?_⟩
  ·rw [List.length_append,List.length_cons,List.length_take,List.length_drop,hn,Nat.min_eq_left (Nat.le_of_lt hi)];exact m9
  ·have:=splice3 (cur:=ROW.toList) (a:=i*8) (b:=(i+1)*8) (X:=enC x) (D:=D) m4 (by rw [Array.length_toList,hrow.1];exact m8)
   rw [hDl,m5,hrow.2] at this
   rw [← hr2,← hr1]
   show (splice (splice ROW.toList (i*8) (enC x)) ((i+1)*8) D).take ((i+k)*8)=_
   rw [this,← hT0,← hD,List.flatMap_append,List.flatMap_cons,List.append_assoc]
  ·rw [hW3r,hW2r,← hW1]
   refine Fr.setRow (S:=fun k=>(Value.slice (some ⟨g,0,none⟩) c c).ownBlock=some k) (Fr.drew (Fr.setRow (S:=fun k=>(Value.slice (some ⟨g,0,none⟩) c c).ownBlock=some k) (((Fr.refl w _).drew).alloc _) (.inr ?_) _)) (.inr ?_) _
   ·rw [hgN];exact Nat.le_refl _
   ·rw [hgN];exact Nat.le_refl _⟩
 clear hR hn hx hbase hi hnc hcn hG1 hG2 HG m0 m1 m2 m3 m4 m5 m6 m7 m8 m9 q1 q2 q3 q4 hh hsz htk hcm hbg hi0 hi8 hi64 hiz hD hT0 hDl hTl hTD hsrcT hsrc hold hz8 hROW hrow hgN hW1 hg1 hcur1 hx1 hvN hgNe hr1 hs1 hW2 hW2r hg2 hcur2 hr2 hs2 hW3 hW3r hkk hn00
 go_enter Tryz.func210,Tryz.ntmps210
 go_wp2_with (first
  | (at_builtin;refine Lib.wpList_append_run _ rfl _ _ _ _ rfl _ _ rfl rfl _ _ (hrz _) ?_)
  | (at_builtin;refine wpList_copy_runI _ rfl _ _ 159 159 rfl _ _ rfl rfl (hcp1 _) ?_))
 go_region_held3 (fun w'=>True) (trivial)
  ((refine step_copy_runI rfl (.tmp 50) (.tmp 53) 159 159 rfl _ _ rfl rfl (hcp2 _) ?_))
 go_wp2
 go_ret
 exact ⟨_,rfl,HFIN.out.1,HFIN.out.2⟩
theorem insert_calls [Inhabited Sanct] {w:World} {base:Nat} {A:Option Addr} {n c:Nat} {es:List En} (x:En) (i:Nat) (hi:i≤n) (h0:1≤n) (hR:kE.R 89 w base (fun _=>True) (.slice A n c) es) (hn:es.length=n) (h1:n≤100) (vb:Nat) (hx:EnAt w vb x) (hvb:(Value.slice A n c).ownBlock≠some vb) (hbase:base≤w.heap.size) :
  Calls Tryz.prog 210 #[.slice A n c,.int .i64 (i:Int),.slice (some ⟨vb,0,none⟩) 1 1] w fun e w'=>∃ v',e = .returned v'∧kE.R 89 w' base (fun _=>True) v' (es.take i++x :: es.drop i)∧Fr w w' (fun k=>(Value.slice A n c).ownBlock=some k):=by
 rcases Nat.lt_or_ge i n with h | h
 ·rcases Nat.lt_or_ge c (n+1) with h2 | h2
  ·exact insert_grow x i h h2 hR hn h1 vb hx hbase
  ·exact insert_shift x i h h2 hR hn h1 vb hx hvb
 ·have hin:i=n:=Nat.le_antisymm hi h
  rw [hin]
  have:=insert_end x hR hn h0 h1 vb hx hbase
  rwa [List.take_of_length_le (Nat.le_of_eq hn),List.drop_of_length_le (Nat.le_of_eq hn)]
end
section
attribute [local go_sem ↓] Go.wp_at_zero Go.wp_at_succ loadKey_eq loadEn_eq storeKey_eq storeEn_eq loadNd_eq storeNd_eq loadMap_eq storeMap_eq loadTab_eq storePg_eq loadRt_eq storeRt_eq
def insE (x:En) (es:List En):List En:=es.take (insAt x es)++x :: es.drop (insAt x es)
def splitL (nd:Nd):List Nd:=if ndSize nd≤mostN nd then [nd] else [cutN nd 0 ((ndSize nd+1) / 2),cutN nd ((ndSize nd+1) / 2) (ndSize nd)]
theorem split_calls [Inhabited Sanct] {w:World} {base:Nat} {v:Array Value} {nd:Nd} (hv:NdR w base v nd) (hf:NdFm nd) (h1:1≤ndSize nd) (h2:ndSize nd≤2*mostN nd) :
  Calls Tryz.prog 204 #[.agg v] w fun r w'=>∃ v',r = .returned v'∧NdL w' w.heap.size v' (splitL nd)∧Below w.heap.size w w':=by
 unfold splitL
 have hm:mostN nd≤16:=by unfold mostN;split<;>omega
 have hs:nd.es.length≤1000000∧nd.ks.length≤1000000∧nd.ts.length≤1000000:=by
  unfold ndSize at h2
  rcases hf with ⟨k1,k2,k3⟩ | ⟨k1,k2,k3⟩
  ·rw [k1] at h2;rw [k2,k3];simp at h2 ⊢;omega
  ·rw [k1] at h2;rw [k2,k3];simp at h2 ⊢;omega
 by_cases h:ndSize nd≤mostN nd
 ·rw [if_pos h];exact split1_calls hv hf h1 h
 ·rw [if_neg h];exact split_two (hv.v hs) hf _ (by omega) h2 rfl
theorem FrT.newFr [Inhabited Sanct] {T:List Nat} {w W W2:World} {S:Nat→Prop} (h:FrT T w W) (hf:Fr W W2 S) (hs:∀ k,S k→w.heap.size≤k):FrT T w W2:=
 ⟨h.b.trans hf.b,fun i o hi hn=>(hf.k i (Nat.lt_of_lt_of_le (blk_lt hi) h.size) (fun hk=>by have:=hs i hk;have:=blk_lt hi;omega)).trans (h.k i o hi hn),fun i o hb hi hn=>(hf.k i (Nat.lt_of_lt_of_le (blk_lt hi) h.size) (fun hk=>by have:=hs i hk;have:=blk_lt hi;omega)).trans (h.s i o hb hi hn)⟩
theorem fr_typed [Inhabited Sanct] {α:Type} {d:Kd α} {e base:Nat} {ok:Nat→Prop} {v:Value} {xs:List α} {W W2:World} (hr:d.R e W base ok v xs) (hf:Fr W W2 (fun k=>v.ownBlock=some k)) (hs:e∈sS→sB≤base:=by first | (intro h;exact absurd h (by decide)) | (intro _;assumption)):FrT [e] W W2:=
 FrT.of_fr hf (fun k hk=>by
  obtain ⟨cells,hc⟩:=Kd.R_typed hr k hk
  exact ⟨cells,e,(0,0),hc,by simp,fun h=>Nat.le_trans (hs h) (Kd.R_base hr k hk)⟩)
theorem vs_insleaf [Inhabited Sanct] {w:World} {v d N gen nw k:Nat} {m o:List Bool} {f:Nat→List Int} (h:VS w v d N gen nw m o f k) {es:List En} (hL:LeafOk es) (a:Nat) (ha2:2≤a) (haN:a+1≤N) (hp:PageAt f a 76 (ndB ⟨true,es,[],[]⟩)) (hu:m[a]?=some true) (x:En) :
  Calls Tryz.prog 158 #[.pointer (some ⟨v,0,none⟩),.int .i64 (a:Int),.int .i64 1,.agg (enA x)] w fun r w'=>∃ lv,r = .returned (.tuple #[lv,.int .i64 0])∧NdL w' w.heap.size lv (splitL ⟨true,insE x es,[],[]⟩)∧VS w' v d N gen nw (setN false m a 1) o f k∧FrT vT w w':=by
 have hok:NdOk ⟨true,es,[],[]⟩:=.inl ⟨rfl,rfl,rfl,hL⟩
 have HNC:Aside0 (∀ W,Below w.heap.size w W→Calls Tryz.prog 206 #[.pointer (some ⟨v,0,none⟩),.int .i64 (a:Int),.bool true] W fun r w'=>∃ x,r = .returned (.tuple #[.agg (nvA x),.int .i64 0])∧NdR w' W.heap.size (nvA x) ⟨true,es,[],[]⟩∧Below W.heap.size W w'):=⟨fun W hW=>vs_node (h.below hW) hok a haN hp⟩
 have HGV:Aside0 (∀ W,Below w.heap.size w W→Calls Tryz.prog 207 #[.pointer (some ⟨v,0,none⟩),.int .i64 (a:Int)] W fun e w'=>e = .returned (.int .i64 0)∧VS w' v d N gen nw (setN false m a 1) o f k∧FrT vT W w'):=⟨fun W hW=>vs_give (h.below hW) a ha2 haN hu⟩
 obtain ⟨n,hn⟩:∃ n,es.length=n:=⟨_,rfl⟩
 have HN:Aside0 (es.length=n∧1≤n∧n≤7):=⟨hn,by have:=hL.n1;omega,by have:=hL.n7;omega⟩
 obtain ⟨gx,hgx⟩:∃ q,w.heap.size=q:=⟨_,rfl⟩
 obtain ⟨W0,hW0⟩:∃ W,w.alloc (Obj.cells (enA x) 89)=W:=⟨_,rfl⟩
 have HB0:Aside0 (Below w.heap.size w W0):=⟨by rw [← hW0];exact below_alloc (Below.refl _ _) _⟩
 have HX0:Aside0 (EnAt W0 gx x):=⟨by rw [← hW0];exact en_new x hgx⟩
 clear h hL ha2 haN hp hu hok hn
 go_enter Tryz.func158,Tryz.ntmps158
 go_wp2_with (go_at_call 206;(with_reducible refine (HNC.out _ HB0.out).mono ?_);rintro r w1 ⟨xn,rfl,hr,hb⟩;refine hold ?_)
 unfold Hold
 clear hW0
 have HX1:=Aside0.mk (HX0.out.below hb)
 have HB1:=Aside0.mk (below_step HB0.out hb)
 have HS1:Aside0 (gx<W0.heap.size∧W0.heap.size≤w1.heap.size):=⟨by have:=blk_lt HX0.out;exact this,hb.size⟩
 have hst:=st_ndnew xn w1
 obtain ⟨gN,hgN⟩:∃ q,w1.heap.size=q:=⟨_,rfl⟩
 obtain ⟨w2,hw2⟩:∃ W,w1.alloc (Obj.cells (nvA xn) 175)=W:=⟨_,rfl⟩
 have hb2:Below w1.heap.size w1 w2:=by rw [← hw2];exact below_alloc (Below.refl _ _) _
 have hk2:NbAt w2 gN (nvA xn):=by rw [← hw2];exact nb_new _ hgN
 rw [hgN,hw2] at hst
 have HX2:=Aside0.mk (HX1.out.below hb2)
 have HB2:=Aside0.mk (below_step HB1.out hb2)
 have HR2:=Aside0.mk (hr.below hb2)
 have HGN:Aside0 (W0.heap.size≤gN):=⟨by rw [← hgN];exact HS1.out.2⟩
 have HWS:Aside0 (W0.heap.size≤w2.heap.size):=⟨Nat.le_trans HS1.out.2 hb2.size⟩
 clear hr hb hb2
 go_wp2_with (go_at_call 207;(with_reducible refine (HGV.out _ HB2.out).mono ?_);rintro r w3 ⟨rfl,hvs,hfr⟩;refine hold ?_)
 unfold Hold
 have HVS3:=Aside0.mk hvs
 have HX3:=Aside0.mk (hfr.blk HX2.out (by decide))
 have hk3:=hk2.frT hfr (by decide)
 have HF3:=Aside0.mk ((FrT.of_below HB2.out vT).trans hfr)
 have HWS:=Aside0.mk (Nat.le_trans HWS.out hfr.size)
 have hr3:=HR2.out.frT hfr (by decide) (by decide) (by decide)
 clear hvs hfr hst hw2 hgN hk2
 obtain ⟨v1,v2,v3,he,hr1,hr2,hr3⟩:=hr3.e
 simp only at hr1 hr2 hr3 he
 obtain ⟨A1,c1,rfl⟩:=Kd.R_slice hr1
 obtain ⟨A2,c2,rfl⟩:=Kd.R_slice hr2
 obtain ⟨A3,c3,rfl⟩:=Kd.R_slice hr3
 rw [HN.out.1] at he hr1
 simp only [List.length_nil] at he hr2 hr3
 rw [he] at hk3
 have HK3:=Aside0.mk hk3
 have HR1:=Aside0.mk hr1
 have HR23:=Aside0.mk (And.intro hr2 hr3)
 obtain ⟨R,hR⟩:∃ z:Int,(if insAt x es<n then (insAt x es:Int) else -1)=z:=⟨_,rfl⟩
 have HIX:Aside0 (Calls Tryz.prog 208 #[.slice A1 n c1,.func (Fn.func 209) #[] #[.pointer (some ⟨gx,0,none⟩)]] w3 fun r w'=>r = .returned (.int .i64 R)∧Below w3.heap.size w3 w'):=⟨by
  have:=index_calls x n c1 HN.out.1 (by have:=HN.out;omega) (R_rw hr1 (by have:=HN.out;omega)) HX3.out
  rwa [hR] at this⟩
 obtain ⟨q,hq⟩:∃ q,insAt x es=q:=⟨_,rfl⟩
 have hqn:q≤n:=by rw [← hq,← HN.out.1];exact insAt_le x es
 obtain ⟨qz,hqz⟩:∃ z:Int,(q:Int)=z:=⟨_,rfl⟩
 have HQ:=Aside0.mk (And.intro hq (And.intro hqn hqz))
 have HRQ:Aside0 (if q<n then R=qz else R = -1):=⟨by rw [← hR,hq];split<;>simp [*]⟩
 have hcn:=nb_cell (g:=gN) (x0:=.bool true) (x1:=.slice A1 n c1) (x2:=.slice A2 0 c2) (x3:=.slice A3 0 c3)
 clear hr1 hr2 hr3 he hR hq hqn hqz
 obtain ⟨x1,x2,x3,x4,x5,x6,x7,x8,hxl⟩:∃ (x1 x2 x3 x4 x5 x6 x7 x8:Int),enA x=#[.int .i64 x1,.int .i64 x2,.int .i64 x3,.int .i64 x4,.int .i64 x5,.int .i64 x6,.int .i64 x7,.int .u32 x8]:=⟨_,_,_,_,_,_,_,_,rfl⟩
 have HXL:=Aside0.mk hxl
 clear hxl
 by_cases hlt:q<n
 ·have hRq:R=qz:=by have:=HRQ.out;rwa [if_pos hlt] at this
  have d1:decide (R<0)=false:=decide_eq_false (by have:=HQ.out.2.2;omega)
  subst hRq
  clear HRQ
  go_wp2_with (first
   | (go_at_call 208;(with_reducible refine HIX.out.mono ?_);rintro r w4 ⟨rfl,hb⟩;have hk4:=HK3.out.below hb;have HB4:=Aside0.mk hb;have hx4:EnAt w4 gx x:=blkb hb HX3.out;have hlx:(loadEnI (.pointer (some ⟨gx,0,none⟩))).run Tryz.prog w4 = .ok (.agg #[.int .i64 x1,.int .i64 x2,.int .i64 x3,.int .i64 x4,.int .i64 x5,.int .i64 x6,.int .i64 x7,.int .u32 x8]) w4:=(by rw [← HXL.out];exact (ld_en w4 hx4).1);clear hb)
   | (go_at_call 210;refine hold ?_))
  unfold Hold
  obtain ⟨w5,hw5⟩:∃ W,w4.alloc (Obj.cells #[.int .i64 x1,.int .i64 x2,.int .i64 x3,.int .i64 x4,.int .i64 x5,.int .i64 x6,.int .i64 x7,.int .u32 x8] 89)=W:=⟨_,rfl⟩
  obtain ⟨gV,hgV⟩:∃ g,w4.heap.size=g:=⟨_,rfl⟩
  have hb5:Below w4.heap.size w4 w5:=by rw [← hw5];exact below_alloc (Below.refl _ _) _
  have hx5:EnAt w5 gV x:=by rw [← hw5,← HXL.out];exact en_new x hgV
  have hB5:=below_step HB4.out hb5
  have hR5:=Kd.R_below HR1.out hB5
  have hne:(Value.slice A1 n c1).ownBlock≠some gV:=fun he=>by
   have:=Kd.R_lt HR1.out gV he
   have:=HB4.out.size
   omega
  have hIN:=insert_calls x q HQ.out.2.1 HN.out.2.1 hR5 HN.out.1 (by have:=HN.out;omega) gV hx5 hne (by have:=HS1.out;have:=hB5.size;have:=HF3.out.size;have:=HWS.out;omega)
  rw [HQ.out.2.2] at hIN
  have HIN:=Aside0.mk hIN
  have HK5:=Aside0.mk (hk4.below hb5)
  have HB5:=Aside0.mk hB5
  rw [hw5,hgV]
  clear hIN hne hR5 hx5 hb5 hk4 hx4 hlx hw5 hB5
  (with_reducible refine HIN.out.mono ?_)
  rintro r w6 ⟨v6,rfl,hr6,hf6⟩
  have hT6:=fr_typed (Kd.R_below HR1.out HB5.out) hf6
  obtain ⟨A6,c6,rfl⟩:=Kd.R_slice hr6
  obtain ⟨n6,hn6⟩:∃ k,(es.take q++x :: es.drop q).length=k:=⟨_,rfl⟩
  have hnn:n6=n+1:=by
   rw [← hn6,List.length_append,List.length_cons,List.length_take,List.length_drop,HN.out.1]
   have:=HQ.out.2.1
   omega
  rw [hn6] at hr6 ⊢
  have hk6:NbAt w6 gN #[.bool true,.slice A1 n c1,.slice A2 0 c2,.slice A3 0 c3]:=HK5.out.frT hT6 (by decide)
  have c61:w6.cell? ⟨gN,1,none⟩=some (.slice A1 n c1):=by rw [blk_cell hk6 1];rfl
  have f61:=blk_frozen hk6 1
  have HK6:=Aside0.mk hk6
  have HX:=Aside0.mk (And.intro hr6 (And.intro hT6 (And.intro hn6 (And.intro hnn hf6))))
  clear hr6 hT6 hn6 hnn hf6 hk6
  have hk7:NbAt (w6.setCell ⟨gN,1,none⟩ (.slice A6 n6 c6)) gN #[.bool true,.slice A6 n6 c6,.slice A2 0 c2,.slice A3 0 c3]:=blk_set HK6.out 1 (.slice A6 n6 c6)
  have hl7:=ld_nd (g:=gN) (v:=#[.bool true,.slice A6 n6 c6,.slice A2 0 c2,.slice A3 0 c3]) rfl
  have hfS:FrT [175] w6 (w6.setCell ⟨gN,1,none⟩ (.slice A6 n6 c6)):=(FrT.refl [175] _).setCell HK6.out (by decide) _ _
  have HNR7:Aside0 (NdR (w6.setCell ⟨gN,1,none⟩ (.slice A6 n6 c6)) W0.heap.size #[.bool true,.slice A6 n6 c6,.slice A2 0 c2,.slice A3 0 c3] ⟨true,insE x es,[],[]⟩):=⟨by
   refine ⟨_,_,_,rfl,?_,?_,?_⟩
   ·have:=R_frT HX.out.1 hfS (by decide)
    unfold insE
    rw [HQ.out.1]
    exact this
   ·exact R_frT (R_frT (Kd.R_below HR23.out.1 HB5.out) HX.out.2.1 (by decide)) hfS (by decide)
   ·exact R_frT (R_frT (Kd.R_below HR23.out.2 HB5.out) HX.out.2.1 (by decide)) hfS (by decide)⟩
  have hsz:ndSize ⟨true,insE x es,[],[]⟩=n+1:=by
   unfold ndSize insE
   rw [HQ.out.1]
   simp only [if_true]
   rw [HX.out.2.2.1,HX.out.2.2.2.1]
  have HSP:Aside0 (Calls Tryz.prog 204 #[.agg #[.bool true,.slice A6 n6 c6,.slice A2 0 c2,.slice A3 0 c3]] (w6.setCell ⟨gN,1,none⟩ (.slice A6 n6 c6)) fun r w'=>∃ v',r = .returned v'∧NdL w' (w6.setCell ⟨gN,1,none⟩ (.slice A6 n6 c6)).heap.size v' (splitL ⟨true,insE x es,[],[]⟩)∧Below (w6.setCell ⟨gN,1,none⟩ (.slice A6 n6 c6)).heap.size (w6.setCell ⟨gN,1,none⟩ (.slice A6 n6 c6)) w'):=⟨split_calls HNR7.out (.inl ⟨rfl,rfl,rfl⟩) (by rw [hsz];omega) (by rw [hsz];show n+1≤14;have:=HN.out;omega)⟩
  have HF7:Aside0 (FrT vT w (w6.setCell ⟨gN,1,none⟩ (.slice A6 n6 c6))∧VS (w6.setCell ⟨gN,1,none⟩ (.slice A6 n6 c6)) v d N gen nw (setN false m a 1) o f k):=⟨by
   have g1:=(HF3.out.below HB5.out).newFr HX.out.2.2.2.2 (fun k hk=>by
    have:=Kd.R_base HR1.out k hk
    have:=HS1.out
    have:=HB0.out.size
    omega)
   refine ⟨g1.setNew ?_ _ _,((HVS3.out.below HB5.out).frT HX.out.2.1 (by decide)).frT hfS (by decide)⟩
   have:=HS1.out
   have:=HGN.out
   omega⟩
  clear hsz hfS
  go_wp2_with (go_at_call 204;(with_reducible refine HSP.out.mono ?_);rintro r w8 ⟨v8,rfl,hl8,hb8⟩;have H8:=Aside0.mk (And.intro hl8 hb8);clear hl8 hb8)
  go_ret2
  exact ⟨v8,rfl,H8.out.1.lower HF7.out.1.size,HF7.out.2.below H8.out.2,HF7.out.1.below H8.out.2⟩
 ·have hRq:R = -1:=by have:=HRQ.out;rwa [if_neg hlt] at this
  obtain rfl:n=q:=by have:=HQ.out.2.1;omega
  have d1:decide (R<0)=true:=decide_eq_true (by omega)
  clear HRQ
  go_wp2_with (first
   | (go_at_call 208;(with_reducible refine HIX.out.mono ?_);rintro r w4 ⟨rfl,hb⟩;have hk4:=HK3.out.below hb;have HB4:=Aside0.mk hb;have hx4:EnAt w4 gx x:=blkb hb HX3.out;have hlx:(loadEnI (.pointer (some ⟨gx,0,none⟩))).run Tryz.prog w4 = .ok (.agg #[.int .i64 x1,.int .i64 x2,.int .i64 x3,.int .i64 x4,.int .i64 x5,.int .i64 x6,.int .i64 x7,.int .u32 x8]) w4:=(by rw [← HXL.out];exact (ld_en w4 hx4).1);clear hb)
   | (go_at_call 210;refine hold ?_))
  unfold Hold
  obtain ⟨w5,hw5⟩:∃ W,w4.alloc (Obj.cells #[.int .i64 x1,.int .i64 x2,.int .i64 x3,.int .i64 x4,.int .i64 x5,.int .i64 x6,.int .i64 x7,.int .u32 x8] 89)=W:=⟨_,rfl⟩
  obtain ⟨gV,hgV⟩:∃ g,w4.heap.size=g:=⟨_,rfl⟩
  have hb5:Below w4.heap.size w4 w5:=by rw [← hw5];exact below_alloc (Below.refl _ _) _
  have hx5:EnAt w5 gV x:=by rw [← hw5,← HXL.out];exact en_new x hgV
  have hB5:=below_step HB4.out hb5
  have hR5:=Kd.R_below HR1.out hB5
  have hne:(Value.slice A1 n c1).ownBlock≠some gV:=fun he=>by
   have:=Kd.R_lt HR1.out gV he
   have:=HB4.out.size
   omega
  have hIN:=insert_calls x n HQ.out.2.1 HN.out.2.1 hR5 HN.out.1 (by have:=HN.out;omega) gV hx5 hne (by have:=HS1.out;have:=hB5.size;have:=HF3.out.size;have:=HWS.out;omega)
  have HIN:=Aside0.mk hIN
  have HK5:=Aside0.mk (hk4.below hb5)
  have HB5:=Aside0.mk hB5
  rw [hw5,hgV]
  clear hIN hne hR5 hx5 hb5 hk4 hx4 hlx hw5 hB5
  (with_reducible refine HIN.out.mono ?_)
  rintro r w6 ⟨v6,rfl,hr6,hf6⟩
  have hT6:=fr_typed (Kd.R_below HR1.out HB5.out) hf6
  obtain ⟨A6,c6,rfl⟩:=Kd.R_slice hr6
  obtain ⟨n6,hn6⟩:∃ k,(es.take n++x :: es.drop n).length=k:=⟨_,rfl⟩
  have hnn:n6=n+1:=by
   rw [← hn6,List.length_append,List.length_cons,List.length_take,List.length_drop,HN.out.1]
   have:=HQ.out.2.1
   omega
  rw [hn6] at hr6 ⊢
  have hk6:NbAt w6 gN #[.bool true,.slice A1 n c1,.slice A2 0 c2,.slice A3 0 c3]:=HK5.out.frT hT6 (by decide)
  have c61:w6.cell? ⟨gN,1,none⟩=some (.slice A1 n c1):=by rw [blk_cell hk6 1];rfl
  have f61:=blk_frozen hk6 1
  have HK6:=Aside0.mk hk6
  have HX:=Aside0.mk (And.intro hr6 (And.intro hT6 (And.intro hn6 (And.intro hnn hf6))))
  clear hr6 hT6 hn6 hnn hf6 hk6
  have hk7:NbAt (w6.setCell ⟨gN,1,none⟩ (.slice A6 n6 c6)) gN #[.bool true,.slice A6 n6 c6,.slice A2 0 c2,.slice A3 0 c3]:=blk_set HK6.out 1 (.slice A6 n6 c6)
  have hl7:=ld_nd (g:=gN) (v:=#[.bool true,.slice A6 n6 c6,.slice A2 0 c2,.slice A3 0 c3]) rfl
  have hfS:FrT [175] w6 (w6.setCell ⟨gN,1,none⟩ (.slice A6 n6 c6)):=(FrT.refl [175] _).setCell HK6.out (by decide) _ _
  have HNR7:Aside0 (NdR (w6.setCell ⟨gN,1,none⟩ (.slice A6 n6 c6)) W0.heap.size #[.bool true,.slice A6 n6 c6,.slice A2 0 c2,.slice A3 0 c3] ⟨true,insE x es,[],[]⟩):=⟨by
   refine ⟨_,_,_,rfl,?_,?_,?_⟩
   ·have:=R_frT HX.out.1 hfS (by decide)
    unfold insE
    rw [HQ.out.1]
    exact this
   ·exact R_frT (R_frT (Kd.R_below HR23.out.1 HB5.out) HX.out.2.1 (by decide)) hfS (by decide)
   ·exact R_frT (R_frT (Kd.R_below HR23.out.2 HB5.out) HX.out.2.1 (by decide)) hfS (by decide)⟩
  have hsz:ndSize ⟨true,insE x es,[],[]⟩=n+1:=by
   unfold ndSize insE
   rw [HQ.out.1]
   simp only [if_true]
   rw [HX.out.2.2.1,HX.out.2.2.2.1]
  have HSP:Aside0 (Calls Tryz.prog 204 #[.agg #[.bool true,.slice A6 n6 c6,.slice A2 0 c2,.slice A3 0 c3]] (w6.setCell ⟨gN,1,none⟩ (.slice A6 n6 c6)) fun r w'=>∃ v',r = .returned v'∧NdL w' (w6.setCell ⟨gN,1,none⟩ (.slice A6 n6 c6)).heap.size v' (splitL ⟨true,insE x es,[],[]⟩)∧Below (w6.setCell ⟨gN,1,none⟩ (.slice A6 n6 c6)).heap.size (w6.setCell ⟨gN,1,none⟩ (.slice A6 n6 c6)) w'):=⟨split_calls HNR7.out (.inl ⟨rfl,rfl,rfl⟩) (by rw [hsz];omega) (by rw [hsz];show n+1≤14;have:=HN.out;omega)⟩
  have HF7:Aside0 (FrT vT w (w6.setCell ⟨gN,1,none⟩ (.slice A6 n6 c6))∧VS (w6.setCell ⟨gN,1,none⟩ (.slice A6 n6 c6)) v d N gen nw (setN false m a 1) o f k):=⟨by
   have g1:=(HF3.out.below HB5.out).newFr HX.out.2.2.2.2 (fun k hk=>by
    have:=Kd.R_base HR1.out k hk
    have:=HS1.out
    have:=HB0.out.size
    omega)
   refine ⟨g1.setNew ?_ _ _,((HVS3.out.below HB5.out).frT HX.out.2.1 (by decide)).frT hfS (by decide)⟩
   have:=HS1.out
   have:=HGN.out
   omega⟩
  clear hsz hfS
  go_wp2_with (go_at_call 204;(with_reducible refine HSP.out.mono ?_);rintro r w8 ⟨v8,rfl,hl8,hb8⟩;have H8:=Aside0.mk (And.intro hl8 hb8);clear hl8 hb8)
  go_ret2
  exact ⟨v8,rfl,H8.out.1.lower HF7.out.1.size,HF7.out.2.below H8.out.2,HF7.out.1.below H8.out.2⟩
end
end Go.Proofs.YtnhkikebfinejaaGreatDoor.Z
