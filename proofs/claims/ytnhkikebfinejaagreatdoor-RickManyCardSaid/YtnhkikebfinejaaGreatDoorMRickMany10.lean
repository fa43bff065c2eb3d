/- Texts of this claim, laid together. No conditions. -/
import Derived.Test.YtnhkikebfinejaaGreatDoorMRickMany9
import Derived.Test.YtnhkikebfinejaaGreatDoorMRickMany5
import Derived.Test.YtnhkikebfinejaaGreatDoorMRickMany1
set_option linter.unusedVariables false
set_option linter.unusedSimpArgs false
set_option maxRecDepth 100000
set_option maxHeartbeats 16000000
namespace Go.Proofs.YtnhkikebfinejaaGreatDoor.Z
open Go Go.RowKit Go.Proofs.YtnhkikebfinejaaGreatDoorW.PrintWords Go.Proofs.YtnhkikebfinejaaGreatDoorW.PrintLast Go.Proofs.YtnhkikebfinejaaGreatDoorW.PrintMore Go.Proofs.YtnhkikebfinejaaGreatDoor.S Go.Proofs.YtnhkikebfinejaaGreatDoor.X
section
attribute [local go_sem ↓] Go.wp_at_zero Go.wp_at_succ loadKey_eq loadEn_eq storeKey_eq storeEn_eq loadNd_eq storeNd_eq
structure FrRd [Inhabited Sanct] (rg:Nat) (w W:World):Prop where
 t:FrT [273] w W
 f:Fr w W (fun k=>k=rg)
theorem FrRd.refl [Inhabited Sanct] (rg:Nat) (w:World):FrRd rg w w:=⟨FrT.refl _ _,Fr.refl _ _⟩
theorem FrRd.trans [Inhabited Sanct] {rg:Nat} {w W W2:World} (h:FrRd rg w W) (k:FrRd rg W W2):FrRd rg w W2:=⟨h.t.trans k.t,h.f.then_ k.f (fun _ hi=>Or.inl hi)⟩
theorem FrRd.alloc [Inhabited Sanct] {rg:Nat} {w W:World} (h:FrRd rg w W) (o:Obj):FrRd rg w (W.alloc o):=⟨h.t.alloc o,h.f.alloc o⟩
theorem FrRd.setNew [Inhabited Sanct] {rg g:Nat} {w W:World} (h:FrRd rg w W) (hg:w.heap.size≤g) (j:Nat) (u:Value):FrRd rg w (W.setCell ⟨g,j,none⟩ u):=⟨h.t.setNew hg j u,h.f.setCell (p:=⟨g,j,none⟩) (Or.inr hg) u⟩
theorem FrRd.setRowNew [Inhabited Sanct] {rg g:Nat} {w W:World} (h:FrRd rg w W) (hg:w.heap.size≤g) (ds:Array Value):FrRd rg w (W.setRow g ds):=⟨h.t.setRowNew hg ds,h.f.setRow (Or.inr hg) ds⟩
theorem FrRd.blk [Inhabited Sanct] {rg g:Nat} {w W:World} {cs:Array Value} {t:TypeId} {fr:Nat×Nat} (h:FrRd rg w W) (hb:w.heap[g]?=some (.cells cs t fr)) (ht:t ∉ [273]):W.heap[g]?=some (.cells cs t fr):=h.t.blk hb ht
theorem FrRd.below [Inhabited Sanct] {rg:Nat} {w0 w W:World} (h:FrRd rg w W) (hb:Below w0.heap.size w0 w) (hr:w0.heap.size≤rg):Below w0.heap.size w0 W:=
 hb.trans ⟨h.f.b.os,h.f.b.tape,h.f.b.output,h.f.b.size,fun i hi=>h.f.k i (Nat.lt_of_lt_of_le hi hb.size) (fun he=>by omega)⟩
def byC (x:Int):List Value:=[.int .u8 x]
abbrev RBy (w:World) (A:Option Addr) (bs:List Int):Prop:=Rw 5 byC 1 w A bs
theorem RBy.C {w:World} {A:Option Addr} {bs:List Int} (h:RBy w A bs):Kd.C (Kd.int .u8) w A bs.length bs:=by
 rcases Nat.eq_zero_or_pos bs.length with h0 | h0
 ·exact ⟨rfl,by omega,fun h=>by omega⟩
 ·obtain ⟨g,o,cs,fr,rfl,h2,h3⟩:=h.2 h0
  refine C_of (fun i x hi=>?_) (by have:=h.1;omega)
  rw [cell_of_row w g _ _ _ _ h2]
  have:=h3 i x hi 0 _ rfl
  simpa using this
def RdAt (W:World) (g:Nat) (A:Option Addr) (n c:Nat):Prop:=W.heap[g]?=some (Obj.cells #[.slice A n c] 273)
theorem rd_cell {g:Nat} {A:Option Addr} {n c:Nat}:∀ W:World,RdAt W g A n c→W.cell? ⟨g,0,none⟩=some (.slice A n c)∧W.frozen? ⟨g,0,none⟩=false:=
 fun W h=>⟨by rw [blk_cell h 0];rfl,blk_frozen h 0⟩
theorem rtake_calls [Inhabited Sanct] {w:World} {rg:Nat} {A:Option Addr} {n c:Nat} {bs:List Int} (k:Nat) (hr:RdAt w rg A n c) (hb:RBy w A bs) (hn:bs.length=n) (hc:n≤c) (hB:Bs bs) (hk:k≤n) (hk0:1≤k) (h8:k≤8) :
  Calls Tryz.prog 176 #[.pointer (some ⟨rg,0,none⟩),.int .i64 (k:Int)] w fun e w'=>e = .returned (.int .u64 (numB (bs.take k)))∧(∃ A',RdAt w' rg A' (n-k) (c-k)∧RBy w' A' (bs.drop k))∧FrRd rg w w':=by
 obtain ⟨g,o,cs,fr,rfl,hcs,hat⟩:=hb.2 (by omega)
 have hrc:=rd_cell w hr
 have e1:(k≤c)=True:=eq_true (by omega)
 have e4:(k≤n)=True:=eq_true (by omega)
 have e2:((k:Int)≤(c:Int))=True:=eq_true (by omega)
 have e3:((k:Int)≤(n:Int))=True:=eq_true (by omega)
 have HR:=Aside0.mk hr
 have HAT:Aside0 (∀ i x,bs[i]?=some x→w.cell? ⟨g,o+i,none⟩=some (.int .u8 x)):=⟨fun i x hi=>by rw [cell_of_row w g _ _ _ _ hcs];simpa using hat i x hi 0 _ rfl⟩
 have HN:=Aside0.mk (And.intro hn (And.intro hc (And.intro hk (And.intro hk0 h8))))
 have HBS:=Aside0.mk hB
 have HBY:=Aside0.mk hb
 clear hr hb hcs hat hn hc hB hk hk0 h8
 go_enter Tryz.func176,Tryz.ntmps176
 go_wp2
 go_loopw [5,15] (fun v5 v15 wr=>∃ (i:Nat) (ii:Int) (y:Int),v15 = .int .i64 ii∧v5 = .int .u64 y∧wr=w∧Aside0 (ii=(i:Int))∧Aside0 (i≤k)∧Aside0 (y=numB (bs.take i))) (fun _ v15 _=>((k:Int)-intOf v15).toNat)
 case atStart=>exact ⟨0,0,0,rfl,rfl,rfl,⟨rfl⟩,⟨Nat.zero_le _⟩,⟨rfl⟩⟩
 case round=>
  obtain ⟨i,ii,y,rfl,rfl,rfl,HI,HIL,HY⟩:=hrel
  have hi0:0≤ii∧ii≤8:=by have:=HI.out;have:=HIL.out;have:=HN.out;omega
  have e5:wrap64 (ii+1)=ii+1:=wrap64_id (by omega) (by omega)
  by_cases hlt:i<k
  ·have d1:decide (ii<(k:Int))=true:=decide_eq_true (by have:=HI.out;omega)
   have d2:(ii<(k:Int))=True:=eq_true (by have:=HI.out;omega)
   have d3:(0≤ii)=True:=eq_true (by omega)
   have eii:ii.toNat=i:=by have:=HI.out;omega
   have hl:i<bs.length:=by have:=HN.out;omega
   have hcell:=HAT.out i _ (List.getElem?_eq_getElem hl)
   obtain ⟨b,hb⟩:∃ b,bs[i]=b:=⟨_,rfl⟩
   rw [hb] at hcell
   have hc:=HBS.out _ (List.getElem_mem hl)
   rw [hb] at hc
   have h1:=numA_rng (bs.take i) 0 0 (HBS.out.take i) (by omega) (by decide)
   rw [List.length_take,Nat.min_eq_left (by omega),Nat.zero_add] at h1
   have h2:=pow256 (m:=i) (by have:=HN.out;omega)
   have h3:0≤y∧y<72057594037927936:=by rw [HY.out];exact ⟨h1.1,Int.lt_of_lt_of_le h1.2 h2⟩
   have f1:IntKind.u64.wrap b=b:=u64_w hc.1 (by omega)
   have f2:IntKind.u64.wrap (y*256)=y*256:=u64_w (by omega) (by omega)
   have HZ:Aside0 (Go.bits .or .u64 (y*256) b=numB (bs.take (i+1))):=⟨by rw [numB_take bs hl,hb,← HY.out];exact or_join 8 (by omega) (by omega) (by omega) hc.1 (by omega) (by omega)⟩
   clear h1 h2 hb
   go_wp2
   go_roundw
   case rel=>exact ⟨i+1,_,_,rfl,rfl,trivial,⟨by have:=HI.out;omega⟩,⟨by omega⟩,⟨HZ.out⟩⟩
   case measure=>simp [intOf];have:=HI.out;omega
  ·obtain rfl:i=k:=by have:=HIL.out;omega
   have d1:decide (ii<(i:Int))=false:=decide_eq_false (by have:=HI.out;omega)
   have HF:Aside0 (∀ A',RdAt (wr.setCell ⟨rg,0,none⟩ (.slice A' (n-i) (c-i))) rg A' (n-i) (c-i)∧FrRd rg wr (wr.setCell ⟨rg,0,none⟩ (.slice A' (n-i) (c-i)))):=⟨fun A'=>by
    refine ⟨?_,(FrT.refl _ _).setCell HR.out (by decide) _ _,Fr.setCell (S:=fun k=>k=rg) (Fr.refl _ _) (p:=⟨rg,0,none⟩) (Or.inl rfl) _⟩
    have:=blk_set HR.out 0 (.slice A' (n-i) (c-i))
    exact this⟩
   by_cases hci:c=i
   ·subst hci
    go_wp2
    go_ret
    have hF:=HF.out (some ⟨g,o,none⟩)
    have hdl:bs.drop c=[]:=List.drop_of_length_le (by have:=HN.out;omega)
    rw [Nat.sub_self] at hF ⊢
    exact ⟨by rw [← HY.out];rfl,⟨_,hF.1,by rw [hdl];exact Rw.nil rfl⟩,hF.2⟩
   ·have d9:(c=i)=False:=eq_false hci
    go_wp2
    go_ret
    have hF:=HF.out (some ⟨g,o+i,none⟩)
    refine ⟨by rw [← HY.out];rfl,⟨_,hF.1,?_⟩,hF.2⟩
    have h:=(HBY.out.drop i).frT hF.2.t (by decide)
    rw [Nat.mul_one] at h
    have hi:¬ i=0:=by have:=HN.out;omega
    simpa [Addr.add,hi] using h
def RdB (w:World) (rg:Nat) (bs:List Int):Prop:=∃ A c,RdAt w rg A bs.length c∧bs.length≤c∧RBy w A bs
theorem RdB.frT [Inhabited Sanct] {Ts:List Nat} {w W:World} {rg:Nat} {bs:List Int} (h:RdB w rg bs) (hf:FrT Ts w W) (h1:273 ∉ Ts) (h2:5 ∉ Ts):RdB W rg bs:=by
 obtain ⟨A,c,h3,h4,h5⟩:=h
 exact ⟨A,c,hf.blk h3 h1,h4,h5.frT hf h2⟩
theorem RdB.below [Inhabited Sanct] {w W:World} {rg:Nat} {bs:List Int} (h:RdB w rg bs) (hb:Below w.heap.size w W):RdB W rg bs:=by
 obtain ⟨A,c,h3,h4,h5⟩:=h
 exact ⟨A,c,blkb hb h3,h4,h5.below hb⟩
theorem rtake2 [Inhabited Sanct] {w:World} {rg:Nat} (xs ys:List Int) (k:Nat) (j:Int) (hj:j=(k:Int)) (hx:xs.length=k) (h1:1≤k) (h8:k≤8) (hb:Bs (xs++ys)) (h:RdB w rg (xs++ys)) {x:Int} (hv:numB xs=x) :
  Calls Tryz.prog 176 #[.pointer (some ⟨rg,0,none⟩),.int .i64 j] w fun e w'=>e = .returned (.int .u64 x)∧RdB w' rg ys∧FrRd rg w w':=by
 obtain ⟨A,c,h3,h4,h5⟩:=h
 subst hj hx
 refine (rtake_calls xs.length h3 h5 rfl h4 hb (by rw [List.length_append];omega) h1 h8).mono ?_
 rintro e w' ⟨rfl,⟨A',h6,h7⟩,h9⟩
 rw [List.take_left] 
 rw [List.drop_left] at h7
 rw [List.length_append,Nat.add_sub_cancel_left] at h6
 rw [List.length_append] at h4
 exact ⟨by rw [hv],⟨A',c-xs.length,h6,by omega,h7⟩,h9⟩
theorem st_key_at [Inhabited Sanct] {W:World} {g:Nat} {cs:Array Value} (k:Ky) (h:W.heap[g]?=some (Obj.cells cs 87)) (hs:cs.size=2):(storeKeyI (.pointer (some ⟨g,0,none⟩)) (.agg (keyA k))).run Tryz.prog W = .ok () (W.setRow g (keyA k)):=by
 have:=run_storeVar_row (P:=Tryz.prog) W g 87 87 cs (keyA k) h key_size (by rw [hs];rfl) (keyA_one k)
 simp only [storeKeyI,Instr.storeAt,Instr.sureAddr,Sem.run_bind,Sem.run_pure,Result.andThen_ok]
 exact this
theorem i64_id {x:Int} (h0:-9223372036854775808≤x) (h1:x<9223372036854775808):IntKind.i64.wrap x=x:=by simp [IntKind.wrap,IntKind.bits,IntKind.signed];omega
theorem rkey_calls [Inhabited Sanct] {w:World} {rg:Nat} (k:Ky) (ys:List Int) (hk:KyOk k) (hb:Bs ys) (h:RdB w rg (keyB k++ys)) :
  Calls Tryz.prog 175 #[.pointer (some ⟨rg,0,none⟩)] w fun e w'=>e = .returned (.agg (keyA k))∧RdB w' rg ys∧FrRd rg w w':=by
 obtain ⟨s,a⟩:=k
 obtain ⟨k1,k2,k3,k4⟩:=hk
 simp only at k1 k2 k3 k4
 have HT1:Aside0 (∀ W,RdB W rg (keyB ⟨s,a⟩++ys)→Calls Tryz.prog 176 #[.pointer (some ⟨rg,0,none⟩),.int .i64 4] W fun e w'=>e = .returned (.int .u64 s)∧RdB w' rg (low a 8++ys)∧FrRd rg W w'):=⟨fun W hW=>by
  have:keyB ⟨s,a⟩++ys=low s 4++(low a 8++ys):=by simp [keyB]
  rw [this] at hW
  exact rtake2 (low s 4) (low a 8++ys) 4 4 rfl (low_len _ _) (by decide) (by decide) ((low_bs _ _).append ((low_bs _ _).append hb)) hW (num_low4 k1 (by omega))⟩
 have HT2:Aside0 (∀ W,RdB W rg (low a 8++ys)→Calls Tryz.prog 176 #[.pointer (some ⟨rg,0,none⟩),.int .i64 8] W fun e w'=>e = .returned (.int .u64 a)∧RdB w' rg ys∧FrRd rg W w'):=⟨fun W hW=>by
  exact rtake2 (low a 8) ys 8 8 rfl (low_len _ _) (by decide) (by decide) ((low_bs _ _).append hb) hW (num_low8 k3 (by omega))⟩
 have e1:IntKind.i64.wrap s=s:=i64_id (by omega) (by omega)
 have e2:IntKind.i64.wrap a=a:=i64_id (by omega) (by omega)
 have e3:wrap64 s=s:=wrap64_id (by omega) (by omega)
 have e4:wrap64 a=a:=wrap64_id (by omega) (by omega)
 obtain ⟨W0,hW0⟩:∃ W,w.alloc (Obj.cells #[.int .i64 0,.int .i64 0] 87)=W:=⟨_,rfl⟩
 have HR0:Aside0 (RdB W0 rg (keyB ⟨s,a⟩++ys)):=⟨by rw [← hW0];exact h.below (below_alloc (Below.refl _ _) _)⟩
 have HF0:Aside0 (FrRd rg w W0):=⟨by rw [← hW0];exact (FrRd.refl _ _).alloc _⟩
 have HZ0:Aside0 (W0.heap[w.heap.size]?=some (Obj.cells #[.int .i64 0,.int .i64 0] 87)):=⟨by rw [← hW0];exact newb rfl⟩
 have HN0:Aside0 (∀ W ds,FrRd rg w W→FrRd rg w (W.setRow w.heap.size ds)):=⟨fun W ds hW=>hW.setRowNew (Nat.le_refl _) ds⟩
 clear k1 k2 k3 k4 hb h
 go_enter Tryz.func175,Tryz.ntmps175
 go_wp2_with (first
  | (go_at_call 176;(with_reducible refine (HT1.out _ HR0.out).mono ?_);rintro r w2 ⟨rfl,h2,h3⟩;have HR2:=Aside0.mk h2;have HF2:=Aside0.mk (HF0.out.trans h3);have HZ2:=Aside0.mk (h3.blk HZ0.out (by decide));clear h2 h3)
  | (go_at_call 176;(with_reducible refine (HT2.out _ HR2.out).mono ?_);rintro r w3 ⟨rfl,h4,h5⟩;have HR3:=Aside0.mk h4;have HF3:=Aside0.mk (HF2.out.trans h5);have HZ3:=h5.blk HZ2.out (by decide);have HZ4:=Aside0.mk HZ3;have hst:(storeKeyI (.pointer (some ⟨w.heap.size,0,none⟩)) (.agg #[.int .i64 s,.int .i64 a])).run Tryz.prog w3 = .ok () (w3.setRow w.heap.size (keyA ⟨s,a⟩)):=st_key_at ⟨s,a⟩ HZ3 rfl;clear h4 h5 HZ3))
 refine bodyPost_ret (results_cell_row rfl _ _ w.heap.size 87 (keyA ⟨s,a⟩) (0,0) _ rfl (setRow_heap _ _ _ _ _ _ HZ4.out) Tryz.underlying87 rfl key_size) rfl ?_
 exact ⟨rfl,HR3.out.frT ((FrT.refl [87] _).setRow HZ4.out (by decide) _) (by decide) (by decide),HN0.out _ _ HF3.out⟩
end
section
attribute [local go_sem ↓] Go.wp_at_zero Go.wp_at_succ loadKey_eq loadEn_eq storeKey_eq storeEn_eq loadNd_eq storeNd_eq
theorem st_en_at [Inhabited Sanct] {W:World} {g:Nat} {cs ds:Array Value} (h:W.heap[g]?=some (Obj.cells cs 89)) (hs:cs.size=8) (hd:ds.size=8) (h1:ds.all (·.oneCell')=true):(storeEnI (.pointer (some ⟨g,0,none⟩)) (.agg ds)).run Tryz.prog W = .ok () (W.setRow g ds):=by
 have:=run_storeVar_row (P:=Tryz.prog) W g 89 89 cs ds h (by rw [hd];exact en_size) (by rw [hs,hd]) h1
 simp only [storeEnI,Instr.storeAt,Instr.sureAddr,Sem.run_bind,Sem.run_pure,Result.andThen_ok]
 exact this
structure EnSt [Inhabited Sanct] (w W:World) (rg g g2:Nat) (bs:List Int) (cs:Array Value):Prop where
 r:RdB W rg bs
 b:W.heap[g2]?=some (Obj.cells cs 89)
 z:W.heap[g]?=some (Obj.cells zEn 89)
 f:FrRd rg w W
theorem EnSt.step [Inhabited Sanct] {w W W2:World} {rg g g2:Nat} {bs ys:List Int} {cs:Array Value} (h:EnSt w W rg g g2 bs cs) (hr:RdB W2 rg ys) (hf:FrRd rg W W2):EnSt w W2 rg g g2 ys cs:=
 ⟨hr,hf.blk h.b (by decide),hf.blk h.z (by decide),h.f.trans hf⟩
theorem EnSt.set [Inhabited Sanct] {w W:World} {rg g g2:Nat} {bs:List Int} {cs:Array Value} (h:EnSt w W rg g g2 bs cs) (hg:g≠g2) (hn:w.heap.size≤g2) (j:Nat) (u:Value):EnSt w (W.setCell ⟨g2,j,none⟩ u) rg g g2 bs (cs.set! j u):=
 ⟨h.r.frT ((FrT.refl [89] _).setCell h.b (by decide) _ _) (by decide) (by decide),blk_set h.b j u,(Below.heap_setCell W ⟨g2,j,none⟩ u g hg).trans h.z,h.f.setNew hn j u⟩
theorem rentry_calls [Inhabited Sanct] {w:World} {rg:Nat} (e:En) (ys:List Int) (he:EnOk e) (hb:Bs ys) (h:RdB w rg (enB e++ys)) :
  Calls Tryz.prog 174 #[.pointer (some ⟨rg,0,none⟩)] w fun r w'=>r = .returned (.agg (enA e))∧RdB w' rg ys∧FrRd rg w w':=by
 obtain ⟨⟨s,a⟩,z,p,l,n,c,x⟩:=e
 obtain ⟨hk,z0,z1,p2,p5,l1,l6,pl,n1,n2,hc,x0,x1⟩:=he
 simp only at hk z0 z1 p2 p5 l1 l6 pl n1 n2 hc x0 x1
 have hk3:=hk.2.2.1
 simp only at hk3
 obtain ⟨pp,hpp⟩:∃ z:Int,(p:Int)=z:=⟨_,rfl⟩
 obtain ⟨ll,hll⟩:∃ z:Int,(l:Int)=z:=⟨_,rfl⟩
 obtain ⟨nn,hnn⟩:∃ z:Int,(n:Int)=z:=⟨_,rfl⟩
 obtain ⟨cc,hcc⟩:∃ z:Int,(c:Int)=z:=⟨_,rfl⟩
 have hbp:Bs (low (p:Int) 2):=low_bs _ _
 obtain ⟨b6,hb6⟩:∃ B,low x 4++ys=B:=⟨_,rfl⟩
 have g6:Bs b6:=by rw [← hb6];exact (low_bs _ _).append hb
 obtain ⟨b5,hb5⟩:∃ B,low cc 1++b6=B:=⟨_,rfl⟩
 have g5:Bs b5:=by rw [← hb5];exact (low_bs _ _).append g6
 obtain ⟨b4,hb4⟩:∃ B,low nn 1++b5=B:=⟨_,rfl⟩
 have g4:Bs b4:=by rw [← hb4];exact (low_bs _ _).append g5
 obtain ⟨b3,hb3⟩:∃ B,low ll 2++b4=B:=⟨_,rfl⟩
 have g3:Bs b3:=by rw [← hb3];exact (low_bs _ _).append g4
 obtain ⟨b2,hb2⟩:∃ B,low pp 2++b3=B:=⟨_,rfl⟩
 have g2:Bs b2:=by rw [← hb2];exact (low_bs _ _).append g3
 obtain ⟨b1,hb1⟩:∃ B,low z 8++b2=B:=⟨_,rfl⟩
 have g1:Bs b1:=by rw [← hb1];exact (low_bs _ _).append g2
 have hall:enB ⟨⟨s,a⟩,z,p,l,n,c,x⟩++ys=keyB ⟨s,a⟩++b1:=by
  have q1:low nn 1=[(n:Int)]:=by rw [← hnn];simp [low];omega
  have q2:low cc 1=[(c:Int)]:=by rw [← hcc];simp [low];omega
  rw [← hb1,← hb2,← hb3,← hb4,← hb5,← hb6,q1,q2,← hpp,← hll]
  simp only [enB,List.append_assoc,List.cons_append,List.nil_append]
 rw [hall] at h
 have HT0:Aside0 (∀ W,RdB W rg (keyB ⟨s,a⟩++b1)→Calls Tryz.prog 175 #[.pointer (some ⟨rg,0,none⟩)] W fun e w'=>e = .returned (.agg #[.int .i64 s,.int .i64 a])∧RdB w' rg b1∧FrRd rg W w'):=⟨fun W hW=>rkey_calls ⟨s,a⟩ b1 hk g1 hW⟩
 have HT1:Aside0 (∀ W,RdB W rg b1→Calls Tryz.prog 176 #[.pointer (some ⟨rg,0,none⟩),.int .i64 8] W fun e w'=>e = .returned (.int .u64 z)∧RdB w' rg b2∧FrRd rg W w'):=⟨fun W hW=>by
  rw [← hb1] at hW
  exact rtake2 (low z 8) b2 8 8 rfl (low_len _ _) (by decide) (by decide) ((low_bs _ _).append g2) hW (num_low8 (by omega) (by omega))⟩
 have HT2:Aside0 (∀ W,RdB W rg b2→Calls Tryz.prog 176 #[.pointer (some ⟨rg,0,none⟩),.int .i64 2] W fun e w'=>e = .returned (.int .u64 pp)∧RdB w' rg b3∧FrRd rg W w'):=⟨fun W hW=>by
  rw [← hb2] at hW
  exact rtake2 (low pp 2) b3 2 2 rfl (low_len _ _) (by decide) (by decide) ((low_bs _ _).append g3) hW (num_low2 (by omega) (by omega))⟩
 have HT3:Aside0 (∀ W,RdB W rg b3→Calls Tryz.prog 176 #[.pointer (some ⟨rg,0,none⟩),.int .i64 2] W fun e w'=>e = .returned (.int .u64 ll)∧RdB w' rg b4∧FrRd rg W w'):=⟨fun W hW=>by
  rw [← hb3] at hW
  exact rtake2 (low ll 2) b4 2 2 rfl (low_len _ _) (by decide) (by decide) ((low_bs _ _).append g4) hW (num_low2 (by omega) (by omega))⟩
 have HT4:Aside0 (∀ W,RdB W rg b4→Calls Tryz.prog 176 #[.pointer (some ⟨rg,0,none⟩),.int .i64 1] W fun e w'=>e = .returned (.int .u64 nn)∧RdB w' rg b5∧FrRd rg W w'):=⟨fun W hW=>by
  rw [← hb4] at hW
  exact rtake2 (low nn 1) b5 1 1 rfl (low_len _ _) (by decide) (by decide) ((low_bs _ _).append g5) hW (num_low1 (by omega) (by omega))⟩
 have HT5:Aside0 (∀ W,RdB W rg b5→Calls Tryz.prog 176 #[.pointer (some ⟨rg,0,none⟩),.int .i64 1] W fun e w'=>e = .returned (.int .u64 cc)∧RdB w' rg b6∧FrRd rg W w'):=⟨fun W hW=>by
  rw [← hb5] at hW
  exact rtake2 (low cc 1) b6 1 1 rfl (low_len _ _) (by decide) (by decide) ((low_bs _ _).append g6) hW (num_low1 (by omega) (by omega))⟩
 have HT6:Aside0 (∀ W,RdB W rg b6→Calls Tryz.prog 176 #[.pointer (some ⟨rg,0,none⟩),.int .i64 4] W fun e w'=>e = .returned (.int .u64 x)∧RdB w' rg ys∧FrRd rg W w'):=⟨fun W hW=>by
  rw [← hb6] at hW
  exact rtake2 (low x 4) ys 4 4 rfl (low_len _ _) (by decide) (by decide) ((low_bs _ _).append hb) hW (num_low4 (by omega) (by omega))⟩
 have e1:IntKind.i64.wrap z=z:=i64_id (by omega) (by omega)
 have e2:wrap64 z=z:=wrap64_id (by omega) (by omega)
 have e3:IntKind.i64.wrap pp=pp:=i64_id (by omega) (by omega)
 have e4:wrap64 pp=pp:=wrap64_id (by omega) (by omega)
 have e5:IntKind.i64.wrap ll=ll:=i64_id (by omega) (by omega)
 have e6:wrap64 ll=ll:=wrap64_id (by omega) (by omega)
 have e7:IntKind.i64.wrap nn=nn:=i64_id (by omega) (by omega)
 have e8:wrap64 nn=nn:=wrap64_id (by omega) (by omega)
 have e9:IntKind.i64.wrap cc=cc:=i64_id (by omega) (by omega)
 have e10:wrap64 cc=cc:=wrap64_id (by omega) (by omega)
 have e11:IntKind.u32.wrap x=x:=by simp [IntKind.wrap,IntKind.bits,IntKind.signed];omega
 have HE:Aside0 (enA ⟨⟨s,a⟩,z,p,l,n,c,x⟩=#[.int .i64 s,.int .i64 a,.int .i64 z,.int .i64 pp,.int .i64 ll,.int .i64 nn,.int .i64 cc,.int .u32 x]):=⟨by rw [← hpp,← hll,← hnn,← hcc];rfl⟩
 obtain ⟨W0,hW0⟩:∃ W,w.alloc (Obj.cells #[.int .i64 0,.int .i64 0,.int .i64 0,.int .i64 0,.int .i64 0,.int .i64 0,.int .i64 0,.int .u32 0] 89)=W:=⟨_,rfl⟩
 have HR0:Aside0 (RdB W0 rg (keyB ⟨s,a⟩++b1)):=⟨by rw [← hW0];exact h.below (below_alloc (Below.refl _ _) _)⟩
 have HF0:Aside0 (FrRd rg w W0):=⟨by rw [← hW0];exact (FrRd.refl _ _).alloc _⟩
 have HZ0:Aside0 (W0.heap[w.heap.size]?=some (Obj.cells zEn 89)):=⟨by rw [← hW0];exact newb rfl⟩
 have HN0:Aside0 (∀ W ds,FrRd rg w W→FrRd rg w (W.setRow w.heap.size ds)):=⟨fun W ds hW=>hW.setRowNew (Nat.le_refl _) ds⟩
 clear hk hk3 z0 z1 p2 p5 l1 l6 pl n1 n2 hc x0 x1 hpp hll hnn hcc hbp hb1 hb2 hb3 hb4 hb5 hb6 g1 g2 g3 g4 g5 g6 hall h hb
 go_enter Tryz.func174,Tryz.ntmps174
 go_wp2_with (first
  | (go_at_call 175;(with_reducible refine (HT0.out _ HR0.out).mono ?_);rintro r w2 ⟨rfl,h2,h3⟩;have HR2:=Aside0.mk h2;have HF2:=Aside0.mk (HF0.out.trans h3);have HZ2:=Aside0.mk (h3.blk HZ0.out (by decide));clear h2 h3)
  | (go_at_call 176;(with_reducible refine (HT1.out _ HR2.out).mono ?_);rintro r w3 ⟨rfl,h4,h5⟩;refine hold ?_))
 unfold Hold
 obtain ⟨W4,hW4⟩:∃ W,w3.alloc (Obj.cells #[.int .i64 s,.int .i64 a,.int .i64 z,.int .i64 0,.int .i64 0,.int .i64 0,.int .i64 0,.int .u32 0] 89)=W:=⟨_,rfl⟩
 have hst:(storeEnI (.pointer (some ⟨w3.heap.size,0,none⟩)) (.agg #[.int .i64 s,.int .i64 a,.int .i64 z,.int .i64 0,.int .i64 0,.int .i64 0,.int .i64 0,.int .u32 0])).run Tryz.prog (w3.alloc (Obj.cells #[.int .i64 0,.int .i64 0,.int .i64 0,.int .i64 0,.int .i64 0,.int .i64 0,.int .i64 0,.int .u32 0] 89)) = .ok () W4:=by
  have:=st_en_at (g:=w3.heap.size) (ds:=#[.int .i64 s,.int .i64 a,.int .i64 z,.int .i64 0,.int .i64 0,.int .i64 0,.int .i64 0,.int .u32 0]) (newb (w:=w3) (o:=Obj.cells #[.int .i64 0,.int .i64 0,.int .i64 0,.int .i64 0,.int .i64 0,.int .i64 0,.int .i64 0,.int .u32 0] 89) rfl) rfl rfl (enA_one ⟨⟨s,a⟩,z,0,0,0,0,0⟩)
  rw [World.setRow_alloc_new] at this
  rw [this,hW4]
 have hs3:w.heap.size<w3.heap.size:=by
  have:=blk_lt (h5.blk HZ2.out (by decide))
  omega
 have HS4:Aside0 (EnSt w W4 rg w.heap.size w3.heap.size b2 #[.int .i64 s,.int .i64 a,.int .i64 z,.int .i64 0,.int .i64 0,.int .i64 0,.int .i64 0,.int .u32 0]):=⟨by
  rw [← hW4]
  exact ⟨h4.below (below_alloc (Below.refl _ _) _),newb rfl,blk_alloc (h5.blk HZ2.out (by decide)) _,(HF2.out.trans h5).alloc _⟩⟩
 have HSS:Aside0 (∀ W bs cs j u,EnSt w W rg w.heap.size w3.heap.size bs cs→EnSt w (W.setCell ⟨w3.heap.size,j,none⟩ u) rg w.heap.size w3.heap.size bs (cs.set! j u)):=⟨fun W bs cs j u h=>h.set (by omega) (by omega) j u⟩
 have HGN:=Aside0.mk hs3
 obtain ⟨g2,hg2⟩:∃ g,w3.heap.size=g:=⟨_,rfl⟩
 clear h4 h5 HR2 HF2 HZ2 HT0 HT1 hs3
 rw [hg2] at hst HS4 HSS HGN
 go_wp2_with (first
  | (go_at_call 176;(with_reducible refine (HT2.out _ HS4.out.r).mono ?_);rintro r w5 ⟨rfl,h4,h5⟩;have HS5:=Aside0.mk (HS4.out.step h4 h5);clear h4 h5)
  | (go_at_call 176;(with_reducible refine (HT3.out _ HS5.out.r).mono ?_);rintro r w6 ⟨rfl,h4,h5⟩;have HS6:=Aside0.mk (HS5.out.step h4 h5);clear h4 h5;refine hold ?_))
 unfold Hold
 have hz6:=HS6.out.b
 have c3:w6.cell? ⟨g2,3,none⟩=some (.int .i64 0):=by rw [blk_cell hz6 3];rfl
 have c4:w6.cell? ⟨g2,4,none⟩=some (.int .i64 0):=by rw [blk_cell hz6 4];rfl
 have f3:=blk_frozen hz6 3
 have f4:=blk_frozen hz6 4
 have HS7:=Aside0.mk (HSS.out _ _ _ 4 (.int .i64 ll) (HSS.out _ _ _ 3 (.int .i64 pp) HS6.out))
 clear hW0 hW4 hst hg2 hz6
 go_wp2_with (first
  | (go_at_call 176;(with_reducible refine (HT4.out _ HS7.out.r).mono ?_);rintro r w8 ⟨rfl,h4,h5⟩;have HS8:=Aside0.mk (HS7.out.step h4 h5);clear h4 h5)
  | (go_at_call 176;(with_reducible refine (HT5.out _ HS8.out.r).mono ?_);rintro r w9 ⟨rfl,h4,h5⟩;have HS9:=Aside0.mk (HS8.out.step h4 h5);clear h4 h5;refine hold ?_))
 unfold Hold
 have hz9:=HS9.out.b
 have c5:w9.cell? ⟨g2,5,none⟩=some (.int .i64 0):=by rw [blk_cell hz9 5];rfl
 have c6:w9.cell? ⟨g2,6,none⟩=some (.int .i64 0):=by rw [blk_cell hz9 6];rfl
 have f5:=blk_frozen hz9 5
 have f6:=blk_frozen hz9 6
 have HS10:=Aside0.mk (HSS.out _ _ _ 6 (.int .i64 cc) (HSS.out _ _ _ 5 (.int .i64 nn) HS9.out))
 clear hz9 c3 c4 f3 f4
 go_wp2_with (go_at_call 176;(with_reducible refine (HT6.out _ HS10.out.r).mono ?_);rintro r w11 ⟨rfl,h4,h5⟩;have HS11:=Aside0.mk (HS10.out.step h4 h5);clear h4 h5;refine hold ?_)
 unfold Hold
 have hz11:=HS11.out.b
 have c7:w11.cell? ⟨g2,7,none⟩=some (.int .u32 0):=by rw [blk_cell hz11 7];rfl
 have f7:=blk_frozen hz11 7
 clear c5 c6 f5 f6
 have HS12:=Aside0.mk (HSS.out _ _ _ 7 (.int .u32 x) HS11.out)
 obtain ⟨E,hE⟩:∃ E,enA ⟨⟨s,a⟩,z,p,l,n,c,x⟩=E:=⟨_,rfl⟩
 have hE1:E.all (·.oneCell')=true:=by rw [← hE];exact enA_one _
 have hE8:E.size=8:=by rw [← hE];rfl
 have hb12:(w11.setCell ⟨g2,7,none⟩ (.int .u32 x)).heap[g2]?=some (Obj.cells E 89):=by
  have:=HS12.out.b
  rw [← hE,HE.out]
  exact this
 have hld:(loadEnI (.pointer (some ⟨g2,0,none⟩))).run Tryz.prog (w11.setCell ⟨g2,7,none⟩ (.int .u32 x)) = .ok (.agg E) (w11.setCell ⟨g2,7,none⟩ (.int .u32 x)):=
  run_loadAt_mid (P:=Tryz.prog) _ g2 0 89 E.toList _ (fun j v hv=>by rw [Nat.zero_add,blk_cell hb12 j];simpa using hv) Tryz.underlying89 rfl (by rw [Array.length_toList,hE8];exact en_size)
 have hst:=st_en_at (ds:=E) HS12.out.z rfl hE8 hE1
 have HEE:=Aside0.mk (And.intro hE hE8)
 clear hE hE1 hE8 hb12 hz11 HT2 HT3 HT4 HT5 HT6
 go_wp2
 refine bodyPost_ret (results_cell_row rfl _ _ w.heap.size 89 E (0,0) _ rfl (setRow_heap _ _ _ _ _ _ HS12.out.z) Tryz.underlying89 rfl (by rw [HEE.out.2];exact en_size)) rfl ?_
 exact ⟨by rw [HEE.out.1],HS12.out.r.frT ((FrT.refl [89] _).setRow HS12.out.z (by decide) _) (by decide) (by decide),HN0.out _ _ HS12.out.f⟩
end
section
attribute [local go_sem ↓] Go.wp_at_zero Go.wp_at_succ loadKey_eq loadEn_eq storeKey_eq storeEn_eq loadNd_eq storeNd_eq
theorem st_nd_at [Inhabited Sanct] {W:World} {g:Nat} {cs ds:Array Value} (h:W.heap[g]?=some (Obj.cells cs 175)) (hs:cs.size=4) (hd:ds.size=4) (h1:ds.all (·.oneCell')=true):(storeNdI (.pointer (some ⟨g,0,none⟩)) (.agg ds)).run Tryz.prog W = .ok () (W.setRow g ds):=by
 have:=run_storeVar_row (P:=Tryz.prog) W g 175 175 cs ds h (by rw [hd];exact nd_size) (by rw [hs,hd]) h1
 simp only [storeNdI,Instr.storeAt,Instr.sureAddr,Sem.run_bind,Sem.run_pure,Result.andThen_ok]
 exact this
theorem info_en [Inhabited Sanct]:(Tryz.prog.info? 89).map (fun i=>(i.zero,i.size,i.bytes))=some (some (.agg zEn),8,64):=by kernel_rfl
theorem info_ky [Inhabited Sanct]:(Tryz.prog.info? 87).map (fun i=>(i.zero,i.size,i.bytes))=some (some (.agg zKy),2,16):=by kernel_rfl
theorem info_in [Inhabited Sanct]:(Tryz.prog.info? 3).map (fun i=>(i.zero,i.size,i.bytes))=some (some (.int .i64 0),1,8):=by kernel_rfl
def zNd:Array Value:=#[.bool false,.slice none 0 0,.slice none 0 0,.slice none 0 0]
structure NdR (w:World) (base:Nat) (v:Array Value) (nd:Nd):Prop where
 e:∃ v1 v2 v3,v=#[.bool nd.lf,v1,v2,v3]∧kE.R 89 w base (fun _=>True) v1 nd.es∧kK.R 87 w base (fun _=>True) v2 nd.ks∧kN.R 3 w base (fun _=>True) v3 nd.ts
theorem NdR.v {w:World} {base:Nat} {v:Array Value} {nd:Nd} (h:NdR w base v nd) (hm:nd.es.length≤1000000∧nd.ks.length≤1000000∧nd.ts.length≤1000000):NdV w v nd:=by
 obtain ⟨v1,v2,v3,rfl,h1,h2,h3⟩:=h.e
 obtain ⟨A1,c1,rfl⟩:=Kd.R_slice h1
 obtain ⟨A2,c2,rfl⟩:=Kd.R_slice h2
 obtain ⟨A3,c3,rfl⟩:=Kd.R_slice h3
 exact ⟨A1,c1,A2,c2,A3,c3,rfl,(Kd.R_reads' h1).2.1,(Kd.R_reads' h2).2.1,(Kd.R_reads' h3).2.1,R_rw h1 hm.1,R_rw h2 hm.2.1,R_rw h3 hm.2.2⟩
structure GtSt (w W:World) (gN g4 rg:Nat) (cs:Array Value) (bs:List Int):Prop where
 b:NbAt W gN cs
 z:NbAt W g4 zNd
 r:RdB W rg bs
 h:Below w.heap.size w W
 n:w.heap.size≤gN
 m:w.heap.size≤rg
 ne:g4≠gN
theorem GtSt.read [Inhabited Sanct] {w W W2:World} {gN g4 rg:Nat} {cs:Array Value} {bs ys:List Int} (h:GtSt w W gN g4 rg cs bs) (hr:RdB W2 rg ys) (hf:FrRd rg W W2):GtSt w W2 gN g4 rg cs ys:=
 ⟨hf.blk h.b (by decide),hf.blk h.z (by decide),hr,hf.below h.h h.m,h.n,h.m,h.ne⟩
theorem GtSt.frT [Inhabited Sanct] {T:List Nat} {w W W2:World} {gN g4 rg:Nat} {cs:Array Value} {bs:List Int} (h:GtSt w W gN g4 rg cs bs) (hf:FrT T W W2) (hb:Below w.heap.size w W2) (h1:175 ∉ T) (h2:273 ∉ T) (h3:5 ∉ T):GtSt w W2 gN g4 rg cs bs:=
 ⟨hf.blk h.b h1,hf.blk h.z h1,h.r.frT hf h2 h3,hb,h.n,h.m,h.ne⟩
theorem GtSt.set [Inhabited Sanct] {w W:World} {gN g4 rg:Nat} {cs:Array Value} {bs:List Int} (h:GtSt w W gN g4 rg cs bs) (j:Nat) (u:Value):GtSt w (W.setCell ⟨gN,j,none⟩ u) gN g4 rg (cs.set! j u) bs:=
 ⟨blk_set h.b j u,(Below.heap_setCell W ⟨gN,j,none⟩ u g4 h.ne).trans h.z,h.r.frT ((FrT.refl [175] _).setCell h.b (by decide) _ _) (by decide) (by decide),h.h.setCell h.n _,h.n,h.m,h.ne⟩
theorem ndB_leaf {nd:Nd} (h:nd.lf=true) (h1:nd.ks=[]):ndB nd=(nd.es.length:Int) :: nd.es.flatMap enB:=by
 simp [ndB,ndSize,h,h1]
theorem ndB_inner {nd:Nd} (h:nd.lf=false) (h1:nd.es=[]):ndB nd=(nd.ts.length:Int) :: (nd.ks.zip nd.ts).flatMap kdB:=by
 simp [ndB,ndSize,h,h1]
theorem nget_leaf [Inhabited Sanct] {w:World} {A:Option Addr} {c:Nat} {es:List En} (hL:LeafOk es) (hb:RBy w A (ndB ⟨true,es,[],[]⟩)) (hc:(ndB ⟨true,es,[],[]⟩).length≤c) (hB:Bs (ndB ⟨true,es,[],[]⟩)) (hsB:sB≤w.heap.size:=by assumption) :
  Calls Tryz.prog 133 #[.bool true,.slice A (ndB ⟨true,es,[],[]⟩).length c] w fun r w'=>∃ v,r = .returned (.tuple #[.agg v,.int .i64 0])∧NdR w' w.heap.size v ⟨true,es,[],[]⟩∧Below w.heap.size w w':=by
 obtain ⟨B,hBq⟩:∃ B,ndB ⟨true,es,[],[]⟩=B:=⟨_,rfl⟩
 have hBe:B=(es.length:Int) :: es.flatMap enB:=by rw [← hBq];exact ndB_leaf rfl rfl
 rw [hBq] at hb hc hB ⊢
 obtain ⟨n1,hn1⟩:∃ n,es.length=n:=⟨_,rfl⟩
 have h17:1≤n1∧n1≤7:=by have:=hL.n1;have:=hL.n7;omega
 obtain ⟨L,hLn⟩:∃ n,B.length=n:=⟨_,rfl⟩
 have hl:L=n1*30+1:=by rw [← hLn,hBe,List.length_cons,flat_len enB_len,hn1]
 rw [hLn] at hc ⊢
 obtain ⟨g,o,cs,fr,rfl,hcs,hat⟩:=hb.2 (by omega)
 obtain ⟨z,hz⟩:∃ z:Int,(n1:Int)=z:=⟨_,rfl⟩
 have hc0:w.cell? ⟨g,o,none⟩=some (.int .u8 z):=by
  rw [cell_of_row w g _ _ _ _ hcs]
  have:=hat 0 (n1:Int) (by rw [hBe,hn1];rfl) 0 _ rfl
  rw [← hz]
  simpa using this
 have d1:(L == 0)=false:=beq_eq_false_iff_ne.mpr (by omega)
 have d1':((L:Int) == 0)=false:=beq_eq_false_iff_ne.mpr (by omega)
 have d2:(0<(L:Int))=True:=eq_true (by omega)
 have d2':(0<L)=True:=eq_true (by omega)
 have d3:(1≤(c:Int))=True:=eq_true (by omega)
 have d3':(1≤c)=True:=eq_true (by omega)
 have d4:(c=1)=False:=eq_false (by omega)
 have d5:(1≤L)=True:=eq_true (by omega)
 have d5':(1≤(L:Int))=True:=eq_true (by omega)
 obtain ⟨m,hm⟩:∃ m:Int,z*30=m:=⟨_,rfl⟩
 have e1:IntKind.i64.wrap z=z:=i64_id (by omega) (by omega)
 have e1':wrap64 z=z:=wrap64_id (by omega) (by omega)
 have e2:IntKind.i64.wrap (z*30)=m:=by rw [hm];exact i64_id (by omega) (by omega)
 have e2':wrap64 (z*30)=m:=by rw [hm];exact wrap64_id (by omega) (by omega)
 have e3:IntKind.i64.wrap (1+m)=(L:Int):=by rw [i64_id (by omega) (by omega)];omega
 have e3':wrap64 (1+m)=(L:Int):=by rw [wrap64_id (by omega) (by omega)];omega
 obtain ⟨W1,hW1⟩:∃ W,w.alloc (Obj.cells #[.bool false,.slice none 0 0,.slice none 0 0,.slice none 0 0] 175)=W:=⟨_,rfl⟩
 have hB1:Below w.heap.size w W1:=by rw [← hW1];exact below_alloc (Below.refl _ _) _
 have hs1:W1.heap.size=w.heap.size+1:=by rw [← hW1];simp
 have hz1:NbAt W1 w.heap.size zNd:=by rw [← hW1];exact newb rfl
 obtain ⟨gN,hgN⟩:∃ g,W1.heap.size=g:=⟨_,rfl⟩
 obtain ⟨W2,hW2⟩:∃ W,W1.alloc (Obj.cells #[.bool true,.slice none 0 0,.slice none 0 0,.slice none 0 0] 175)=W:=⟨_,rfl⟩
 have hst:(storeNdI (.pointer (some ⟨gN,0,none⟩)) (.agg #[.bool true,.slice none 0 0,.slice none 0 0,.slice none 0 0])).run Tryz.prog (W1.alloc (Obj.cells #[.bool false,.slice none 0 0,.slice none 0 0,.slice none 0 0] 175)) = .ok () W2:=by
  have:=st_nd_at (g:=W1.heap.size) (ds:=#[.bool true,.slice none 0 0,.slice none 0 0,.slice none 0 0]) (newb (w:=W1) (o:=Obj.cells #[.bool false,.slice none 0 0,.slice none 0 0,.slice none 0 0] 175) rfl) rfl rfl (by simp [Value.oneCell'])
  rw [World.setRow_alloc_new,hgN] at this
  rw [this,hW2]
 have hB2:Below w.heap.size w W2:=by rw [← hW2];exact below_alloc hB1 _
 have hs2:W2.heap.size=gN+1:=by rw [← hW2,← hgN];simp
 obtain ⟨rg,hrg⟩:∃ g,W2.heap.size=g:=⟨_,rfl⟩
 obtain ⟨W3,hW3⟩:∃ W,W2.alloc (Obj.cells #[.slice (some ⟨g,o+1,none⟩) (L-1) (c-1)] 273)=W:=⟨_,rfl⟩
 have hB3:Below w.heap.size w W3:=by rw [← hW3];exact below_alloc hB2 _
 have hcW:∀ W,Below w.heap.size w W→W.cell? ⟨g,o,none⟩=some (.int .u8 z):=fun W hW=>pw_cell_below hW hc0
 have c1:=hcW _ hB1
 have c3:=hcW _ hB3
 have HG3:Aside0 (GtSt w W3 gN w.heap.size rg #[.bool true,.slice none 0 0,.slice none 0 0,.slice none 0 0] (es.flatMap enB)):=⟨by
  refine ⟨by rw [← hW3,← hW2];exact (nb_new _ hgN).alloc _,by rw [← hW3,← hW2];exact (hz1.alloc _).alloc _,?_,hB3,by omega,by omega,by omega⟩
  refine ⟨some ⟨g,o+1,none⟩,c-1,?_,?_,?_⟩
  ·rw [flat_len enB_len,hn1,show n1*30=L-1 by omega,← hW3]
   exact newb hrg
  ·rw [flat_len enB_len,hn1];omega
  ·have:=(hb.drop 1).below hB3
   rw [hBe] at this
   simpa [Addr.add] using this⟩
 have HX:=Aside0.mk (And.intro hb (And.intro hc (And.intro hB (And.intro hBe (And.intro hn1 (And.intro h17 (And.intro hLn (And.intro hl hz))))))))
 have HLO:=Aside0.mk hL
 have HBQ:=Aside0.mk hBq
 clear hb hc hB hBe hn1 h17 hLn hl hcs hat hz hm hL hBq hc0 hcW hB1 hB2 hB3 hs1 hs2 hz1
 go_enter Tryz.func133,Tryz.ntmps133
 go_wp2
 clear c1 c3 hst hW1 hgN hW2 hrg hW3 e1 e1' e2 e2' e3 e3' d1 d1' d2 d2' d3 d3' d4 d5 d5'
 go_loopw [38] (fun v38 wr=>∃ (i:Nat) (ii:Int) (v1:Value),v38 = .int .i64 ii∧Aside0 (ii=(i:Int))∧Aside0 (i≤n1)∧Aside0 (GtSt w wr gN w.heap.size rg #[.bool true,v1,.slice none 0 0,.slice none 0 0] ((es.drop i).flatMap enB))∧Aside0 (kE.R 89 wr w.heap.size (fun _=>True) v1 (es.take i))) (fun v38 _=>(z-intOf v38).toNat)
 case atStart=>exact ⟨0,0,.slice none 0 0,rfl,⟨rfl⟩,⟨Nat.zero_le _⟩,HG3,⟨Kd.R_nil _ _ _ _ _⟩⟩
 case round=>
  obtain ⟨i,ii,v1,rfl,HI,HIL,HG,HO⟩:=hrel
  have hi0:0≤ii∧ii≤16:=by have:=HI.out;have:=HIL.out;have:=HX.out;omega
  have e5:wrap64 (ii+1)=ii+1:=wrap64_id (by omega) (by omega)
  by_cases hlt:i<n1
  ·have d1:decide (ii<z)=true:=decide_eq_true (by have:=HI.out;have:=HX.out;omega)
   obtain ⟨e,he⟩:∃ e,es[i]?=some e:=⟨_,List.getElem?_eq_getElem (by have:=HX.out;omega)⟩
   have hdr:(es.drop i).flatMap enB=enB e++(es.drop (i+1)).flatMap enB:=by
    obtain ⟨h1,h2⟩:=List.getElem?_eq_some_iff.1 he
    rw [List.drop_eq_getElem_cons h1,h2,List.flatMap_cons]
   have htk:es.take (i+1)=es.take i++[e]:=by rw [List.take_add_one,he];rfl
   obtain ⟨R,hR⟩:∃ R,(es.drop (i+1)).flatMap enB=R:=⟨_,rfl⟩
   have hRB:Bs R:=by
    intro x hx
    refine HX.out.2.2.1 x ?_
    rw [HX.out.2.2.2.1]
    rw [← hR] at hx
    obtain ⟨y,hy,hxy⟩:=List.mem_flatMap.1 hx
    exact List.mem_cons_of_mem _ (List.mem_flatMap.2 ⟨y,List.mem_of_mem_drop hy,hxy⟩)
   have hgg:=HG.out
   have hoo:=HO.out
   rw [hdr,hR] at hgg
   have HTK:=Aside0.mk (And.intro htk hR)
   have hEK:=HLO.out.ok e (List.mem_of_getElem? he)
   have HG1:=Aside0.mk (hgg.frT (T:=[]) ((FrT.refl [] _).drew) (below_drew hgg.h) (by decide) (by decide) (by decide))
   have HO1:=Aside0.mk (Kd.R_drew hoo)
   have HEN0:=Aside0.mk (fun W hW=>rentry_calls (w:=W) (rg:=rg) e R hEK hRB hW)
   clear hgg hoo hdr htk hR hRB hEK he HG HO
   obtain ⟨⟨ks,ka⟩,kz,kp,kl,kn,kc,kx⟩:=e
   obtain ⟨pp,hpp⟩:∃ z:Int,(kp:Int)=z:=⟨_,rfl⟩
   obtain ⟨ll,hll⟩:∃ z:Int,(kl:Int)=z:=⟨_,rfl⟩
   obtain ⟨nn,hnn⟩:∃ z:Int,(kn:Int)=z:=⟨_,rfl⟩
   obtain ⟨cc,hcc⟩:∃ z:Int,(kc:Int)=z:=⟨_,rfl⟩
   have HEN:Aside0 (∀ W,RdB W rg (enB ⟨⟨ks,ka⟩,kz,kp,kl,kn,kc,kx⟩++R)→Calls Tryz.prog 174 #[.pointer (some ⟨rg,0,none⟩)] W fun r w'=>r = .returned (.agg #[.int .i64 ks,.int .i64 ka,.int .i64 kz,.int .i64 pp,.int .i64 ll,.int .i64 nn,.int .i64 cc,.int .u32 kx])∧RdB w' rg R∧FrRd rg W w'):=⟨fun W hW=>by rw [← hpp,← hll,← hnn,← hcc];exact HEN0.out W hW⟩
   have HEC:Aside0 ([Value.int .i64 ks,.int .i64 ka,.int .i64 kz,.int .i64 pp,.int .i64 ll,.int .i64 nn,.int .i64 cc,.int .u32 kx]=enC ⟨⟨ks,ka⟩,kz,kp,kl,kn,kc,kx⟩):=⟨by rw [← hpp,← hll,← hnn,← hcc];rfl⟩
   have hk1:=HG1.out.b
   have hc:=nb_cell (g:=gN) (x0:=.bool true) (x1:=v1) (x2:=.slice none 0 0) (x3:=.slice none 0 0)
   clear hpp hll hnn hcc HEN0
   go_wp2
   refine start_ (n:=8) (S:=(fun w'=>NbAt w' gN #[.bool true,v1,.slice none 0 0,.slice none 0 0])) (ds:=[7]) (fbB 8 0) (by kernel_rfl) rfl rfl hk1 (fun hHeld=>?_)
   refine puR 0 41 (fbB 8 1) (h:=?_)
   refine tkR 1 42 (fbB 8 3) hHeld (h:=?_)
   refine puR 2 43 (fbB 8 7) (h:=?_)
   refine one_ (i:=3) (N:=some 44) (fbB 8 15) rfl rfl (by kernel_rfl) (by simp) (fun K hK=>?_)
   refine goes_ Tryz.func174 (by kernel_rfl) rfl #[.pointer (some ⟨rg,0,none⟩)] (by rfl) rfl rfl (by simp [Act.eval]) ?_
   (with_reducible refine (HEN.out _ HG1.out.r).mono ?_)
   rintro r w2 ⟨rfl,h2,h3⟩
   have HG2:=Aside0.mk (HG1.out.read h2 h3)
   have HO2:=Aside0.mk (R_frT HO1.out h3.t (by decide))
   have hk2:=HG2.out.b
   clear h2 h3
   refine ⟨_,rfl,hK.out _ _ hk2 (fun hHeld=>?_)⟩
   refine nmR (h:=?_)
   refine one_ (i:=4) (N:=some 45) (fbB 8 31) rfl rfl (by kernel_rfl) (by simp) (fun K hK=>?_)
   go_simp
   have HG3:=Aside0.mk (HG2.out.frT (T:=[]) ((FrT.refl [] _).alloc (Obj.cells #[.int .i64 ks,.int .i64 ka,.int .i64 kz,.int .i64 pp,.int .i64 ll,.int .i64 nn,.int .i64 cc,.int .u32 kx] 89)) (below_alloc HG2.out.h _) (by decide) (by decide) (by decide))
   have hk3:=HG3.out.b
   refine hK.out _ _ hk3 (fun hHeld=>?_)
   refine one_ (i:=5) (N:=some 46) (fbB 8 63) rfl rfl (by kernel_rfl) (by simp) (fun K hK=>?_)
   refine Kd.R_append_step kE (w0:=w) w.heap.size (by rfl) (.tmp 42) (.tmp 45) 159 89 (.agg zEn) 64 rfl Tryz.underlying159 info_en rfl (by decide) (by decide) v1 (es.take i) ⟨⟨ks,ka⟩,kz,kp,kl,kn,kc,kx⟩ [.int .i64 ks,.int .i64 ka,.int .i64 kz,.int .i64 pp,.int .i64 ll,.int .i64 nn,.int .i64 cc,.int .u32 kx] (fun _=>True) (fun _=>False) rfl rfl HEC.out (fun _ hk=>hk.elim) (fun _ _=>trivial) HO2.out HG2.out.h (below_size HG2.out.h) (by rw [List.length_take];have:=HX.out;omega) ?_
   intro v9 w9 ho hb hg hat
   rw [← HTK.out.1] at ho
   obtain ⟨A9,q9,rfl⟩:=Kd.R_slice ho
   obtain ⟨n9,hn9⟩:∃ n,(es.take (i+1)).length=n:=⟨_,rfl⟩
   rw [hn9] at ho hat ⊢
   clear hn9
   have hf9:FrT [89] w2 w9:=(FrT.refl _ _).app HO2.out (by decide) hg
   have HG9:=Aside0.mk (HG2.out.frT hf9 hb (by decide) (by decide) (by decide))
   have HO9:=Aside0.mk ho
   have hk9:=HG9.out.b
   clear ho hb hg hat hf9
   refine hK.out _ _ hk9 (fun hHeld=>?_)
   refine nmR (h:=?_)
   refine puR 6 47 (fbB 8 127) (h:=?_)
   refine last_ (i:=7) (N:=none) (fbB 8 255) rfl rfl (by kernel_rfl) (by simp) (fun K hK=>?_)
   have c9:w9.cell? ⟨gN,1,none⟩=some v1:=by rw [blk_cell hk9 1];rfl
   have f9:=blk_frozen hk9 1
   go_simp
   refine hK.out _ _ ?_
   refine done_ (by kernel_rfl) ?_
   have HG10:=Aside0.mk (HG9.out.set 1 (.slice A9 n9 q9))
   have HO10:=Aside0.mk (R_frT HO9.out ((FrT.refl [175] _).setCell hk9 (by decide) 1 (.slice A9 n9 q9)) (by decide))
   clear hk1 hk2 hk3 hk9 c9 f9 hc hHeld
   go_wp2
   go_roundw
   case rel=>
    refine ⟨i+1,_,_,rfl,⟨by have:=HI.out;omega⟩,⟨by omega⟩,⟨?_⟩,HO10⟩
    rw [HTK.out.2]
    exact HG10.out
   case measure=>simp [intOf];have:=HI.out;have:=HX.out;omega
  ·obtain rfl:n1=i:=by have:=HIL.out;omega
   have d1:decide (ii<z)=false:=decide_eq_false (by have:=HI.out;have:=HX.out;omega)
   have hoo:=HO.out
   rw [List.take_of_length_le (by have:=HX.out;omega)] at hoo
   obtain ⟨A9,q9,rfl⟩:=Kd.R_slice hoo
   have HO2:=Aside0.mk hoo
   have HNR:Aside0 (∀ W,FrT [175] wr W→NdR W w.heap.size #[.bool true,.slice A9 es.length q9,.slice none 0 0,.slice none 0 0] ⟨true,es,[],[]⟩):=⟨fun W hf=>⟨_,_,_,rfl,R_frT HO2.out hf (by decide),Kd.R_nil _ _ _ _ _,Kd.R_nil _ _ _ _ _⟩⟩
   have HNV:Aside0 (NdV wr #[.bool true,.slice A9 es.length q9,.slice none 0 0,.slice none 0 0] ⟨true,es,[],[]⟩):=⟨(HNR.out wr (FrT.refl _ _)).v ⟨by have:=HX.out;simp only;omega,by simp,by simp⟩⟩
   clear hoo HO
   have hn:=HG.out.b
   have hld:=ld_nd (g:=gN) (v:=#[.bool true,.slice A9 es.length q9,.slice none 0 0,.slice none 0 0]) rfl
   have HPU:Aside0 (Calls Tryz.prog 177 #[.agg #[.bool true,.slice A9 es.length q9,.slice none 0 0,.slice none 0 0]] wr fun r w'=>∃ v',r = .returned (.tuple #[v',.int .i64 0])∧Kd.R (Kd.int .u8) 5 w' wr.heap.size (fun _=>True) v' B∧Below wr.heap.size wr w'):=⟨by rw [← HBQ.out];exact nput_calls HNV.out (Or.inl ⟨rfl,rfl,rfl,HLO.out⟩) (Nat.le_trans hsB HG.out.h.size)⟩
   go_wp2_with (go_at_call 177;(with_reducible refine HPU.out.mono ?_);rintro r w5 ⟨v5,rfl,ho,hb⟩;refine hold ?_)
   unfold Hold
   obtain ⟨A5,q5,rfl⟩:=Kd.R_slice ho
   have h1:=Kd.R_reads' ho
   have hBL:B.length=L:=HX.out.2.2.2.2.2.2.1
   have HEQ:Aside0 (Calls Tryz.prog 121 #[.slice A5 L q5,.slice (some ⟨g,o,none⟩) L c] w5 fun e w'=>e = .returned (.bool true)∧Below w5.heap.size w5 w'):=⟨by
    have:=bytes_Equal.calls A5 q5 B (some ⟨g,o,none⟩) c B true w5 h1.2.2 h1.2.1 (RBy.C (HX.out.1.below (below_step HG.out.h hb))) (by rw [hBL];exact HX.out.2.1) (by unfold bytes_Equal.f;simp)
    rw [hBL] at this
    exact this.mono (fun e w' h=>⟨h.1,h.2.below⟩)⟩
   have hn5:=hn.below hb
   have HZ5:=Aside0.mk (HG.out.z.below hb)
   have HB5:=Aside0.mk hb
   rw [hBL]
   clear ho hb h1 hBL hn
   go_wp2_with (go_at_call 121;(with_reducible refine HEQ.out.mono ?_);rintro r w6 ⟨rfl,hb⟩;have hn6:=hn5.below hb;have HZ6:=Aside0.mk (HZ5.out.below hb);have HB6:=Aside0.mk (below_step HB5.out hb);have hst:=st_nd_at (ds:=#[.bool true,.slice A9 es.length q9,.slice none 0 0,.slice none 0 0]) HZ6.out rfl rfl (by simp [Value.oneCell']);clear hb)
   have HB7:=Aside0.mk (below_step HG.out.h HB6.out)
   refine bodyPost_ret (results_ct rfl _ _ w.heap.size 175 #[.bool true,.slice A9 es.length q9,.slice none 0 0,.slice none 0 0] (0,0) _ rfl (setRow_heap _ _ _ _ _ _ HZ6.out) Tryz.underlying175 rfl nd_size) rfl ?_
   refine ⟨_,rfl,HNR.out _ ((FrT.of_below HB6.out _).setRow HZ6.out (by decide) _),?_⟩
   exact HB7.out.trans ⟨rfl,rfl,rfl,by simp [World.setRow],fun k hk=>setRow_other _ _ _ _ (by omega)⟩
end
end Go.Proofs.YtnhkikebfinejaaGreatDoor.Z
