/- Texts of this claim, laid together. No conditions. -/
import Derived.Test.YtnhkikebfinejaaGreatDoorMRickMany8
import Derived.Test.YtnhkikebfinejaaGreatDoorMRickMany1
set_option linter.unusedVariables false
set_option linter.unusedSimpArgs false
set_option maxRecDepth 100000
set_option maxHeartbeats 16000000
namespace Go.Proofs.YtnhkikebfinejaaGreatDoor.Z
open Go Go.RowKit Go.Proofs.YtnhkikebfinejaaGreatDoorW.PrintWords Go.Proofs.YtnhkikebfinejaaGreatDoorW.PrintLast Go.Proofs.YtnhkikebfinejaaGreatDoorW.PrintMore Go.Proofs.YtnhkikebfinejaaGreatDoor.S Go.Proofs.YtnhkikebfinejaaGreatDoor.X
section
attribute [local go_sem ↓] Go.wp_at_zero Go.wp_at_succ loadKey_eq loadEn_eq storeKey_eq storeEn_eq
theorem index_l0 {xs:List Int} {v:Int} (hl:xs.length≤1000) (d:Nat):∀ i k:Nat,i+d=xs.length→d<k → ∃ r,slices_Index_int_int.l0 k xs v (xs.length:Int) (i:Int)=some r∧(0≤r↔v∈xs.drop i):=by
 induction d with
 | zero=>
  intro i k hi hk
  obtain ⟨k,rfl⟩:∃ q,k=q+1:=⟨k-1,by omega⟩
  refine ⟨-1,?_,?_⟩
  ·rw [slices_Index_int_int.l0,if_neg (by omega)]
  ·rw [List.drop_of_length_le (by omega)];simp
 | succ d ih=>
  intro i k hi hk
  obtain ⟨k,rfl⟩:∃ q,k=q+1:=⟨k-1,by omega⟩
  have hlt:i<xs.length:=by omega
  rw [slices_Index_int_int.l0,if_pos (by omega),if_pos (by omega),if_pos (by omega),rd_get hlt]
  have hdr:=List.drop_eq_getElem_cons hlt
  by_cases e:v=xs[i]
  ·rw [if_pos e]
   exact ⟨_,rfl,⟨fun _=>by rw [hdr,← e];exact List.mem_cons_self,fun _=>by omega⟩⟩
  ·rw [if_neg e]
   have e1:wrap64 ((i:Int)+1)=((i+1:Nat):Int):=by rw [wrap64_id]<;>omega
   rw [e1]
   obtain ⟨r,h1,h2⟩:=ih (i+1) k (by omega) (by omega)
   exact ⟨r,h1,by rw [h2,hdr,List.mem_cons];simp [e]⟩
theorem contains_f {xs:List Int} {v:Int} (hl:xs.length≤1000):slices_Contains_int_int.f 1100 xs v=some (decide (v∈xs)):=by
 obtain ⟨r,h1,h2⟩:=index_l0 (v:=v) hl xs.length 0 1100 (by omega) (by omega)
 unfold slices_Contains_int_int.f slices_Index_int_int.f
 rw [show (0:Int)=((0:Nat):Int) from rfl,h1]
 simp only [Option.bind_some]
 rw [List.drop_zero] at h2
 congr 1
 exact decide_eq_decide.2 h2
def ints (ns:List Nat):List Int:=ns.map fun (n:Nat)=>((n:Nat):Int)
theorem contains_calls [Inhabited Sanct] {w:World} {A:Option Addr} {ns:List Nat} (n c:Nat) (hn:ns.length=n) (hc:n≤c) (hr:RNa w A ns) (hl:n≤1000) (v:Nat) (hv:v ∉ ns) :
  Calls Tryz.prog 75 #[.slice A n c,.int .i64 (v:Int)] w fun e w'=>e = .returned (.bool false)∧Below w.heap.size w w':=by
 have hlen:(ints ns).length=n:=by rw [ints,List.length_map,hn]
 have hC:Kd.C (Kd.int .i64) w A (ints ns).length (ints ns):=by
  rcases Nat.eq_zero_or_pos ns.length with h0 | h0
  ·exact ⟨rfl,by rw [hlen];omega,fun h=>by rw [hlen] at h;omega⟩
  ·obtain ⟨g,o,cs,fr,rfl,h2,h3⟩:=hr.2 h0
   refine C_of (fun i x hi=>?_) (by rw [hlen];omega)
   rw [ints,List.getElem?_map,Option.map_eq_some_iff] at hi
   obtain ⟨m,hm,rfl⟩:=hi
   rw [cell_of_row w g _ _ _ _ h2]
   have:=h3 i m hm 0 _ rfl
   simpa using this
 have:=slices_Contains_int_int.calls 1100 A c (ints ns) (v:Int) false w hC (by rw [hlen];exact hc) (by
  rw [contains_f (by rw [hlen];exact hl),decide_eq_false (fun h=>?_)]
  rw [ints,List.mem_map] at h
  obtain ⟨m,hm,he⟩:=h
  have:m=v:=by omega
  exact hv (by rw [← this];exact hm))
 rw [hlen] at this
 exact this.mono (fun e w' h=>⟨h.1,h.2.below⟩)
theorem inner_calls [Inhabited Sanct] {w:World} {A B:Option Addr} {ks:List Ky} {ts:List Nat} (n c c2:Nat) (hn:ts.length=n) (hc2:n≤c2) (hr:RKy w A ks) (hr2:RNa w B ts) (h:InnOk ks ts) :
  Calls Tryz.prog 154 #[.slice A n c,.slice B n c2] w fun r w'=>r = .returned (.bool true)∧Below w.heap.size w w':=by
 have hn1:1≤n∧n≤16:=by have:=h.n1;have:=h.n16;omega
 have hnk:ks.length=n:=h.n.trans hn
 obtain ⟨g,o,_,_,rfl,_,_⟩:=hr.2 (by omega)
 obtain ⟨g2,o2,_,_,rfl,_,_⟩:=hr2.2 (by omega)
 have HR:=Aside0.mk hr
 have HR2:=Aside0.mk hr2
 have HN:=Aside0.mk hn
 have HNK:=Aside0.mk hnk
 have HK:=Aside0.mk h
 have HBT:Aside0 (∀ W,Calls Tryz.prog 201 #[.int .i64 (n:Int),.int .i64 1,.int .i64 16] W fun r w'=>r = .returned (.bool true)∧W=w'):=⟨fun W=>between_calls _ 1 16 (by omega) (by omega)⟩
 clear hr hr2 hn hnk h
 go_enter Tryz.func154,Tryz.ntmps154
 go_wp2
 go_loopw [11] (fun v11 wr=>∃ (i:Nat) (ii:Int),v11 = .int .i64 ii∧Aside0 (ii=(i:Int))∧Aside0 (i≤n)∧Aside0 (Below w.heap.size w wr)) (fun v11 _=>((n:Int)-intOf v11).toNat)
 case atStart=>exact ⟨0,0,rfl,⟨rfl⟩,⟨Nat.zero_le _⟩,⟨Below.refl _ _⟩⟩
 case round=>
  obtain ⟨i,ii,rfl,HI,HIL,HB⟩:=hrel
  have hi0:0≤ii∧ii≤16:=by have:=HI.out;have:=HIL.out;omega
  have e5:wrap64 (ii+1)=ii+1:=wrap64_id (by omega) (by omega)
  by_cases hlt:i<n
  ·have d1:decide (ii<(n:Int))=true:=decide_eq_true (by have:=HI.out;omega)
   have d2:(ii<(n:Int))=True:=eq_true (by have:=HI.out;omega)
   have d3:(0≤ii)=True:=eq_true (by omega)
   have eii:ii.toNat=i:=by have:=HI.out;omega
   obtain ⟨k,hk⟩:∃ k,ks[i]?=some k:=⟨_,List.getElem?_eq_getElem (by rw [HNK.out];exact hlt)⟩
   have hld:(loadKeyI (.pointer (some ⟨g,o+i*2,none⟩))).run Tryz.prog wr = .ok (.agg (keyA k)) wr:=by
    obtain ⟨g2,o2,hA,hc⟩:=(HR.out.below HB.out).at_ hk
    injection hA with hA;injection hA with h1 h2;subst h1 h2
    exact run_loadKey hc
   have hst:=st_key k wr
   have hen:KyAt (wr.alloc (Obj.cells (keyA k) 87)) wr.heap.size k:=ky_new k rfl
   have hl:=ld_key (g:=wr.heap.size) (k:=k)
   have HE:=Aside0.mk hk
   have HB1:Aside0 (Below w.heap.size w (wr.alloc (Obj.cells (keyA k) 87))):=⟨below_alloc HB.out _⟩
   have HRK:Aside0 (∀ W,Calls Tryz.prog 202 #[.agg (keyA k)] W fun r w'=>r = .returned (.bool true)∧Below W.heap.size W w'):=⟨fun W=>rightkey_calls k (HK.out.ok k (List.mem_of_getElem? hk))⟩
   clear hk
   by_cases hz:i=0
   ·have d4:decide (0<ii)=false:=decide_eq_false (by have:=HI.out;omega)
    subst hz
    simp only [Nat.zero_mul,Nat.add_zero] at hld
    go_wp2
    obtain ⟨w1,hw1⟩:∃ W,wr.alloc (Obj.cells (keyA k) 87)=W:=⟨_,rfl⟩
    rw [hw1] at hen HB1 ⊢
    have hk1:KyAt w1.drew wr.heap.size k:=hen
    clear hw1 hst hld
    refine start_ (n:=17) (S:=fun w'=>KyAt w' wr.heap.size k) (ds:=[]) (fbB 17 0) (by kernel_rfl) rfl rfl hk1 (fun hHeld=>?_)
    refine tkR 0 16 (fbB 17 1) hHeld (h:=?_)
    refine one_ (i:=1) (N:=some 17) (fbB 17 3) rfl rfl (by kernel_rfl) (by simp) (fun K hK=>?_)
    refine goes_ Tryz.func202 (by kernel_rfl) rfl #[.agg (keyA k)] (by rfl) rfl rfl (by simp [Act.eval]) ?_
    (with_reducible refine (HRK.out _).mono ?_)
    rintro r w2 ⟨rfl,h2⟩
    have hk2:=hk1.below h2
    refine ⟨_,rfl,hK.out _ _ hk2 (fun hHeld=>?_)⟩
    refine nmR (h:=?_)
    refine puR 2 18 (fbB 17 7) (h:=?_)
    refine puR 3 19 (fbB 17 15) (h:=?_)
    refine puR 4 20 (fbB 17 31) (h:=?_)
    refine puR 5 21 (fbB 17 63) (h:=?_)
    refine puR 6 22 (fbB 17 127) (h:=?_)
    refine unR 7 23 (fbB 17 255) (h:=?_)
    refine unR 8 24 (fbB 17 511) (h:=?_)
    refine unR 9 25 (fbB 17 1023) (h:=?_)
    refine unR 10 26 (fbB 17 2047) (h:=?_)
    refine unR 11 27 (fbB 17 4095) (h:=?_)
    refine unR 12 28 (fbB 17 8191) (h:=?_)
    refine unR 13 29 (fbB 17 16383) (h:=?_)
    refine unR 14 30 (fbB 17 32767) (h:=?_)
    refine puR 15 31 (fbB 17 65535) (h:=?_)
    refine puR 16 32 (fbB 17 131071) (h:=?_)
    refine done_ (by kernel_rfl) ?_
    all_goals
     have HB2:=Aside0.mk (below_step (below_drew HB1.out) h2)
     clear h2 hk1
     go_wp2
     go_roundw
     case rel=>exact ⟨0+1,_,rfl,⟨by have:=HI.out;omega⟩,⟨by omega⟩,HB2⟩
     case measure=>simp [intOf];have:=HI.out;omega
   ·have d4:decide (0<ii)=true:=decide_eq_true (by have:=HI.out;omega)
    obtain ⟨j,rfl⟩:∃ j,i=j+1:=⟨i-1,by omega⟩
    obtain ⟨p,hp⟩:∃ p,ks[j]?=some p:=⟨_,List.getElem?_eq_getElem (by rw [HNK.out];omega)⟩
    have hso:=HK.out.so j p k hp HE.out
    obtain ⟨kk,hkk⟩:∃ kk:Int,ii-1=kk:=⟨_,rfl⟩
    have e6:IntKind.i64.wrap (ii-1)=kk:=by rw [hkk];simp [IntKind.wrap,IntKind.bits,IntKind.signed];omega
    have e7:wrap64 (ii-1)=kk:=by rw [hkk];exact wrap64_id (by omega) (by omega)
    have hkj:kk=(j:Int):=by have:=HI.out;omega
    have d5:(kk<(n:Int))=True:=eq_true (by omega)
    have d6:(0≤kk)=True:=eq_true (by omega)
    have ekk:kk.toNat=j:=by omega
    have HL:Aside0 (∀ W,Calls Tryz.prog 134 #[.agg (keyA p),.agg (keyA k)] W fun r w'=>r = .returned (.bool true)∧Below W.heap.size W w'):=⟨fun W=>by rw [← hso];exact less_calls p k⟩
    have HP:=Aside0.mk hp
    have HKK:=Aside0.mk hkk
    have HKJ:=Aside0.mk hkj
    clear hso hp hkj hz hkk
    go_wp2
    obtain ⟨w1,hw1⟩:∃ W,wr.alloc (Obj.cells (keyA k) 87)=W:=⟨_,rfl⟩
    rw [hw1] at hen HB1 ⊢
    have hk1:KyAt w1.drew wr.heap.size k:=hen
    have HRA:Aside0 (∀ W,Below w.heap.size w W→W.rangeAt g (o+j*2) (keyC p)):=⟨fun W hW=>by
     obtain ⟨g2,o2,hA,hc⟩:=(HR.out.below hW).at_ HP.out
     injection hA with hA;injection hA with h1 h2;subst h1 h2
     exact hc⟩
    have hb1:Below w.heap.size w w1.drew:=below_drew HB1.out
    have hr1:=HRA.out _ hb1
    have hlp:∀ W:World,W.rangeAt g (o+j*2) (keyC p)→(loadKeyI (.pointer (some ⟨g,o+j*2,none⟩))).run Tryz.prog W = .ok (.agg (keyA p)) W:=fun W h=>run_loadKey h
    clear hw1 hst hld
    go_region_held3 (fun w'=>KyAt w' wr.heap.size k∧w'.rangeAt g (o+j*2) (keyC p)) (first | exact ⟨hk1,hr1⟩ | exact ⟨hk2,hr2⟩ | exact ⟨hk3,hr3⟩)
     (first
      | (go_at_call 202;(with_reducible refine (HRK.out _).mono ?_);rintro r w2 ⟨rfl,h2⟩;have hk2:=hk1.below h2;have hb2:=below_step hb1 h2;have hr2:=HRA.out _ hb2)
      | (go_at_call 134;(with_reducible refine (HL.out _).mono ?_);rintro r w3 ⟨rfl,h3⟩;have hk3:=hk2.below h3;have hb3:=below_step hb2 h3;have hr3:=HRA.out _ hb3))
    all_goals
     have HB3:=Aside0.mk hb3
     clear h2 hk1 hb1 hb2 hb3 hr1 hr2 h3 hk2
     go_wp2
     go_roundw
     case rel=>exact ⟨j+1+1,_,rfl,⟨by have:=HI.out;omega⟩,⟨by omega⟩,HB3⟩
     case measure=>simp [intOf];have:=HI.out;omega
  ·obtain rfl:n=i:=by have:=HIL.out;omega
   have d1:decide (ii<(n:Int))=false:=decide_eq_false (by have:=HI.out;omega)
   go_wp2
   go_loopw [36] (fun v36 wr=>∃ (i:Nat) (ii:Int),v36 = .int .i64 ii∧Aside0 (ii=(i:Int))∧Aside0 (i≤n)∧Aside0 (Below w.heap.size w wr)) (fun v36 _=>((n:Int)-intOf v36).toNat)
   case atStart=>exact ⟨0,0,rfl,⟨rfl⟩,⟨Nat.zero_le _⟩,HB⟩
   case round=>
    clear HB HI HIL d1 hlt hi0 e5
    obtain ⟨i,ii,rfl,HI,HIL,HB⟩:=hrel
    have hi0:0≤ii∧ii≤16:=by have:=HI.out;have:=HIL.out;omega
    have e5:wrap64 (ii+1)=ii+1:=wrap64_id (by omega) (by omega)
    by_cases hlt:i<n
    ·have d1:decide (ii<(n:Int))=true:=decide_eq_true (by have:=HI.out;omega)
     have d2:(ii<(n:Int))=True:=eq_true (by have:=HI.out;omega)
     have d3:(0≤ii)=True:=eq_true (by omega)
     have eii:ii.toNat=i:=by have:=HI.out;omega
     have d4:(ii≤(c2:Int))=True:=eq_true (by have:=HI.out;omega)
     obtain ⟨k,hk⟩:∃ k,ts[i]?=some k:=⟨_,List.getElem?_eq_getElem (by rw [HN.out];exact hlt)⟩
     have c1:wr.cell? ⟨g2,o2+i,none⟩=some (.int .i64 (k:Int)):=by
      obtain ⟨g3,o3,hA,hc⟩:=(HR2.out.below HB.out).at_ hk
      injection hA with hA;injection hA with h1 h2;subst h1 h2
      have:=hc 0 _ rfl
      simpa using this
     have HB1:Aside0 (∀ W,Calls Tryz.prog 201 #[.int .i64 (k:Int),.int .i64 2,.int .i64 511] W fun r w'=>r = .returned (.bool true)∧W=w'):=⟨fun W=>between_calls _ 2 511 (by have:=HK.out.pg k (List.mem_of_getElem? hk);omega) (by have:=HK.out.pg k (List.mem_of_getElem? hk);omega)⟩
     have HCN:Aside0 (Calls Tryz.prog 75 #[.slice (some ⟨g2,o2,none⟩) i c2,.int .i64 (k:Int)] wr fun e w'=>e = .returned (.bool false)∧Below wr.heap.size wr w'):=⟨contains_calls (ns:=ts.take i) i c2 (by rw [List.length_take,HN.out];omega) (by omega) ((HR2.out.below HB.out).take i) (by omega) k (fun hm=>by
      rw [List.mem_take_iff_getElem] at hm
      obtain ⟨q,hq,he⟩:=hm
      obtain ⟨hlt2,he2⟩:=List.getElem?_eq_some_iff.1 hk
      exact (List.pairwise_iff_getElem.1 HK.out.nd) q i (by omega) hlt2 (by omega) (he.trans he2.symm))⟩
     clear hk
     go_wp2_with (first
      | (go_at_call 201;(with_reducible refine (HB1.out _).mono ?_);rintro r w2 ⟨rfl,rfl⟩)
      | (go_at_call 75;(with_reducible refine HCN.out.mono ?_);rintro r w3 ⟨rfl,h3⟩;have HB3:=Aside0.mk (below_step HB.out h3);clear h3))
     go_roundw
     case rel=>exact ⟨i+1,_,rfl,⟨by have:=HI.out;omega⟩,⟨by omega⟩,HB3⟩
     case measure=>simp [intOf];have:=HI.out;omega
    ·obtain rfl:n=i:=by have:=HIL.out;omega
     have d1:decide (ii<(n:Int))=false:=decide_eq_false (by have:=HI.out;omega)
     go_wp2_with (go_at_call 201;(with_reducible refine (HBT.out _).mono ?_);rintro r w2 ⟨rfl,rfl⟩)
     go_ret
     exact ⟨rfl,HB.out⟩
end
section
attribute [local go_sem ↓] Go.wp_at_zero Go.wp_at_succ loadKey_eq loadEn_eq storeKey_eq storeEn_eq
theorem FrT.grown [Inhabited Sanct] {T:List Nat} {w W W2:World} {row:Option Nat} (h:FrT T w W) (hg:W.grownBy W2 row) (hr:∀ k,row=some k → ∃ cs t fr,W.heap[k]?=some (Obj.cells cs t fr)∧t∈T∧(t∈sS→sB≤k)):FrT T w W2:=
 h.trans (FrT.of_fr ((Fr.refl W (fun k=>row=some k)).grown hg (fun k e=>Or.inl e)) (fun k hk=>hr k hk))
theorem FrT.app [Inhabited Sanct] {T:List Nat} {α:Type} {d:Kd α} {e base:Nat} {ok:Nat→Prop} {v:Value} {xs:List α} {w W W2:World} (h:FrT T w W) (hr:d.R e W base ok v xs) (he:e∈T) (hg:W.grownBy W2 v.ownBlock) (hs:e∈sS→sB≤base:=by first | (intro h;exact absurd h (by decide)) | (intro _;assumption)):FrT T w W2:=
 h.grown hg (fun k hk=>by
  obtain ⟨cells,hc⟩:=Kd.R_typed hr k hk
  exact ⟨cells,e,(0,0),hc,he,fun h=>Nat.le_trans (hs h) (Kd.R_base hr k hk)⟩)
theorem nbig_calls [Inhabited Sanct] {w0 w:World} {v:Value} {l:List Int} (x:Int) (i:Nat) (j:Int) (hj:j=(i:Int)) (hi:i≤8) (hx:0≤x) (hl:l.length<1000000) (hB:Below w0.heap.size w0 w) (ho:Kd.R (Kd.int .u8) 5 w w0.heap.size (fun _=>True) v l) (hsB:sB≤w0.heap.size:=by assumption) :
  Calls Tryz.prog 225 #[v,.int .u64 x,.int .i64 j] w fun e w'=>∃ v',e = .returned v'∧Kd.R (Kd.int .u8) 5 w' w0.heap.size (fun _=>True) v' (l++low x i)∧Below w0.heap.size w0 w'∧FrT [5] w w':=by
 subst hj
 obtain ⟨E,hE⟩:∃ E,l++low x i=E:=⟨_,rfl⟩
 have HE:=Aside0.mk hE
 rw [hE]
 clear hE
 have HO:=Aside0.mk ho
 have HB:=Aside0.mk hB
 have e1:wrap64 ((i:Int)-1)=(i:Int)-1:=wrap64_id (by omega) (by omega)
 clear ho hB
 go_enter Tryz.func225,Tryz.ntmps225
 go_wp2
 clear e1
 go_loopw [0,7] (fun v0 v7 wr=>∃ (r:Nat) (ii:Int) (L:List Int),v7 = .int .i64 ii∧Aside0 (ii=(r:Int)-1)∧Aside0 (r≤8∧L++low x r=E∧L.length<1000008)∧Aside0 (Kd.R (Kd.int .u8) 5 wr w0.heap.size (fun _=>True) v0 L)∧Aside0 (Below w0.heap.size w0 wr)∧Aside0 (FrT [5] w wr)) (fun _ v7 _=>(intOf v7+1).toNat)
 case atStart=>exact ⟨i,_,l,rfl,⟨rfl⟩,⟨hi,HE.out,by omega⟩,HO,HB,⟨FrT.refl _ _⟩⟩
 case round=>
  clear HO HB
  obtain ⟨r,ii,L,rfl,HI,HL,HO,HB,HF⟩:=hrel
  obtain ⟨A0,c0,rfl⟩:=Kd.R_slice HO.out
  cases r with
  | zero=>
   have d1:decide (0≤ii)=false:=decide_eq_false (by have:=HI.out;omega)
   go_wp2
   go_ret
   refine ⟨_,rfl,?_,HB.out,HF.out⟩
   have:=HL.out.2.1
   rw [low,List.append_nil] at this
   rw [← this]
   exact HO.out
  | succ q=>
   have hq8:q<8:=by have:=HL.out.1;omega
   have hiq:ii=(q:Int):=by have:=HI.out;omega
   have HIQ:=Aside0.mk hiq
   have hi0:0≤ii∧ii<8:=by omega
   have d1:decide (0≤ii)=true:=decide_eq_true hi0.1
   have d6:decide (8*ii<0)=false:=decide_eq_false (by omega)
   have e5:wrap64 (ii-1)=ii-1:=wrap64_id (by omega) (by omega)
   obtain ⟨j,hj⟩:∃ j:Int,8*ii=j:=⟨_,rfl⟩
   have hji:j=((8*q:Nat):Int):=by omega
   have e6:wrap64 (8*ii)=j:=by rw [hj];exact wrap64_id (by omega) (by omega)
   have e7:IntKind.i64.wrap (8*ii)=j:=(i64_w _).trans e6
   obtain ⟨y,hy⟩:∃ y:Int,x / 2 ^ (8*q)=y:=⟨_,rfl⟩
   have e8:x / 2 ^ min j.toNat 64=y:=by rw [hji,Int.toNat_natCast,Nat.min_eq_left (by omega)];exact hy
   have e9:x / 2 ^ j.toNat=y:=by rw [hji,Int.toNat_natCast];exact hy
   have e10:(0≤j)=True:=eq_true (by omega)
   have e11:decide (0≤j)=true:=decide_eq_true (by omega)
   have HY:=Aside0.mk hy
   clear hiq hji hy hj
   go_wp2_with ((with_reducible refine gate_builtin (b:=.append) (xs:=#[.tmp 14,.tmp 20]) rfl ?_);at_builtin;refine hold ?_)
   unfold Hold
   refine Kd.R_append (Kd.int .u8) (w0:=w0) w0.heap.size rfl (.tmp 14) (.tmp 20) 46 5 (.int .u8 0) 1 rfl Tryz.underlying46 info_u8 rfl (by decide) (by decide) _ L (y % 256) [.int .u8 (y % 256)] (fun _=>True) (fun _=>False) rfl rfl rfl (fun _ hk=>hk.elim) (fun _ _=>trivial) HO.out HB.out HB.out.size (by have:=HL.out.2.2;omega) ?_
   intro v9 w9 ho hb hg hat
   have HO9:=Aside0.mk ho
   have HB9:=Aside0.mk hb
   have HF9:=Aside0.mk (HF.out.app HO.out (by decide) hg)
   clear ho hb hg hat
   go_wp2
   go_roundw
   case rel=>exact ⟨q,_,L++[y % 256],rfl,⟨by have:=HIQ.out;omega⟩,⟨by omega,by rw [← HL.out.2.1,List.append_assoc,low,HY.out];rfl,by rw [List.length_append];have h:=congrArg List.length HL.out.2.1;have h2:=congrArg List.length HE.out;simp only [List.length_append,low_len] at h h2;simp;omega⟩,HO9,HB9,HF9⟩
   case measure=>simp [intOf];have:=HI.out;omega
def keyB (k:Ky):List Int:=low k.s 4++low k.a 8
theorem putkey_calls [Inhabited Sanct] {w0 w:World} {v:Value} {l:List Int} (k:Ky) (hk:KyOk k) (hl:l.length<900000) (hB:Below w0.heap.size w0 w) (ho:Kd.R (Kd.int .u8) 5 w w0.heap.size (fun _=>True) v l) (hsB:sB≤w0.heap.size:=by assumption) :
  Calls Tryz.prog 226 #[v,.agg (keyA k)] w fun e w'=>∃ v',e = .returned v'∧Kd.R (Kd.int .u8) 5 w' w0.heap.size (fun _=>True) v' (l++keyB k)∧Below w0.heap.size w0 w'∧FrT [5] w w':=by
 obtain ⟨W0,hW0⟩:∃ W,w.alloc (Obj.cells (keyA k) 87)=W:=⟨_,rfl⟩
 have ha:KyAt W0 w.heap.size k:=by rw [← hW0];exact ky_new k rfl
 have HB0:Aside0 (Below w0.heap.size w0 W0):=⟨by rw [← hW0];exact below_alloc hB _⟩
 have HO0:Aside0 (Kd.R (Kd.int .u8) 5 W0 w0.heap.size (fun _=>True) v l):=⟨by rw [← hW0];exact Kd.R_alloc ho _⟩
 have HF0:Aside0 (FrT [5] w W0):=⟨by rw [← hW0];exact (FrT.refl _ _).alloc _⟩
 have hc:=ky_cell (g:=w.heap.size) (k:=k)
 have e1:IntKind.u64.wrap k.s=k.s:=by have:=hk.1;have:=hk.2.1;simp [IntKind.wrap,IntKind.bits,IntKind.signed];omega
 have e2:IntKind.u64.wrap k.a=k.a:=by have:=hk.2.2.1;have:=hk.2.2.2;simp [IntKind.wrap,IntKind.bits,IntKind.signed];omega
 obtain ⟨ks,hks⟩:∃ s,k.s=s:=⟨_,rfl⟩
 obtain ⟨ka,hka⟩:∃ a,k.a=a:=⟨_,rfl⟩
 have HK:=Aside0.mk (And.intro hks (And.intro hka hk))
 have hks0:0≤ks:=by rw [← hks];exact hk.1
 have hka0:0≤ka:=by rw [← hka];exact hk.2.2.1
 clear ho hB hk
 rw [hks] at e1 hc
 rw [hka] at e2 hc
 clear hks hka
 go_enter Tryz.func226,Tryz.ntmps226
 go_wp2
 clear hW0
 have ha1:KyAt W0.drew w.heap.size k:=ha
 have ho1:Kd.R (Kd.int .u8) 5 W0.drew w0.heap.size (fun _=>True) v l:=Kd.R_drew HO0.out
 have hb1:Below w0.heap.size w0 W0.drew:=below_drew HB0.out
 have hf1:FrT [5] w W0.drew:=HF0.out.drew
 go_region_held3 (fun w'=>KyAt w' w.heap.size k) (first | exact ha1 | exact ha2 | exact ha3)
  (first
   | (go_at_call 225;(with_reducible refine (nbig_calls (w0:=w0) ks 4 4 rfl (by decide) hks0 (by omega) hb1 ho1).mono ?_);rintro r w2 ⟨v2,rfl,ho2,hb2,h2⟩;have ha2:KyAt w2 w.heap.size k:=h2.blk ha1 (by decide);have hf2:=hf1.trans h2)
   | (go_at_call 225;(with_reducible refine (nbig_calls (w0:=w0) ka 8 8 rfl (by decide) hka0 (by rw [List.length_append,low_len];omega) hb2 ho2).mono ?_);rintro r w3 ⟨v3,rfl,ho3,hb3,h3⟩;have ha3:KyAt w3 w.heap.size k:=h3.blk ha2 (by decide);have hf3:=hf2.trans h3))
 all_goals
  have H3:=Aside0.mk (And.intro ho3 (And.intro hb3 hf3))
  clear ho1 ho2 ho3 hb1 hb2 hb3 hf1 hf2 hf3 h2 h3 ha1 ha2
  go_wp2
  go_ret
  refine ⟨v3,rfl,?_,H3.out.2.1,H3.out.2.2⟩
  unfold keyB
  rw [HK.out.1,HK.out.2.1,← List.append_assoc]
  exact H3.out.1
end
section
attribute [local go_sem ↓] Go.wp_at_zero Go.wp_at_succ loadKey_eq loadEn_eq storeKey_eq storeEn_eq
structure NdV (w:World) (v:Array Value) (nd:Nd):Prop where
 e:∃ A1 c1 A2 c2 A3 c3,v=#[.bool nd.lf,.slice A1 nd.es.length c1,.slice A2 nd.ks.length c2,.slice A3 nd.ts.length c3]∧nd.es.length≤c1∧nd.ks.length≤c2∧nd.ts.length≤c3∧REn w A1 nd.es∧RKy w A2 nd.ks∧RNa w A3 nd.ts
theorem NdV.below [Inhabited Sanct] {w W:World} {v:Array Value} {nd:Nd} (h:NdV w v nd) (hb:Below w.heap.size w W):NdV W v nd:=by
 obtain ⟨A1,c1,A2,c2,A3,c3,h0,h1,h2,h3,r1,r2,r3⟩:=h.e
 exact ⟨A1,c1,A2,c2,A3,c3,h0,h1,h2,h3,r1.below hb,r2.below hb,r3.below hb⟩
theorem NdV.frT [Inhabited Sanct] {Ts:List Nat} {w W:World} {v:Array Value} {nd:Nd} (h:NdV w v nd) (hf:FrT Ts w W) (h1:89 ∉ Ts) (h2:87 ∉ Ts) (h3:3 ∉ Ts):NdV W v nd:=by
 obtain ⟨A1,c1,A2,c2,A3,c3,h0,k1,k2,k3,r1,r2,r3⟩:=h.e
 exact ⟨A1,c1,A2,c2,A3,c3,h0,k1,k2,k3,r1.frT hf h1,r2.frT hf h2,r3.frT hf h3⟩
def NdOk (nd:Nd):Prop:=(nd.lf=true∧nd.ks=[]∧nd.ts=[]∧LeafOk nd.es)∨(nd.lf=false∧nd.es=[]∧InnOk nd.ks nd.ts)
def ndSize (nd:Nd):Nat:=if nd.lf then nd.es.length else nd.ts.length
theorem right_calls [Inhabited Sanct] {w:World} {v:Array Value} {nd:Nd} (hv:NdV w v nd) (h:NdOk nd) :
  Calls Tryz.prog 111 #[.agg v] w fun r w'=>r = .returned (.bool true)∧Below w.heap.size w w':=by
 obtain ⟨A1,c1,A2,c2,A3,c3,rfl,h1,h2,h3,r1,r2,r3⟩:=hv.e
 obtain ⟨lf,es,ks,ts⟩:=nd
 rcases h with ⟨hlf,hks,hts,hL⟩ | ⟨hlf,hes,hI⟩
 ·simp only at hlf hks hts
  subst hlf hks hts
  obtain ⟨n1,hn1⟩:∃ n,es.length=n:=⟨_,rfl⟩
  have HLF:Aside0 (∀ W,Below w.heap.size w W→Calls Tryz.prog 153 #[.slice A1 n1 c1] W fun r w'=>r = .returned (.bool true)∧Below W.heap.size W w'):=⟨fun W hW=>leaf_calls n1 c1 hn1 (r1.below hW) hL⟩
  have HB:∀ o:Obj,Below w.heap.size w (w.alloc o):=fun o=>below_alloc (Below.refl _ _) o
  have HBA:=Aside0.mk HB
  simp only [List.length_nil]
  rw [hn1]
  clear hn1 h1 h2 h3 r1 r2 r3 hL HB hv
  go_enter Tryz.func111,Tryz.ntmps111
  go_wp2_with (go_at_call 153;(with_reducible refine (HLF.out _ (HBA.out _)).mono ?_);rintro r w2 ⟨rfl,h2⟩;have HB2:=Aside0.mk (below_step (HBA.out _) h2);clear h2)
  go_ret
  exact ⟨rfl,HB2.out⟩
 ·simp only at hlf hes
  subst hlf hes
  obtain ⟨n1,hn1⟩:∃ n,ts.length=n:=⟨_,rfl⟩
  have hk:ks.length=n1:=hI.n.trans hn1
  have HLF:Aside0 (∀ W,Below w.heap.size w W→Calls Tryz.prog 154 #[.slice A2 n1 c2,.slice A3 n1 c3] W fun r w'=>r = .returned (.bool true)∧Below W.heap.size W w'):=⟨fun W hW=>inner_calls n1 c2 c3 hn1 (by rw [← hn1];exact h3) (r2.below hW) (r3.below hW) hI⟩
  have HBA:Aside0 (∀ o:Obj,Below w.heap.size w (w.alloc o)):=⟨fun o=>below_alloc (Below.refl _ _) o⟩
  simp only [List.length_nil]
  rw [hn1,hk]
  clear hn1 hk h1 h2 h3 r1 r2 r3 hI hv
  go_enter Tryz.func111,Tryz.ntmps111
  go_wp2_with (go_at_call 154;(with_reducible refine (HLF.out _ (HBA.out _)).mono ?_);rintro r w2 ⟨rfl,h2⟩;have HB2:=Aside0.mk (below_step (HBA.out _) h2);clear h2)
  go_ret
  exact ⟨rfl,HB2.out⟩
theorem size_calls [Inhabited Sanct] {w:World} {v:Array Value} {nd:Nd} (hv:NdV w v nd) :
  Calls Tryz.prog 224 #[.agg v] w fun r w'=>r = .returned (.int .i64 (ndSize nd:Int))∧Below w.heap.size w w':=by
 obtain ⟨A1,c1,A2,c2,A3,c3,rfl,h1,h2,h3,r1,r2,r3⟩:=hv.e
 have HBA:Aside0 (∀ o:Obj,Below w.heap.size w (w.alloc o)):=⟨fun o=>below_alloc (Below.refl _ _) o⟩
 obtain ⟨lf,es,ks,ts⟩:=nd
 have HZ:Aside0 (ndSize ⟨lf,es,ks,ts⟩=if lf then es.length else ts.length):=⟨rfl⟩
 clear hv r1 r2 r3
 cases lf with
 | true=>
  go_enter Tryz.func224,Tryz.ntmps224
  go_wp2
  go_ret
  exact ⟨by rw [HZ.out];rfl,HBA.out _⟩
 | false=>
  go_enter Tryz.func224,Tryz.ntmps224
  go_wp2
  go_ret
  exact ⟨by rw [HZ.out];rfl,HBA.out _⟩
def ndLeast (nd:Nd):Ky:=if nd.lf then (match nd.es with | []=>⟨0,0⟩ | e :: _=>e.k) else (match nd.ks with | []=>⟨0,0⟩ | k :: _=>k)
end
section
attribute [local go_sem ↓] Go.wp_at_zero Go.wp_at_succ loadKey_eq loadEn_eq storeKey_eq storeEn_eq
theorem least_calls [Inhabited Sanct] {w:World} {v:Array Value} {nd:Nd} (hv:NdV w v nd) (h:NdOk nd) :
  Calls Tryz.prog 87 #[.agg v] w fun r w'=>r = .returned (.agg (keyA (ndLeast nd)))∧Below w.heap.size w w':=by
 obtain ⟨A1,c1,A2,c2,A3,c3,rfl,h1,h2,h3,r1,r2,r3⟩:=hv.e
 obtain ⟨lf,es,ks,ts⟩:=nd
 rcases h with ⟨hlf,hks,hts,hL⟩ | ⟨hlf,hes,hI⟩
 ·simp only at hlf hks hts
  subst hlf hks hts
  obtain ⟨n1,hn1⟩:∃ n,es.length=n:=⟨_,rfl⟩
  have hp:1≤n1:=by rw [← hn1];exact hL.n1
  obtain ⟨e,es',rfl⟩:∃ e es',es=e :: es':=by
   cases es with
   | nil=>simp at hn1;omega
   | cons e es'=>exact ⟨e,es',rfl⟩
  obtain ⟨g,o,hA,hc⟩:=r1.at_ (j:=0) (x:=e) rfl
  subst hA
  have HB:∀ o:Obj,Below w.heap.size w (w.alloc o):=fun o=>below_alloc (Below.refl _ _) o
  have HZ:Aside0 (ndLeast ⟨true,e :: es',[],[]⟩=e.k):=⟨rfl⟩
  have d1:decide (0<(n1:Int))=true:=decide_eq_true (by omega)
  have d2:(0<(n1:Int))=True:=eq_true (by omega)
  have HR:Aside0 (∀ W,Below w.heap.size w W→W.rangeAt g o (enC e)):=⟨fun W hW=>by
   obtain ⟨g2,o2,hA,hc⟩:=(r1.below hW).at_ (j:=0) (x:=e) rfl
   injection hA with hA;injection hA with h1 h2;subst h1 h2
   simpa using hc⟩
  have hZ:∀ (W:World),(storeKeyI (.pointer (some ⟨W.heap.size,0,none⟩)) (.agg (keyA e.k))).run Tryz.prog (W.alloc (Obj.cells #[.int .i64 0,.int .i64 0] 87)) = .ok () (W.alloc (Obj.cells (keyA e.k) 87)):=st_key e.k
  obtain ⟨NV,hNV⟩:∃ V,(#[.bool true,.slice (some ⟨g,o,none⟩) n1 c1,.slice A2 0 c2,.slice A3 0 c3]:Array Value)=V:=⟨_,rfl⟩
  have hst:=hZ (w.alloc (Obj.cells NV 175))
  have hld:(loadKeyI (.pointer (some ⟨g,o,none⟩))).run Tryz.prog ((w.alloc (Obj.cells NV 175)).alloc (Obj.cells #[.int .i64 0,.int .i64 0] 87)) = .ok (.agg (keyA e.k)) ((w.alloc (Obj.cells NV 175)).alloc (Obj.cells #[.int .i64 0,.int .i64 0] 87)):=by
   refine run_loadKey (fun j u hj=>?_)
   refine HR.out _ (below_alloc (HB _) _) j u ?_
   rcases j with _ | _ | j
   ·simpa [enC,keyC] using hj
   ·simpa [enC,keyC] using hj
   ·simp [keyC] at hj
  rw [← hNV] at hst hld
  have d3:(0<n1)=True:=eq_true (by omega)
  rw [World.size_alloc] at hst
  have HBA:=Aside0.mk HB
  simp only [List.length_nil]
  rw [hn1]
  clear hn1 h1 h2 h3 r1 r2 r3 hL hv hp hc hNV HB hZ
  go_enter Tryz.func87,Tryz.ntmps87
  go_wp2
  refine bodyPost_ret (results_cell_row rfl _ _ (w.heap.size+1) 87 (keyA e.k) (0,0) _ rfl (newb (by simp)) Tryz.underlying87 rfl key_size) rfl ?_
  exact ⟨by rw [HZ.out],below_alloc (HBA.out _) _⟩
 ·simp only at hlf hes
  subst hlf hes
  obtain ⟨n1,hn1⟩:∃ n,ks.length=n:=⟨_,rfl⟩
  have hp:1≤n1:=by rw [← hn1,hI.n];exact hI.n1
  obtain ⟨n3,hn3⟩:∃ n,ts.length=n:=⟨_,rfl⟩
  obtain ⟨e,es',rfl⟩:∃ e es',ks=e :: es':=by
   cases ks with
   | nil=>simp at hn1;omega
   | cons e es'=>exact ⟨e,es',rfl⟩
  obtain ⟨g,o,hA,hc⟩:=r2.at_ (j:=0) (x:=e) rfl
  subst hA
  have HB:∀ o:Obj,Below w.heap.size w (w.alloc o):=fun o=>below_alloc (Below.refl _ _) o
  have HZ:Aside0 (ndLeast ⟨false,[],e :: es',ts⟩=e):=⟨rfl⟩
  have d1:decide (0<(n1:Int))=true:=decide_eq_true (by omega)
  have d2:(0<(n1:Int))=True:=eq_true (by omega)
  have HR:Aside0 (∀ W,Below w.heap.size w W→W.rangeAt g o (keyC e)):=⟨fun W hW=>by
   obtain ⟨g2,o2,hA,hc⟩:=(r2.below hW).at_ (j:=0) (x:=e) rfl
   injection hA with hA;injection hA with h1 h2;subst h1 h2
   simpa using hc⟩
  have hZ:∀ (W:World),(storeKeyI (.pointer (some ⟨W.heap.size,0,none⟩)) (.agg (keyA e))).run Tryz.prog (W.alloc (Obj.cells #[.int .i64 0,.int .i64 0] 87)) = .ok () (W.alloc (Obj.cells (keyA e) 87)):=st_key e
  obtain ⟨NV,hNV⟩:∃ V,(#[.bool false,.slice A1 0 c1,.slice (some ⟨g,o,none⟩) n1 c2,.slice A3 n3 c3]:Array Value)=V:=⟨_,rfl⟩
  have hst:=hZ (w.alloc (Obj.cells NV 175))
  have hld:(loadKeyI (.pointer (some ⟨g,o,none⟩))).run Tryz.prog ((w.alloc (Obj.cells NV 175)).alloc (Obj.cells #[.int .i64 0,.int .i64 0] 87)) = .ok (.agg (keyA e)) ((w.alloc (Obj.cells NV 175)).alloc (Obj.cells #[.int .i64 0,.int .i64 0] 87)):=by
   refine run_loadKey (fun j u hj=>?_)
   exact HR.out _ (below_alloc (HB _) _) j u hj
  rw [← hNV] at hst hld
  have d3:(0<n1)=True:=eq_true (by omega)
  rw [World.size_alloc] at hst
  have HBA:=Aside0.mk HB
  simp only [List.length_nil]
  rw [hn1,hn3]
  clear hn1 hn3 h1 h2 h3 r1 r2 r3 hI hv hp hc hNV HB hZ
  go_enter Tryz.func87,Tryz.ntmps87
  go_wp2
  refine bodyPost_ret (results_cell_row rfl _ _ (w.heap.size+1) 87 (keyA e) (0,0) _ rfl (newb (by simp)) Tryz.underlying87 rfl key_size) rfl ?_
  exact ⟨by rw [HZ.out],below_alloc (HBA.out _) _⟩
end
section
def loadNdI (p:Value):Sem Value:=Instr.loadAt 175 p
theorem loadNd_eq (p:Value):Instr.loadAt 175 p=loadNdI p:=rfl
def storeNdI (p v:Value):Sem Unit:=Instr.storeAt 175 p v
theorem storeNd_eq (p v:Value):Instr.storeAt 175 p v=storeNdI p v:=rfl
theorem nd_size [Inhabited Sanct]:(Tryz.prog.info? 175).map (·.size)=some 4:=by kernel_rfl
def NbAt (W:World) (g:Nat) (v:Array Value):Prop:=W.heap[g]?=some (Obj.cells v 175)
theorem ld_nd [Inhabited Sanct] {g:Nat} {v:Array Value} (hs:v.size=4):∀ W:World,NbAt W g v→(loadNdI (.pointer (some ⟨g,0,none⟩))).run Tryz.prog W = .ok (.agg v) W:=
 fun W h=>run_loadAt_mid (P:=Tryz.prog) W g 0 175 v.toList _ (fun j u hu=>by rw [Nat.zero_add,blk_cell h j];simpa using hu) Tryz.underlying175 rfl (by rw [Array.length_toList,hs];exact nd_size)
theorem nb_cell {g:Nat} {x0 x1 x2 x3:Value}:∀ W:World,NbAt W g #[x0,x1,x2,x3]→W.cell? ⟨g,0,none⟩=some x0∧W.cell? ⟨g,1,none⟩=some x1∧W.cell? ⟨g,2,none⟩=some x2∧W.cell? ⟨g,3,none⟩=some x3:=
 fun W h=>⟨by rw [blk_cell h 0];rfl,by rw [blk_cell h 1];rfl,by rw [blk_cell h 2];rfl,by rw [blk_cell h 3];rfl⟩
theorem NbAt.below [Inhabited Sanct] {w W:World} {g:Nat} {v:Array Value} (h:NbAt w g v) (hb:Below w.heap.size w W):NbAt W g v:=blkb hb h
theorem NbAt.frT [Inhabited Sanct] {Ts:List Nat} {w W:World} {g:Nat} {v:Array Value} (h:NbAt w g v) (hf:FrT Ts w W) (h1:175 ∉ Ts):NbAt W g v:=hf.blk h h1
theorem nb_new [Inhabited Sanct] {w:World} {g:Nat} (v:Array Value) (h:w.heap.size=g):NbAt (w.alloc (Obj.cells v 175)) g v:=newb h
attribute [local go_sem ↓] Go.wp_at_zero Go.wp_at_succ loadKey_eq loadEn_eq storeKey_eq storeEn_eq loadNd_eq storeNd_eq
theorem NbAt.alloc [Inhabited Sanct] {w:World} {g:Nat} {v:Array Value} (h:NbAt w g v) (o:Obj):NbAt (w.alloc o) g v:=blk_alloc h o
theorem R_fresh [Inhabited Sanct] {α:Type} (d:Kd α) {W:World} {base e:Nat} {xs:List α} {inner:List Value} (hb:base≤W.heap.size) (hrep:∀ W' ok,Reps (d.M W' base ok) d.sz xs inner) (hm:xs.length≤9223372036854775807) :
  d.R e (W.alloc (.cells inner.toArray e)) base (fun _=>True) (.slice (some ⟨W.heap.size,0,none⟩) xs.length xs.length) xs:=
 ⟨fun _ _=>trivial,inner,by
  have h2:=World.ownsRow_lit (base:=base) (e:=e) (size:=d.sz) W inner.toArray xs.length hb (by simpa [maxLen] using hm) (by simpa using (hrep W (fun _=>True)).1)
  simpa using h2,hrep _ _⟩
theorem reps_one {α:Type} {R:α→List Value→Prop} {sz:Nat} {p:α} {cs:List Value} (hp:R p cs) (hc:cs.length=sz):Reps R sz [p] cs:=by
 simpa using (Reps.none R sz).snoc hp hc
def enB (e:En):List Int:=keyB e.k++low e.z 8++low e.p 2++low e.l 2++[(e.n:Int),(e.c:Int)]++low e.x 4
def kdB (p:Ky×Nat):List Int:=keyB p.1++low p.2 2
def ndB (nd:Nd):List Int:=(ndSize nd:Int) :: (nd.es.flatMap enB++(nd.ks.zip nd.ts).flatMap kdB)
theorem keyB_len (k:Ky):(keyB k).length=12:=by simp [keyB,low_len]
theorem enB_len (e:En):(enB e).length=30:=by simp [enB,low_len,keyB_len]
theorem kdB_len (p:Ky×Nat):(kdB p).length=14:=by simp [kdB,low_len,keyB_len]
theorem flat_len {α:Type} {f:α→List Int} {n:Nat} (h:∀ x,(f x).length=n) (l:List α):(l.flatMap f).length=l.length*n:=by
 induction l with
 | nil=>simp
 | cons x l ih=>rw [List.flatMap_cons,List.length_append,h,ih,List.length_cons,Nat.succ_mul];omega
theorem flat_snoc {α:Type} {f:α→List Int} {l:List α} {i:Nat} {x:α} (h:l[i]?=some x):(l.take (i+1)).flatMap f=(l.take i).flatMap f++f x:=by
 rw [List.take_add_one,h]
 simp
theorem lit2_reads [Inhabited Sanct] (W:World) (a b:Int):ReadsRow (fun x (cs:List Value)=>cs=[.int .u8 x]) 1 (W.alloc (Obj.cells #[.int .u8 a,.int .u8 b] 5)) (some ⟨W.heap.size,0,none⟩) 2 [a,b]:=by
 refine ⟨rfl,by decide,fun _=>⟨_,rfl,fun j p hj=>⟨[.int .u8 p],rfl,rfl,fun i u hi=>?_⟩⟩⟩
 have hb:(W.alloc (Obj.cells #[.int .u8 a,.int .u8 b] 5)).heap[W.heap.size]?=some (Obj.cells #[.int .u8 a,.int .u8 b] 5):=heap_alloc_new _ _
 rcases i with _ | i
 ·rw [show u = .int .u8 p from (Option.some.inj hi).symm,add_none,blk_cell hb]
  rcases j with _ | _ | j
  ·simp at hj;subst hj;rfl
  ·simp at hj;subst hj;rfl
  ·simp at hj
 ·simp at hi
theorem u64_w {x:Int} (h0:0≤x) (h1:x<18446744073709551616):IntKind.u64.wrap x=x:=by simp [IntKind.wrap,IntKind.bits,IntKind.signed];omega
theorem u8_w {x:Int} (h0:0≤x) (h1:x<256):IntKind.u8.wrap x=x:=by simp [IntKind.wrap,IntKind.bits,IntKind.signed];omega
theorem nput_calls [Inhabited Sanct] {w:World} {v:Array Value} {nd:Nd} (hv:NdV w v nd) (h:NdOk nd) (hsB:sB≤w.heap.size:=by assumption) :
  Calls Tryz.prog 177 #[.agg v] w fun r w'=>∃ v',r = .returned (.tuple #[v',.int .i64 0])∧Kd.R (Kd.int .u8) 5 w' w.heap.size (fun _=>True) v' (ndB nd)∧Below w.heap.size w w':=by
 have HR0:Aside0 (∀ W,Below w.heap.size w W→Calls Tryz.prog 111 #[.agg v] W fun r w'=>r = .returned (.bool true)∧Below W.heap.size W w'):=⟨fun W hW=>right_calls (hv.below hW) h⟩
 have HS0:Aside0 (∀ W,Below w.heap.size w W→Calls Tryz.prog 224 #[.agg v] W fun r w'=>r = .returned (.int .i64 (ndSize nd:Int))∧Below W.heap.size W w'):=⟨fun W hW=>size_calls (hv.below hW)⟩
 obtain ⟨A1,c1,A2,c2,A3,c3,hv0,h1,h2,h3,r1,r2,r3⟩:=hv.e
 obtain ⟨sz,hsz⟩:∃ z:Int,(ndSize nd:Int)=z:=⟨_,rfl⟩
 have hbd:nd.es.length≤7∧nd.ts.length≤16∧nd.ks.length=nd.ts.length∧0≤sz∧sz<256∧(∀ e∈nd.es,EnOk e)∧(∀ k∈nd.ks,KyOk k)∧(∀ t∈nd.ts,t≤511):=by
  rcases h with ⟨hlf,hks,hts,hL⟩ | ⟨hlf,hes,hI⟩
  ·have:=hL.n7
   refine ⟨by omega,by rw [hts];simp,by rw [hks,hts];rfl,?_,?_,hL.ok,by rw [hks];simp,by rw [hts];simp⟩<;>rw [← hsz,ndSize,hlf]<;>simp<;>omega
  ·have:=hI.n16
   refine ⟨by rw [hes];simp,by omega,hI.n,?_,?_,by rw [hes];simp,hI.ok,fun t ht=>(hI.pg t ht).2⟩<;>rw [← hsz,ndSize,hlf]<;>simp<;>omega
 rw [hsz] at HS0
 have HSZ:=Aside0.mk hsz
 obtain ⟨lf,es,ks,ts⟩:=nd
 simp only at hv0 h1 h2 h3 r1 r2 r3 hbd
 obtain ⟨hb1,hb2,hb3,hb4,hb5,hb6,hb7,hb8⟩:=hbd
 rw [hb3] at hv0 h2
 obtain ⟨n1,hn1⟩:∃ n,es.length=n:=⟨_,rfl⟩
 obtain ⟨n2,hn2⟩:∃ n,ts.length=n:=⟨_,rfl⟩
 rw [hn1] at hv0 h1 hb1
 rw [hn2] at hv0 h2 h3 hb2 hb3
 subst hv0
 have HN:=Aside0.mk (And.intro hn1 (And.intro hn2 (And.intro hb3 (And.intro hb1 hb2))))
 have HK:=Aside0.mk (And.intro hb6 (And.intro hb7 hb8))
 have HRR:=Aside0.mk (And.intro r1 (And.intro r2 r3))
 have u1:=u8_w hb4 hb5
 have HBA:Aside0 (∀ o:Obj,Below w.heap.size w (w.alloc o)):=⟨fun o=>below_alloc (Below.refl _ _) o⟩
 clear hsz hn1 hn2 hb1 hb2 hb3 hb4 hb5 hb6 hb7 hb8 r1 r2 r3 h1 h2 h3 hv h
 obtain ⟨W0,hW0⟩:∃ W,w.alloc (Obj.cells #[.bool lf,.slice A1 n1 c1,.slice A2 n2 c2,.slice A3 n2 c3] 175)=W:=⟨_,rfl⟩
 have hn0:NbAt W0 w.heap.size #[.bool lf,.slice A1 n1 c1,.slice A2 n2 c2,.slice A3 n2 c3]:=by rw [← hW0];exact nb_new _ rfl
 have HB0:Aside0 (Below w.heap.size w W0):=⟨by rw [← hW0];exact HBA.out _⟩
 have hl:=ld_nd (g:=w.heap.size) (v:=#[.bool lf,.slice A1 n1 c1,.slice A2 n2 c2,.slice A3 n2 c3]) rfl
 have hc:=nb_cell (g:=w.heap.size) (x0:=.bool lf) (x1:=.slice A1 n1 c1) (x2:=.slice A2 n2 c2) (x3:=.slice A3 n2 c3)
 go_enter Tryz.func177,Tryz.ntmps177
 go_wp2_with (first
  | (go_at_call 111;(with_reducible refine (HR0.out _ HB0.out).mono ?_);rintro r w2 ⟨rfl,h2⟩;have HB2:=Aside0.mk (below_step HB0.out h2);have hn2:=hn0.below h2;clear h2)
  | (go_at_call 224;(with_reducible refine (HS0.out _ HB2.out).mono ?_);rintro r w3 ⟨rfl,h3⟩;have HB3:=Aside0.mk (below_step HB2.out h3);have hn3:=hn2.below h3;have hn4:=hn3.alloc (Obj.cells #[.int .u8 sz] 5);clear h3))
 have hr4:Kd.R (Kd.int .u8) 5 (w3.alloc (Obj.cells #[.int .u8 sz] 5)) w.heap.size (fun _=>True) (.slice (some ⟨w3.heap.size,0,none⟩) 1 1) [sz]:=
  R_fresh (Kd.int .u8) (inner:=[.int .u8 sz]) (below_size HB3.out) (fun W' ok=>reps_one rfl rfl) (by simp)
 have HO4:=Aside0.mk hr4
 have HN4:=Aside0.mk hn4
 have HB4:Aside0 (Below w.heap.size w (w3.alloc (Obj.cells #[.int .u8 sz] 5))):=⟨below_alloc HB3.out _⟩
 clear hr4 hn4 hn3 hn2 hn0 HB3 HB2 HB0 hl hc hW0
 go_loopw [4,19] (fun v4 v19 wr=>∃ (i:Nat) (ii:Int),v19 = .int .i64 ii∧Aside0 (ii=(i:Int))∧Aside0 (i≤n1)∧Aside0 (Below w.heap.size w wr)∧Aside0 (NbAt wr w.heap.size #[.bool lf,.slice A1 n1 c1,.slice A2 n2 c2,.slice A3 n2 c3])∧Aside0 (Kd.R (Kd.int .u8) 5 wr w.heap.size (fun _=>True) v4 (sz :: (es.take i).flatMap enB))) (fun _ v19 _=>((n1:Int)-intOf v19).toNat)
 case atStart=>exact ⟨0,0,rfl,⟨rfl⟩,⟨Nat.zero_le _⟩,HB4,HN4,HO4⟩
 case round=>
  clear HB4 HN4 HO4
  obtain ⟨i,ii,rfl,HI,HIL,HB,HNB,HO⟩:=hrel
  have hi0:0≤ii∧ii≤16:=by have:=HI.out;have:=HIL.out;have:=HN.out;omega
  have e5:wrap64 (ii+1)=ii+1:=wrap64_id (by omega) (by omega)
  by_cases hlt:i<n1
  ·have d1:decide (ii<(n1:Int))=true:=decide_eq_true (by have:=HI.out;omega)
   have d2:(ii<(n1:Int))=True:=eq_true (by have:=HI.out;omega)
   have d3:(0≤ii)=True:=eq_true (by omega)
   have eii:ii.toNat=i:=by have:=HI.out;omega
   obtain ⟨e,he⟩:∃ e,es[i]?=some e:=⟨_,List.getElem?_eq_getElem (by rw [HN.out.1];exact hlt)⟩
   obtain ⟨g,o,hA,hcc⟩:=(HRR.out.1.below HB.out).at_ he
   have hld:(loadEnI (.pointer (some ⟨g,o+i*8,none⟩))).run Tryz.prog wr = .ok (.agg (enA e)) wr:=run_loadEn hcc
   subst hA
   have hst:=st_en e wr
   have hen:EnAt (wr.alloc (Obj.cells (enA e) 89)) wr.heap.size e:=en_new e rfl
   have hl:=ld_en (g:=wr.heap.size) (e:=e)
   have hc:=en_cell (g:=wr.heap.size) (e:=e)
   have hek:=HK.out.1 e (List.mem_of_getElem? he)
   obtain ⟨zz,hzz⟩:∃ z,e.z=z:=⟨_,rfl⟩
   obtain ⟨zp,hzp⟩:∃ z:Int,(e.p:Int)=z:=⟨_,rfl⟩
   obtain ⟨zl,hzl⟩:∃ z:Int,(e.l:Int)=z:=⟨_,rfl⟩
   obtain ⟨zn,hzn⟩:∃ z:Int,(e.n:Int)=z:=⟨_,rfl⟩
   obtain ⟨zc,hzc⟩:∃ z:Int,(e.c:Int)=z:=⟨_,rfl⟩
   obtain ⟨zx,hzx⟩:∃ z,e.x=z:=⟨_,rfl⟩
   have hz1:0≤zz∧zz<9223372036854775808:=by have:=hek.z0;have:=hek.z1;have:=hek.k.2.2.1;omega
   have hz2:0≤zp∧zp<512:=by have:=hek.p5;omega
   have hz3:0≤zl∧zl<65536:=by have:=hek.l6;omega
   have hz4:0≤zn∧zn<256:=by have:=hek.n2;omega
   have hz5:0≤zc∧zc<256:=by have:=hek.c;omega
   have hz6:0≤zx∧zx<4294967296:=by have:=hek.x0;have:=hek.x1;omega
   have f1:IntKind.u64.wrap zz=zz:=u64_w hz1.1 (by omega)
   have f2:IntKind.u64.wrap zp=zp:=u64_w hz2.1 (by omega)
   have f3:IntKind.u64.wrap zl=zl:=u64_w hz3.1 (by omega)
   have f4:IntKind.u8.wrap zn=zn:=u8_w hz4.1 hz4.2
   have f5:IntKind.u8.wrap zc=zc:=u8_w hz5.1 hz5.2
   have f6:IntKind.u64.wrap zx=zx:=u64_w hz6.1 (by omega)
   have HEB:Aside0 (enB e=keyB e.k++low zz 8++low zp 2++low zl 2++[zn,zc]++low zx 4):=⟨by rw [← hzz,← hzp,← hzl,← hzn,← hzc,← hzx];rfl⟩
   rw [hzz,hzp,hzl,hzn,hzc,hzx] at hc
   have HKK:=Aside0.mk hek.k
   have HE:=Aside0.mk he
   have HB1:Aside0 (Below w.heap.size w (wr.alloc (Obj.cells (enA e) 89))):=⟨below_alloc HB.out _⟩
   obtain ⟨L,hL⟩:∃ L,sz :: (es.take i).flatMap enB=L:=⟨_,rfl⟩
   have hLL:L.length≤300:=by rw [← hL,List.length_cons,flat_len enB_len,List.length_take];have:=HN.out;omega
   have HLL:=Aside0.mk (And.intro hL hLL)
   have hO:=HO.out
   rw [hL] at hO
   have HO1:=Aside0.mk (Kd.R_alloc hO (Obj.cells (enA e) 89))
   have HF1:=Aside0.mk (HNB.out.alloc (Obj.cells (enA e) 89))
   clear he hcc hek hzz hzp hzl hzn hzc hzx hL hLL hO HB HO
   go_wp2
   obtain ⟨w1,hw1⟩:∃ W,wr.alloc (Obj.cells (enA e) 89)=W:=⟨_,rfl⟩
   rw [hw1] at hen HB1 HO1 HF1 ⊢
   obtain ⟨gE,hgE⟩:∃ g,wr.heap.size=g:=⟨_,rfl⟩
   rw [hgE] at hen hl hc ⊢
   clear hst hld hw1 hgE
   have ha1:EnAt w1.drew gE e:=hen
   have ho1:=Kd.R_drew HO1.out
   have hb1:Below w.heap.size w w1.drew:=below_drew HB1.out
   have hf1:FrT [5] w1 w1.drew:=(FrT.refl _ _).drew
   clear hen
   go_region_held3 (fun w'=>EnAt w' gE e) (first | exact ha1 | exact ha2 | exact ha3)
    (first
     | (go_at_call 226;(with_reducible refine (putkey_calls (w0:=w) e.k HKK.out (by have:=HLL.out.2;omega) hb1 ho1).mono ?_);rintro r w2 ⟨v2,rfl,ho2,hb2,h2⟩;have ha2:EnAt w2 gE e:=h2.blk ha1 (by decide);have hf2:=hf1.trans h2)
     | (go_at_call 225;(with_reducible refine (nbig_calls (w0:=w) zz 8 8 rfl (by decide) hz1.1 (by rw [List.length_append,keyB_len];have:=HLL.out.2;omega) hb2 ho2).mono ?_);rintro r w3 ⟨v3,rfl,ho3,hb3,h3⟩;have ha3:EnAt w3 gE e:=h3.blk ha2 (by decide);have hf3:=hf2.trans h3))
   clear ho1 ho2 hb1 hb2 hf1 hf2 h2 h3 ha1 ha2
   go_wp2
   have HL3:Aside0 ((L++keyB e.k++low zz 8).length≤320):=⟨by rw [List.length_append,List.length_append,keyB_len,low_len];have:=HLL.out.2;omega⟩
   obtain ⟨L3,hL3⟩:∃ M,L++keyB e.k++low zz 8=M:=⟨_,rfl⟩
   rw [hL3] at ho3 HL3
   have HQ3:=Aside0.mk hL3
   have hh3:=Aside0.mk ho3
   have hg3:=Aside0.mk hb3
   have hk3:=Aside0.mk hf3
   have ha4:EnAt w3.drew gE e:=ha3
   have ho4:=Kd.R_drew ho3
   have hb4:Below w.heap.size w w3.drew:=below_drew hb3
   have hf4:FrT [5] w1 w3.drew:=hf3.drew
   clear hL3 ho3 hb3 hf3 ha3
   go_region_held3 (fun w'=>EnAt w' gE e) (first | exact ha4 | exact ha5 | exact ha6)
    (first
     | (go_at_call 225;(with_reducible refine (nbig_calls (w0:=w) zp 2 2 rfl (by decide) hz2.1 (by have:=HL3.out;omega) hb4 ho4).mono ?_);rintro r w5 ⟨v5,rfl,ho5,hb5,h5⟩;have ha5:EnAt w5 gE e:=h5.blk ha4 (by decide);have hf5:=hf4.trans h5)
     | (go_at_call 225;(with_reducible refine (nbig_calls (w0:=w) zl 2 2 rfl (by decide) hz3.1 (by rw [List.length_append,low_len];have:=HL3.out;omega) hb5 ho5).mono ?_);rintro r w6 ⟨v6,rfl,ho6,hb6,h6⟩;have ha6:EnAt w6 gE e:=h6.blk ha5 (by decide);have hf6:=hf5.trans h6))
   clear ho4 ho5 hb4 hb5 hf4 hf5 h5 h6 ha4 ha5 hh3 hg3 hk3
   go_wp2
   have HL6:Aside0 ((L3++low zp 2++low zl 2).length≤324):=⟨by rw [List.length_append,List.length_append,low_len,low_len];have:=HL3.out;omega⟩
   obtain ⟨L6,hL6⟩:∃ M,L3++low zp 2++low zl 2=M:=⟨_,rfl⟩
   rw [hL6] at ho6 HL6
   have HQ6:=Aside0.mk hL6
   have ha7:EnAt w6.drew gE e:=ha6
   have ho7:=Kd.R_drew ho6
   have hb7:Below w.heap.size w w6.drew:=below_drew hb6
   have hf7:FrT [5] w1 w6.drew:=hf6.drew
   have ha8:=ha7.alloc (Obj.cells #[.int .u8 zn,.int .u8 zc] 5)
   have ho8:=Kd.R_alloc ho7 (Obj.cells #[.int .u8 zn,.int .u8 zc] 5)
   have hb8:=below_alloc hb7 (Obj.cells #[.int .u8 zn,.int .u8 zc] 5)
   have hf8:=hf7.alloc (Obj.cells #[.int .u8 zn,.int .u8 zc] 5)
   have hr8:=lit2_reads w6.drew zn zc
   clear hL6 ho6 hb6 hf6 ha6
   go_region_held3 (fun w'=>EnAt w' gE e) (first | exact ha7 | exact ha8 | exact ha9 | exact ha10)
    (first
     | (refine Kd.R_append_rows_step (Kd.int .u8) (Rr:=fun x (cs:List Value)=>cs=[.int .u8 x]) (w0:=w) w.heap.size (by rfl) (.tmp 40) (.tmp 47) 46 5 (.int .u8 0) 1 rfl Tryz.underlying46 info_u8 rfl (by decide) (by decide) v6 L6 [zn,zc] _ 2 2 (fun _=>True) (fun _=>False) rfl rfl ho8 hr8 (fun _ _ h=>h) (fun _ hk=>hk.elim) (fun _ _=>trivial) hb8 (below_size hb8) (by have:=HL6.out;omega) ?_;intro v9 w9 ho9 hb9 hg9 hat9;have hf9:=hf8.app ho8 (by decide) hg9;have hx9:FrT [5] _ w9:=(FrT.refl [5] _).app ho8 (by decide) hg9;have ha9:EnAt w9 gE e:=hx9.blk ha8 (by decide))
     | (go_at_call 225;(with_reducible refine (nbig_calls (w0:=w) zx 4 4 rfl (by decide) hz6.1 (by rw [List.length_append];have:=HL6.out;simp;omega) hb9 ho9).mono ?_);rintro r w10 ⟨v10,rfl,ho10,hb10,h10⟩;have ha10:EnAt w10 gE e:=h10.blk ha9 (by decide);have hf10:=hf9.trans h10))
   have HB10:=Aside0.mk hb10
   have HN10:=Aside0.mk (HF1.out.frT hf10 (by decide))
   have HO10:=Aside0.mk ho10
   clear ho10 hb10 h10 ha10 hf10 ha9 hx9 hf9 hat9 hg9 hb9 ho9 hr8 hf8 hb8 ho8 ha8 hf7 hb7 ho7 ha7
   go_wp2
   go_roundw
   case rel=>
    refine ⟨i+1,_,rfl,⟨by have:=HI.out;omega⟩,⟨by omega⟩,HB10,HN10,⟨?_⟩⟩
    have:=HO10.out
    rw [← HQ6.out,← HQ3.out,← HLL.out.1] at this
    rw [flat_snoc HE.out,HEB.out]
    simpa only [List.append_assoc,List.cons_append] using this
   case measure=>simp [intOf];have:=HI.out;omega
  ·obtain rfl:n1=i:=by have:=HIL.out;omega
   have d1:decide (ii<(n1:Int))=false:=decide_eq_false (by have:=HI.out;omega)
   have hn:=HNB.out
   have hc:=nb_cell (g:=w.heap.size) (x0:=.bool lf) (x1:=.slice A1 n1 c1) (x2:=.slice A2 n2 c2) (x3:=.slice A3 n2 c3)
   have HO0:Aside0 (Kd.R (Kd.int .u8) 5 wr w.heap.size (fun _=>True) _ (sz :: es.flatMap enB)):=⟨by have:=HO.out;rwa [List.take_of_length_le (Nat.le_of_eq HN.out.1)] at this⟩
   clear HO
   go_wp2
   clear hn hc
   go_loopw [4,57] (fun v4 v57 wr=>∃ (i:Nat) (ii:Int),v57 = .int .i64 ii∧Aside0 (ii=(i:Int))∧Aside0 (i≤n2)∧Aside0 (Below w.heap.size w wr)∧Aside0 (NbAt wr w.heap.size #[.bool lf,.slice A1 n1 c1,.slice A2 n2 c2,.slice A3 n2 c3])∧Aside0 (Kd.R (Kd.int .u8) 5 wr w.heap.size (fun _=>True) v4 (sz :: (es.flatMap enB++((ks.zip ts).take i).flatMap kdB)))) (fun _ v57 _=>((n2:Int)-intOf v57).toNat)
   case atStart=>exact ⟨0,0,rfl,⟨rfl⟩,⟨Nat.zero_le _⟩,HB,HNB,⟨by simpa using HO0.out⟩⟩
   case round=>
    clear HB HO0 HNB HI HIL d1 hlt hi0 e5
    obtain ⟨i,ii,rfl,HI,HIL,HB,HNB,HO⟩:=hrel
    have hi0:0≤ii∧ii≤16:=by have:=HI.out;have:=HIL.out;have:=HN.out;omega
    have e5:wrap64 (ii+1)=ii+1:=wrap64_id (by omega) (by omega)
    by_cases hlt:i<n2
    ·have d1:decide (ii<(n2:Int))=true:=decide_eq_true (by have:=HI.out;omega)
     have d2:(ii<(n2:Int))=True:=eq_true (by have:=HI.out;omega)
     have d3:(0≤ii)=True:=eq_true (by omega)
     have eii:ii.toNat=i:=by have:=HI.out;omega
     obtain ⟨k,hk⟩:∃ e,ks[i]?=some e:=⟨_,List.getElem?_eq_getElem (by rw [HN.out.2.2.1];exact hlt)⟩
     obtain ⟨t,ht⟩:∃ e,ts[i]?=some e:=⟨_,List.getElem?_eq_getElem (by rw [HN.out.2.1];exact hlt)⟩
     obtain ⟨g,o,hA,hcc⟩:=(HRR.out.2.1.below HB.out).at_ hk
     obtain ⟨g',o',hA',hcc'⟩:=(HRR.out.2.2.below HB.out).at_ ht
     have hld:(loadKeyI (.pointer (some ⟨g,o+i*2,none⟩))).run Tryz.prog wr = .ok (.agg (keyA k)) wr:=run_loadKey hcc
     have hct:wr.cell? ⟨g',o'+i,none⟩=some (.int .i64 (t:Int)):=by simpa using hcc' 0 _ rfl
     subst hA hA'
     have hn:=HNB.out
     have hc:=nb_cell (g:=w.heap.size) (x0:=.bool lf) (x1:=.slice A1 n1 c1) (x2:=.slice (some ⟨g,o,none⟩) n2 c2) (x3:=.slice (some ⟨g',o',none⟩) n2 c3)
     have hkk:=HK.out.2.1 k (List.mem_of_getElem? hk)
     have htt:=HK.out.2.2 t (List.mem_of_getElem? ht)
     obtain ⟨zt,hzt⟩:∃ z:Int,(t:Int)=z:=⟨_,rfl⟩
     have hz1:0≤zt∧zt<512:=by omega
     have f1:IntKind.u64.wrap zt=zt:=u64_w hz1.1 (by omega)
     have HKB:Aside0 (kdB (k,t)=keyB k++low zt 2):=⟨by rw [← hzt];rfl⟩
     rw [hzt] at hct
     have HE:Aside0 ((ks.zip ts)[i]?=some (k,t)):=⟨by rw [List.getElem?_zip_eq_some];exact ⟨hk,ht⟩⟩
     have HL:Aside0 ((sz :: (es.flatMap enB++((ks.zip ts).take i).flatMap kdB)).length≤600):=⟨by
      have:=HN.out
      rw [List.length_cons,List.length_append,flat_len enB_len,flat_len kdB_len,List.length_take,List.length_zip]
      omega⟩
     have HP:Aside0 (∀ W v l,l.length≤600→Below w.heap.size w W→Kd.R (Kd.int .u8) 5 W w.heap.size (fun _=>True) v l→Calls Tryz.prog 226 #[v,.agg (keyA k)] W fun e w'=>∃ v',e = .returned v'∧Kd.R (Kd.int .u8) 5 w' w.heap.size (fun _=>True) v' (l++keyB k)∧Below w.heap.size w w'∧FrT [5] W w'):=⟨fun W v l h1 h2 h3=>putkey_calls k hkk (by omega) h2 h3⟩
     clear hk ht hcc hcc' hkk htt hzt
     go_wp2_with (first
      | (go_at_call 226;(with_reducible refine (HP.out _ _ _ HL.out HB.out HO.out).mono ?_);rintro r w2 ⟨v2,rfl,ho2,hb2,h2⟩;have HO2:=Aside0.mk ho2;have HB2:=Aside0.mk hb2;have HF2:=Aside0.mk h2;clear ho2 hb2 h2)
      | (go_at_call 225;(with_reducible refine (nbig_calls (w0:=w) zt 2 2 rfl (by decide) hz1.1 (by rw [List.length_append,keyB_len];have:=HL.out;omega) HB2.out HO2.out).mono ?_);rintro r w3 ⟨v3,rfl,ho3,hb3,h3⟩;have HO3:=Aside0.mk ho3;have HB3:=Aside0.mk hb3;have HN3:=Aside0.mk (HNB.out.frT (HF2.out.trans h3) (by decide));clear ho3 hb3 h3))
     go_roundw
     case rel=>
      refine ⟨i+1,_,rfl,⟨by have:=HI.out;omega⟩,⟨by omega⟩,HB3,HN3,⟨?_⟩⟩
      rw [flat_snoc HE.out,HKB.out]
      simpa only [List.append_assoc,List.cons_append] using HO3.out
     case measure=>simp [intOf];have:=HI.out;omega
    ·obtain rfl:n2=i:=by have:=HIL.out;omega
     have d1:decide (ii<(n2:Int))=false:=decide_eq_false (by have:=HI.out;omega)
     go_wp2
     go_ret2
     refine ⟨_,rfl,?_,HB.out⟩
     unfold ndB
     rw [HSZ.out]
     have:=HO.out
     rwa [List.take_of_length_le (by rw [List.length_zip];have:=HN.out;omega)] at this
end
end Go.Proofs.YtnhkikebfinejaaGreatDoor.Z
