/- Texts of this claim, laid together. No conditions. -/
import Derived.Test.YtnhkikebfinejaaGreatDoorMRickMany24
import Derived.Test.YtnhkikebfinejaaGreatDoorMRickMany9
import Derived.LoopN
import Derived.Test.YtnhkikebfinejaaGreatDoorMRickMany3
set_option linter.unusedVariables false
set_option linter.unusedSimpArgs false
set_option maxRecDepth 100000
set_option maxHeartbeats 16000000
namespace Go.Proofs.YtnhkikebfinejaaGreatDoor.Z
open Go Go.RowKit Go.Proofs.YtnhkikebfinejaaGreatDoor.S
section
open Go.Shelf Go.Proofs.YtnhkikebfinejaaGreatDoorW.PrintWords Go.Proofs.YtnhkikebfinejaaGreatDoorW.PrintLast Go.Proofs.YtnhkikebfinejaaGreatDoorW.PrintMore Go.Proofs.YtnhkikebfinejaaGreatDoor.X
def loadSmI (p:Value):Sem Value:=Instr.loadAt 35 p
theorem loadSm_eq (p:Value):Instr.loadAt 35 p=loadSmI p:=rfl
def storeSmI (p v:Value):Sem Unit:=Instr.storeAt 35 p v
theorem storeSm_eq (p v:Value):Instr.storeAt 35 p v=storeSmI p v:=rfl
theorem info_s [Inhabited Sanct]:(Tryz.prog.info? 35).map (fun i=>(i.zero,i.size,i.bytes))=some (some (.agg #[.int .i64 0,.int .u64 0]),2,16):=by kernel_rfl
theorem sm_size [Inhabited Sanct]:(Tryz.prog.info? 35).map (·.size)=some 2:=by kernel_rfl
def smA (s:Sm):Array Value:=(smC s).toArray
theorem ld_sm [Inhabited Sanct] {W:World} {g o:Nat} {s:Sm} (h:W.rangeAt g o (smC s)):(loadSmI (.pointer (some ⟨g,o,none⟩))).run Tryz.prog W = .ok (.agg (smA s)) W:=
 run_loadAt_mid (P:=Tryz.prog) W g o 35 (smC s) _ h Tryz.underlying35 rfl sm_size
theorem st_sm [Inhabited Sanct] (s:Sm) (W:World):(storeSmI (.pointer (some ⟨W.heap.size,0,none⟩)) (.agg (smA s))).run Tryz.prog (W.alloc (Obj.cells #[.int .i64 0,.int .u64 0] 35)) = .ok () (W.alloc (Obj.cells (smA s) 35)):=by
 have:=run_storeVar_row (P:=Tryz.prog) (W.alloc (Obj.cells #[.int .i64 0,.int .u64 0] 35)) W.heap.size 35 35 #[.int .i64 0,.int .u64 0] (smA s) (newb rfl) sm_size rfl (by simp [smA,smC,Value.oneCell'])
 rw [World.setRow_alloc_new] at this
 simp only [storeSmI,Instr.storeAt,Instr.sureAddr,Sem.run_bind,Sem.run_pure,Result.andThen_ok]
 exact this
def smE (e:En):Sm:=⟨e.k.a,e.k.a⟩
def ofS (sr:Int) (es:List En):List Sm:=(es.filter (fun e=>e.k.s == sr)).map smE
theorem ofS_one (sr:Int) (es:List En) (x:En):ofS sr (es++[x])=ofS sr es++if x.k.s == sr then [smE x] else []:=by
 unfold ofS
 rw [List.filter_append,List.map_append]
 cases h:x.k.s == sr<;>simp [List.filter,h]
theorem ofS_len (sr:Int) (es:List En):(ofS sr es).length≤es.length:=by
 unfold ofS
 rw [List.length_map]
 exact List.length_filter_le _ _
theorem flat_get {i:Nat} {u:Value} (hi:i<2):∀ (l:List Sm) (j:Nat) (x:Sm),l[j]?=some x→(smC x)[i]?=some u→(l.flatMap smC)[j*2+i]?=some u
 | [],j,x,hj,_=>by simp at hj
 | a :: l,0,x,hj,hu=>by
  have:a=x:=by simpa using hj
  subst this
  rw [List.flatMap_cons,Nat.zero_mul,Nat.zero_add,List.getElem?_append_left (by simpa [smC] using hi)]
  exact hu
 | a :: l,j+1,x,hj,hu=>by
  have hl:(smC a).length=2:=rfl
  rw [List.flatMap_cons,List.getElem?_append_right (by omega),show (j+1)*2+i-(smC a).length=j*2+i by omega]
  exact flat_get hi l j x (by simpa using hj) hu
def ChD (k:Ky) (c:Nat) (bs:List Int):Prop:=DecC ⟨k.a,k.a⟩ c bs
theorem rsm_of {W:World} {base:Nat} {A:Option Addr} {c:Nat} {l:List Sm} (h:W.ownsRow base 35 2 (.slice A l.length c) l.length (l.flatMap smC)) (hl:l.length≤1000):RSm W A l:=by
 refine ⟨by omega,fun h0=>?_⟩
 rcases h.2 with ⟨_,h2⟩ | ⟨g,cap,cur,hv,hb,hh,h1,h2,h3,h4⟩
 ·omega
 ·injection hv with hv
  refine ⟨g,0,cur,(0,0),hv,hh,fun j x hj i u hu=>?_⟩
  have hi:i<2:=(List.getElem?_eq_some_iff.1 hu).1
  have h5:=flat_get hi l j x hj hu
  rw [← h4,List.getElem?_take] at h5
  have hjn:j*2+i<l.length*2:=by have:=(List.getElem?_eq_some_iff.1 hj).1;omega
  rw [if_pos hjn] at h5
  rw [Nat.zero_add]
  simpa using h5
end
section
open Go.Shelf Go.Proofs.YtnhkikebfinejaaGreatDoorW.PrintWords Go.Proofs.YtnhkikebfinejaaGreatDoorW.PrintLast Go.Proofs.YtnhkikebfinejaaGreatDoorW.PrintMore Go.Proofs.YtnhkikebfinejaaGreatDoor.X
attribute [local go_sem] Oper.semAt_some
attribute [local go_sem ↓] loadKey_eq loadEn_eq storeKey_eq storeEn_eq loadNd_eq storeNd_eq loadMap_eq storeMap_eq loadTab_eq storePg_eq loadRt_eq storeRt_eq loadSm_eq storeSm_eq
structure QBx (ob:Nat) (W:World) (s g4 g5 g6 g7 g8 g9:Nat) (sr lo hi:Int):Prop where
 b4:BxO ob W g4 (.pointer (some ⟨s,0,none⟩)) 26
 b5:BxO ob W g5 (.int .i64 sr) 3
 b6:BxO ob W g6 (.int .i64 lo) 2
 b7:BxO ob W g7 (.int .i64 hi) 2
 b8:BxO ob W g8 (.slice none 0 0) 33
 b9:BxO ob W g9 (.int .i64 0) 23
section
variable {ob s g4 g5 g6 g7 g8 g9:Nat} {sr lo hi:Int} {T:List Nat} {A B:World}
theorem QBx.kp [Inhabited Sanct] (h:QBx ob A s g4 g5 g6 g7 g8 g9 sr lo hi) (hk:KpT T ob A B) (hT:∀ t,t∈T→t∈wT):QBx ob B s g4 g5 g6 g7 g8 g9 sr lo hi:=by
 have hn:∀ t,t ∉ wT→t ∉ T:=fun t ht h=>ht (hT t h)
 exact ⟨h.b4.kp hk (hn _ (by decide)),h.b5.kp hk (hn _ (by decide)),h.b6.kp hk (hn _ (by decide)),h.b7.kp hk (hn _ (by decide)),h.b8.kp hk (hn _ (by decide)),h.b9.kp hk (hn _ (by decide))⟩
theorem QBx.grown [Inhabited Sanct] {row:Option Nat} (h:QBx ob A s g4 g5 g6 g7 g8 g9 sr lo hi) (hg:A.grownBy B row) (hr:∀ r,row=some r → ∃ o:Obj,A.heap[r]?=some o∧o.isCells=false) (hb:∃ cs t fr,A.heap[ob]?=some (Obj.cells cs t fr)):QBx ob B s g4 g5 g6 g7 g8 g9 sr lo hi:=by
 have f:∀ {g x t},BxO ob A g x t→BxO ob B g x t:=fun k=>⟨slot_cells hg hr k.b,fun e=>k.n ((Ow.grown hg hr hb _).1 e)⟩
 exact ⟨f h.b4,f h.b5,f h.b6,f h.b7,f h.b8,f h.b9⟩
theorem QBx.cells (h:QBx ob A s g4 g5 g6 g7 g8 g9 sr lo hi):A.cell? ⟨g4,0,none⟩=some (.pointer (some ⟨s,0,none⟩))∧A.cell? ⟨g5,0,none⟩=some (.int .i64 sr)∧A.cell? ⟨g6,0,none⟩=some (.int .i64 lo)∧A.cell? ⟨g7,0,none⟩=some (.int .i64 hi):=
 ⟨by have:=blk_cell h.b4.b 0;simpa using this,by have:=blk_cell h.b5.b 0;simpa using this,by have:=blk_cell h.b6.b 0;simpa using this,by have:=blk_cell h.b7.b 0;simpa using this⟩
end
theorem leaf_cutA {M:World→Option Addr→Nat→Prop} {G:Prop} (F:World→Option Addr→Nat→Prop) (h:(∀ W g a,F W g a→M W g a)→G) (k:∀ W g a,F W g a→M W g a):G:=h k
theorem query_in [Inhabited Sanct] {w:World} {s b d N:Nat} {es:List En} {sr lo hi:Int} (h:StOk ChD w s b d N es) (hl:es.length≤90) (h0:0≤sr) (h1:sr≤4294967295) (h2:lo≤hi) (hall:∀ e∈es,e.k.a≤hi∧lo≤e.z∧lo≤e.k.a) :
  CallsIn Fence.wide 20 Tryz.prog 10 #[.pointer (some ⟨s,0,none⟩),.int .i64 sr,.int .i64 lo,.int .i64 hi] w fun r w'=>(∃ A c,r = .returned (.tuple #[.slice A (ofS sr es).length c,.int .i64 0])∧RSm w' A (ofS sr es)∧(ofS sr es).length≤c)∧FrT wT w w':=by
 obtain ⟨hst,sp,m,v,f,ps,H⟩:=h
 obtain ⟨g4,hg4⟩:∃ q,w.heap.size=q:=⟨_,rfl⟩
 obtain ⟨W1,hW1⟩:∃ W,w.alloc (Obj.cells #[.pointer (some ⟨s,0,none⟩)] 26)=W:=⟨_,rfl⟩
 obtain ⟨g5,hg5⟩:∃ q,W1.heap.size=q:=⟨_,rfl⟩
 obtain ⟨W2,hW2⟩:∃ W,W1.alloc (Obj.cells #[.int .i64 sr] 3)=W:=⟨_,rfl⟩
 obtain ⟨g6,hg6⟩:∃ q,W2.heap.size=q:=⟨_,rfl⟩
 obtain ⟨W3,hW3⟩:∃ W,W2.alloc (Obj.cells #[.int .i64 lo] 2)=W:=⟨_,rfl⟩
 obtain ⟨g7,hg7⟩:∃ q,W3.heap.size=q:=⟨_,rfl⟩
 obtain ⟨W4,hW4⟩:∃ W,W3.alloc (Obj.cells #[.int .i64 hi] 2)=W:=⟨_,rfl⟩
 obtain ⟨g8,hg8⟩:∃ q,W4.heap.size=q:=⟨_,rfl⟩
 obtain ⟨W5,hW5⟩:∃ W,W4.alloc (Obj.cells #[.slice none 0 0] 33)=W:=⟨_,rfl⟩
 obtain ⟨g9,hg9⟩:∃ q,W5.heap.size=q:=⟨_,rfl⟩
 obtain ⟨W6,hW6⟩:∃ W,W5.alloc (Obj.cells #[.int .i64 0] 23)=W:=⟨_,rfl⟩
 obtain ⟨gO,hgO⟩:∃ q,W6.heap.size=q:=⟨_,rfl⟩
 obtain ⟨W7,hW7⟩:∃ W,W6.alloc (Obj.cells #[.slice none 0 0] 33)=W:=⟨_,rfl⟩
 have b1:Below w.heap.size w W1:=by rw [← hW1];exact below_alloc (Below.refl _ _) _
 have b2:Below W1.heap.size W1 W2:=by rw [← hW2];exact below_alloc (Below.refl _ _) _
 have b3:Below W2.heap.size W2 W3:=by rw [← hW3];exact below_alloc (Below.refl _ _) _
 have b4:Below W3.heap.size W3 W4:=by rw [← hW4];exact below_alloc (Below.refl _ _) _
 have b5:Below W4.heap.size W4 W5:=by rw [← hW5];exact below_alloc (Below.refl _ _) _
 have b6:Below W5.heap.size W5 W6:=by rw [← hW6];exact below_alloc (Below.refl _ _) _
 have b7:Below W6.heap.size W6 W7:=by rw [← hW7];exact below_alloc (Below.refl _ _) _
 have z4:W6.heap[g4]?=some (Obj.cells #[.pointer (some ⟨s,0,none⟩)] 26):=blkb b6 (blkb b5 (blkb b4 (blkb b3 (blkb b2 (by rw [← hW1];exact newb hg4)))))
 have z5:W6.heap[g5]?=some (Obj.cells #[.int .i64 sr] 3):=blkb b6 (blkb b5 (blkb b4 (blkb b3 (by rw [← hW2];exact newb hg5))))
 have z6:W6.heap[g6]?=some (Obj.cells #[.int .i64 lo] 2):=blkb b6 (blkb b5 (blkb b4 (by rw [← hW3];exact newb hg6)))
 have z7:W6.heap[g7]?=some (Obj.cells #[.int .i64 hi] 2):=blkb b6 (blkb b5 (by rw [← hW4];exact newb hg7))
 have z8:W6.heap[g8]?=some (Obj.cells #[.slice none 0 0] 33):=blkb b6 (by rw [← hW5];exact newb hg8)
 have z9:W6.heap[g9]?=some (Obj.cells #[.int .i64 0] 23):=by rw [← hW6];exact newb hg9
 have b06:Below w.heap.size w W6:=below_step (below_step (below_step (below_step (below_step b1 b2) b3) b4) b5) b6
 have hO7:OutO W7 w.heap.size gO 33 35 2 (.slice none 0 0) 0 []:=⟨by rw [← hW7];exact newb hgO,World.ownsRow_nil _ _ _ _⟩
 have hnO:∀ g,g<gO→¬ Ow gO W7 g:=fun g hg e=>by
  rcases e with e | ⟨v2,t2,fr2,e1,e2⟩
  ·omega
  ·rw [hO7.b] at e1
   injection e1 with e1
   injection e1 with e1 _ _
   have e1:Value.slice none 0 0=v2:=by simpa using e1
   rw [← e1] at e2
   simp [Value.ownBlock] at e2
 have hQ:QBx gO W7 s g4 g5 g6 g7 g8 g9 sr lo hi:=⟨⟨blkb b7 z4,hnO _ (by have:=blk_lt z4;omega)⟩,⟨blkb b7 z5,hnO _ (by have:=blk_lt z5;omega)⟩,⟨blkb b7 z6,hnO _ (by have:=blk_lt z6;omega)⟩,⟨blkb b7 z7,hnO _ (by have:=blk_lt z7;omega)⟩,⟨blkb b7 z8,hnO _ (by have:=blk_lt z8;omega)⟩,⟨blkb b7 z9,hnO _ (by have:=blk_lt z9;omega)⟩⟩
 have c4:=blk_cell z4 0
 have c5:=blk_cell z5 0
 have c6:=blk_cell z6 0
 have c7:=blk_cell z7 0
 have q4:=hQ.cells.1
 simp only [List.getElem?_toArray,List.getElem?_cons_zero,List.getElem?_cons_succ] at c4 c5 c6 c7
 have b07:=below_step b06 b7
 have HMY:=Aside0.mk (smay_calls (show StoAt W6 s b from blkb b06 hst))
 have HRG:=Aside0.mk (ranged_calls (w:=W6) sr lo hi h0 h1 h2)
 have hst7:StoAt W7 s b:=blkb b07 hst
 have hc1:=(sto_cell W7 hst7).1
 have HBE:=Aside0.mk (bentries_calls (w:=W7) b)
 have HX:=Aside0.mk (And.intro hO7 (And.intro hQ (And.intro b07 (And.intro hst7 (And.intro (show w.heap.size≤gO by have:=b06.size;omega) (And.intro (show w.heap.size≤g8 by have:=below_size (below_step (below_step (below_step b1 b2) b3) b4);omega) (show g8<g9∧g9<gO from ⟨by have:=blk_lt z8;rw [← hg8,← hg9,← hW5];simp,by have:=blk_lt z9;omega⟩)))))))
 have HH:=Aside0.mk (And.intro H (And.intro hl (And.intro hall hst)))
 clear b1 b2 b3 b4 b5 b6 b7 z4 z5 z6 z7 z8 z9 b06 hO7 hnO hQ b07 hst7 H hl hall h0 h1 h2 hst
 refine callsIn_of_wp_marks Tryz.func10 rfl trivial ?_ rfl
 simp only [Tryz.ntmps10,List.size_toArray,List.length_cons,List.length_nil,Nat.reduceAdd,Nat.reduceSub,Array.replicate_succ,Array.replicate_zero,List.push_toArray,List.append_toArray,List.nil_append,List.cons_append]
 refine wpIn_wide.2 ?_
 go_wp2_with (first
  | (go_at_call 31;(with_reducible refine HMY.out.mono ?_);rintro r w1 ⟨rfl,rfl⟩)
  | (go_at_call 32;(with_reducible refine HRG.out.mono ?_);rintro r w1 ⟨rfl,rfl⟩)
  | (go_at_call 33;(with_reducible refine HBE.out.mono ?_);rintro r w4 ⟨gb,rfl,hgb,hgbs,hb4⟩;refine hold ?_))
 unfold Hold
 obtain ⟨x1,x2,x3,x4,x5,x6,x7⟩:=HX.out
 have hf4:FrT wT w w4:=(FrT.of_below x3 wT).below hb4
 have hO4:=x1.below hb4
 have hbO:Ob wT gO W7:=x1.obT (by decide)
 have hbO4:Ob wT gO w4:=hO4.obT (by decide)
 have hQ4:=x2.kp (hbO.kp (FrT.of_below hb4 wT)) (fun _ h=>h)
 have hgbn:¬ Ow gO w4 gb:=hbO.new (FrT.of_below hb4 wT) hgbs
 have hst4:StoAt w4 s b:=blkb hb4 x4
 have HG:=Aside0.mk (And.intro x5 (And.intro x6 x7))
 clear x1 x2 x3 x4 x5 x6 x7 c4 c5 c6 c7 q4 hc1 HMY HRG HBE HX hW1 hW2 hW3 hW4 hW5 hW6 hW7 hg4 hg5 hg6 hg7 hg8 hg9 hgO hbO hgbs hb4
 go_wp2
 refine (wpIn_wide (n:=20)).1 ?_
 refine rf_law (F:=Fence.wide) (n:=20) rfl (by decide) (gf:=70) (lb:=#[.pointer (some ⟨gb,0,none⟩)]) rfl trivial (enters_of Tryz.func70 (by kernel_rfl) rfl)
  (bseq (n:=19) (Iv:=fun W=>IvB gO b d N sp m v f W) ⟨hgb,hgbn⟩ hbO4 HH.out.1.mm.len HH.out.1.tr (fun p hp=>(HH.out.1.us.b p (List.mem_append_left _ hp)).2) HH.out.2.1 (fun _ h=>h))
  (fun h k=>KpT.trans h k) ?kb (Below.refl _ _) (fun _=>rfl)
  (fun pre W=>FrT wT w W∧QBx gO W s g4 g5 g6 g7 g8 g9 sr lo hi ∧ ∃ v,OutO W w.heap.size gO 33 35 2 v (ofS sr pre).length ((ofS sr pre).flatMap smC))
  ?own ?abt (fun pre A h=>by obtain ⟨h1,-,v2,h2⟩:=h;exact HH.out.1.iv h1 (h2.obT (by decide)) HH.out.2.1) ⟨hf4,hQ4,_,hO4⟩
  (fun x a' W=>∃ gx,EnAt W gx x∧a' = { tmps:=#[.pointer (some ⟨s,0,none⟩),.int .i64 sr,.int .i64 lo,.int .i64 hi,.pointer (some ⟨g4,0,none⟩),.pointer (some ⟨g5,0,none⟩),.pointer (some ⟨g6,0,none⟩),.pointer (some ⟨g7,0,none⟩),.pointer (some ⟨g8,0,none⟩),.pointer (some ⟨g9,0,none⟩),.int .i64 0,.int .i64 0,.pointer (some ⟨gO,0,none⟩),.pointer (some ⟨gx,0,none⟩),.int .i64 0,undef,undef,undef,undef,.pointer (some ⟨s,0,none⟩),.int .i64 0,.int .i64 0,.bool false,undef,.int .i64 sr,.int .i64 lo,.int .i64 hi,.int .i64 0,.int .i64 0,.bool false,undef,.pointer (some ⟨s,0,none⟩),.pointer (some ⟨s,0,none⟩),.pointer (some ⟨s,0,none⟩),.pointer (some ⟨b,0,none⟩),.func (.func 70) #[] #[.pointer (some ⟨gb,0,none⟩)],.agg (enA x),.int .i64 0,undef,undef,undef,undef,undef,undef,undef,undef,undef,undef,undef,undef,undef,undef,undef,undef,undef,undef,undef,undef,undef,undef,undef,undef,undef,undef,undef,undef,undef,undef,undef,undef,undef,undef,undef,undef,undef,undef,undef,undef,undef,undef,undef,undef],defers:=[] })
  ?ax ?assign ?body ?done
 case kb=>
  intro W2 l2 o o' hl2 hW2 ho hw
  exact Ob.put (by have:=hbO4.lt;omega) hW2 ho
 case own=>
  rintro pre X Y row ⟨h1,h2,v2,h4⟩ hg hr
  have hr1:∀ r,row=some r → ∃ o:Obj,X.heap[r]?=some o∧o.isCells=false:=fun r e=>(hr r e).2
  exact ⟨h1.slot hg (fun r e=>by have:=(hr r e).1;have:=hf4.size;omega),h2.grown hg hr1 ⟨_,_,_,h4.b⟩,v2,h4.grown hg hr1⟩
 case abt=>
  rintro pre X Y ⟨h1,h2,v2,h4⟩ hf
  exact ⟨h1.trans hf,h2.kp ((h4.obT (T:=wT) (by decide)).kp hf) (fun _ h=>h),v2,h4.frT hf (by decide) (by decide)⟩
 case ax=>
  rintro x a'-X Y row ⟨gx,h1,h2⟩ hg hr
  exact ⟨gx,slot_cells hg (fun r e=>(hr r e).2) h1,h2⟩
 case assign=>
  rintro l2 pre x W2 K ⟨h1,h2,v2,h4⟩ hK
  have hst:=st_en x W2
  obtain ⟨gx,hgx⟩:∃ q,W2.heap.size=q:=⟨_,rfl⟩
  obtain ⟨W3,hW3⟩:∃ W,W2.alloc (Obj.cells (enA x) 89)=W:=⟨_,rfl⟩
  have hbW:Below W2.heap.size W2 W3:=by rw [← hW3];exact below_alloc (Below.refl _ _) _
  have hxW:EnAt W3 gx x:=by rw [← hW3];exact en_new x hgx
  have hK':=Aside0.mk hK
  have HI:=Aside0.mk (And.intro hbW (And.intro hxW (And.intro h1 (And.intro h2 h4))))
  rw [hgx,hW3] at hst
  clear hK h1 h2 h4 hbW hxW
  simp only [encN]
  gi_wp2
  obtain ⟨i1,i2,i3,i4,i5⟩:=HI.out
  have hk:KpT [] gO W2 W3:=(i5.obT (T:=[]) (by simp)).kp (FrT.of_below i1 [])
  exact hK'.out _ W3 ((FrT.of_below i1 []).keeps _) hk ⟨i3.below i1,i4.kp hk (by simp),v2,i5.below i1⟩ ⟨gx,i2,rfl⟩
 case body=>
  rintro l2 pre x a' W2 ⟨h1,h2,v2,h4⟩ ⟨gx,hx,rfl⟩ hp
  have hxe:x∈es:=hp.subset (by simp)
  have hpl:pre.length+1≤90:=by have:=hp.length_le;rw [List.length_append] at this;have:=HH.out.2.1;simp at *;omega
  obtain ⟨a1,a2,a3⟩:=HH.out.2.2.1 x hxe
  have HM:=Aside0.mk (smeets_calls (w:=W2) x sr lo hi a1 a2)
  obtain ⟨q4,q5,q6,q7⟩:=h2.cells
  have hle:=ld_en_en W2 hx
  obtain ⟨rb,hrb⟩:∃ r,(x.k.s == sr)=r:=⟨_,rfl⟩
  rw [hrb] at HM
  have HI:=Aside0.mk (And.intro h1 (And.intro h2 (And.intro h4 (And.intro hx (And.intro hxe (And.intro hpl (And.intro hrb (And.intro a1 a3))))))))
  clear h1 h2 h4 hx hp hxe hpl hrb a1 a2 a3 hf4 hO4 hbO4 hQ4 hgbn hst4 hgb
  gi_wp2_with ((first | refine ⟨trivial,(fun h=>by cases h),?_⟩ | refine ⟨trivial,?_⟩);gi_at_call 34;(with_reducible refine (CallsIn.inRound l2 (callsIn_wide.2 HM.out)).mono ?_);rintro r w5 ⟨rfl,hb5⟩;refine hold ?_)
  unfold Hold
  obtain ⟨h1,h2,h4,hx,hxe,hpl,hrb,a1,a3⟩:=HI.out
  have hk:=(h4.obT (T:=[]) (by simp)).kp (FrT.of_below hb5 [])
  have hkf:=(FrT.of_below hb5 []).keeps w4.heap.size
  have hof:=ofS_one sr pre x
  rw [hrb] at hof
  rcases rb with _ | _
  ·have HK:=Aside0.mk (And.intro hkf (And.intro hk (And.intro (h1.below hb5) (And.intro (h2.kp hk (by simp)) (h4.below hb5)))))
   have hof':ofS sr (pre++[x])=ofS sr pre:=by rw [hof];simp
   have HO:=Aside0.mk hof'
   clear h1 h2 h4 hx hxe hpl hrb a1 a3 hk hkf hof hof' q4 q5 q6 q7 hle HI HM hb5
   gi_wp2
   obtain ⟨k1,k2,k3,k4,k5⟩:=HK.out
   exact ⟨k1,k2,k3,k4,v2,by rw [HO.out];exact k5⟩
  ·have k1:=h1.below hb5
   have hd1:Below w5.heap.size w5 w5.drew:=below_drew (Below.refl _ _)
   have hx5:EnAt w5.drew gx x:=(hx.below hb5).below hd1
   obtain ⟨bs,r1,r2,r3,r4,r5,r6,r7,r8⟩:=HH.out.1.ch x hxe
   have hg:=HH.out.1.g x hxe
   have hpN:=(HH.out.1.us.b x.p (by simp only [List.mem_append,List.mem_cons,List.mem_map];exact Or.inr (Or.inr ⟨x,hxe,rfl⟩))).2
   have HSA:=Aside0.mk (samples_calls (w:=w5.drew) (b:=b) (codec:=x.c) (x:=x) (sm:=smE x) r2 rfl r7 rfl hg.2 r8 (fun W hW=>by
    have hfW:FrT wT w W:=(k1.below hd1).below hW
    exact bytes_calls (hfW.blk HH.out.1.ba (by decide)) HH.out.1.mm.len (HH.out.1.dt.frT hfW (by decide)) hg.1 hpN r1 r2 r4 r6))
   have hst5:StoAt w5.drew s b:=(k1.below hd1).blk HH.out.2.2.2 (by decide)
   have hc5:=(sto_cell w5.drew hst5).1
   have k2:=h2.kp hk (by simp)
   have hQd:=k2.kp (((h4.below hb5).obT (T:=[]) (by simp)).kp (FrT.of_below hd1 [])) (by simp)
   have p4:=hQd.cells.1
   have hle5:=ld_en_en w5.drew hx5
   have HK:=Aside0.mk (And.intro hkf (And.intro hk (And.intro k1 (And.intro k2 (And.intro (h4.below hb5) (And.intro hpl (And.intro hof (And.intro a1 a3))))))))
   clear h1 h2 h4 hx hxe hpl hrb a1 a3 hk hkf hof q4 q5 q6 q7 hle HI HM hb5 k1 k2 hx5 r1 r2 r3 r4 r5 r6 r7 r8 hg hpN hst5 hQd
   gi_wp2
   apply leaf_cutA (fun W A c=>RSm W A [smE x]∧1≤c∧Below w5.heap.size w5 W)
   ·intro hkey
    gi_region_with ((first | refine ⟨trivial,(fun h=>by cases h),?_⟩ | refine ⟨trivial,?_⟩);gi_at_call 35;(with_reducible refine (CallsIn.inRound l2 (callsIn_wide.2 HSA.out)).mono ?_);rintro r w6 ⟨A6,c6,rfl,hr6,hc6,hb6⟩)
    all_goals
     exact hkey w6 A6 c6 ⟨hr6,hc6,below_step hd1 hb6⟩
   ·rintro w6 A6 c6 ⟨hr6,hc6,hb6⟩
    obtain ⟨kf,kp,k1,k2,k4,kl,ko,a1,a3⟩:=HK.out
    have hkp6:=(k4.obT (T:=[]) (by simp)).kp (FrT.of_below hb6 [])
    have m1:=k1.below hb6
    have m2:=k2.kp hkp6 (by simp)
    have m4:=k4.below hb6
    have mf:=kf.trans ((FrT.of_below hb6 []).keeps w4.heap.size)
    have mp:=kp.trans hkp6
    obtain ⟨n,hn⟩:∃ n,(ofS sr pre).length=n:=⟨_,rfl⟩
    obtain ⟨L,hL⟩:∃ L,(ofS sr pre).flatMap smC=L:=⟨_,rfl⟩
    rw [hn,hL] at m4
    have hn90:n≤90:=by have:=ofS_len sr pre;omega
    obtain ⟨gA,oA,hA,hcc⟩:=hr6.at_ (j:=0) (x:=smE x) rfl
    have hld:=ld_sm hcc
    rw [Nat.zero_mul,Nat.add_zero] at hld
    subst hA
    have HM:=Aside0.mk (And.intro m1 (And.intro m2 (And.intro m4 (And.intro mf (And.intro mp (And.intro ko (And.intro hn (And.intro hL hn90))))))))
    have d3:decide (lo≤x.k.a)=true:=decide_eq_true a3
    have d4:decide (x.k.a≤hi)=true:=decide_eq_true a1
    have d5:(0<(c6:Int))=True:=eq_true (by omega)
    clear kf kp k1 k2 k4 kl ko a1 a3 hkp6 m1 m2 m4 mf mp hn hL hn90 hcc hr6 hb6 HK HSA hc5 p4 hle5 hd1
    gi_wp2
    gi_loopw [62] (fun v62 wr=>(v62 = .int .i64 0∧wr=w6)∨(v62 = .int .i64 1∧Aside0 (FrT wT w wr∧KpT [] gO w6 wr∧KeepsFrom w4.heap.size w6 wr ∧ ∃ v3,OutO wr w.heap.size gO 33 35 2 v3 (n+1) (L++smC (smE x))))) (fun v62 _=>(1-intOf v62).toNat)
    case atStart=>exact .inl ⟨rfl,rfl⟩
    case round=>
     rcases hrel with ⟨rfl,rfl⟩ | ⟨rfl,HR⟩
     ·have hst:=st_sm (smE x) wr
      obtain ⟨gy,hgy⟩:∃ q,wr.heap.size=q:=⟨_,rfl⟩
      obtain ⟨w7,hw7⟩:∃ W,wr.alloc (Obj.cells (smA (smE x)) 35)=W:=⟨_,rfl⟩
      have hb7:Below wr.heap.size wr w7:=by rw [← hw7];exact below_alloc (Below.refl _ _) _
      have hy7:w7.heap[gy]?=some (Obj.cells (smA (smE x)) 35):=by rw [← hw7];exact newb hgy
      rw [hgy,hw7] at hst
      have cy:w7.cell? ⟨gy,0,none⟩=some (.int .i64 x.k.a):=by have:=blk_cell hy7 0;simpa [smA,smC,smE] using this
      have hly:(loadSmI (.pointer (some ⟨gy,0,none⟩))).run Tryz.prog w7 = .ok (.agg #[.int .i64 x.k.a,.int .u64 x.k.a]) w7:=ld_sm (g:=gy) (o:=0) (s:=smE x) (fun j u hu=>by rw [Nat.zero_add,blk_cell hy7 j];simpa [smA] using hu)
      have m2:=HM.out.2.1.kp ((HM.out.2.2.1.obT (T:=[]) (by simp)).kp (FrT.of_below hb7 [])) (by simp)
      have m4:=HM.out.2.2.1.below hb7
      obtain ⟨-,-,p6,p7⟩:=m2.cells
      obtain ⟨A3,c3,hv3,hc3⟩:=m4.val
      subst hv3
      have pO:=blk_cell m4.b 0
      simp only [List.getElem?_toArray,List.getElem?_cons_zero,List.getElem?_cons_succ] at pO
      have e9:wrap64 (0+1)=1:=wrap64_id (by omega) (by omega)
      obtain ⟨i0,hi,hz0,hz1,hz2⟩:=info_parts info_s
      have HI0:=Aside0.mk (And.intro hi (And.intro hz0 (And.intro hz1 hz2)))
      have H7:=Aside0.mk (And.intro m4 hb7)
      clear hi hz0 hz1 hz2 m2 m4 hb7 hy7 hc3
      gi_wp2_with (gi_at_builtin;refine wpListIn_append_own_at _ rfl _ _ 33 rfl w.heap.size 35 i0 _ 2 16 Tryz.underlying33 HI0.out.1 HI0.out.2.1 HI0.out.2.2.1 HI0.out.2.2.2 rfl (by decide) _ n L rfl (H7.out.1.r.alloc _) ⟨w7.heap.size,0,none⟩ 1 1 [.int .i64 x.k.a,.int .u64 x.k.a] rfl rfl (by simpa using World.news_of_block (cs:=#[Value.int .i64 x.k.a,.int .u64 x.k.a]) (t:=35) (fr:=(0,0)) (heap_alloc_new w7 (.cells #[.int .i64 x.k.a,.int .u64 x.k.a] 35))) (by simp [Value.oneCell']) (by simp only [maxLen];have:=HM.out.2.2.2.2.2.2.2.2;omega) (by have:=HM.out.2.2.2.2.2.2.2.2;omega) (by have:=HM.out.1.size;have:=H7.out.2.size;simp;omega) ?_;intro v9 w9 hown9 hgrow9 hnil9 hat9;refine hold ?_)
      unfold Hold
      obtain ⟨q1,q2,q3,q4,q5⟩:=H7.out.1.push (T:=wT) (by decide) (below_alloc (Below.refl _ w7) _) hown9 hgrow9 hat9
      obtain ⟨A9,c9,hv9,hc9⟩:=q2.val
      subst hv9
      have e1:=blk_cell q1 0
      have f1:=blk_frozen q1 0
      simp only [List.getElem?_toArray,List.getElem?_cons_zero,List.getElem?_cons_succ] at e1
      have hk7:=(HM.out.2.2.1.obT (T:=[]) (by simp)).kp (FrT.of_below H7.out.2 [])
      have HQ:=Aside0.mk (And.intro (q5 (HM.out.1.below H7.out.2) HG.out.1 (Nat.le_refl _)) (And.intro (hk7.trans q3) (And.intro (((FrT.of_below H7.out.2 []).keeps w4.heap.size).trans (q4.keeps _)) q2)))
      clear q1 q2 q3 q4 q5 hown9 hgrow9 hnil9 hat9 hc9 hk7 pO hly cy hst hld p6 p7
      gi_wp2
      go_roundw
      case rel=>exact .inr ⟨rfl,⟨HQ.out.1,HQ.out.2.1,HQ.out.2.2.1,_,HQ.out.2.2.2⟩⟩
      case measure=>simp [intOf]
     ·gi_wp2
      obtain ⟨r1,r2,r3,v3,r4⟩:=HR.out
      obtain ⟨m1,m2,m4,mf,mp,mo,mn,mL,m90⟩:=HM.out
      refine ⟨mf.trans r3,mp.trans r2,r1,m2.kp r2 (by simp),v3,?_⟩
      rw [mo,if_pos trivial,List.length_append,List.flatMap_append,mn,mL]
      simpa using r4
 case done=>
  rintro D W2 hD ⟨h1,h2,v2,h4⟩ hK
  obtain ⟨A2,c2,hv2,hc2⟩:=h4.val
  subst hv2
  obtain ⟨n,hn⟩:∃ n,(ofS sr es).length=n:=⟨_,rfl⟩
  have HN:=Aside0.mk hn
  rw [hn] at h4 hc2
  have c1:=blk_cell h4.b 0
  have k2:=blk_cell h2.b8.b 0
  have f2:=blk_frozen h2.b8.b 0
  simp only [List.getElem?_toArray,List.getElem?_cons_zero,List.getElem?_cons_succ] at c1 k2
  obtain ⟨x5,x6,x7,x8⟩:=HG.out
  have hne:g8≠g9:=by omega
  have b2:=blk_set h2.b8.b 0 (.slice A2 n c2)
  have b3:=blk_far h2.b9.b (p:=⟨g8,0,none⟩) (by simpa using hne.symm) (.slice A2 n c2)
  have j3:=blk_cell b3 0
  have m3:=blk_frozen b3 0
  simp only [List.getElem?_toArray,List.getElem?_cons_zero,List.getElem?_cons_succ] at j3
  obtain ⟨W3,hW3⟩:∃ W,W2.setCell ⟨g8,0,none⟩ (.slice A2 n c2)=W:=⟨_,rfl⟩
  have hK3:W3.heap[D]?=some (.deferred (some [])):=by rw [← hW3];exact (KeepsOthers.setCell W2 ⟨g8,0,none⟩ _).same D _ hK rfl
  have hf3:FrT wT w W3:=by rw [← hW3];exact h1.setNew (by omega) 0 _
  have hfs:FrT [33,23] W2 (W3.setCell ⟨g9,0,none⟩ (.int .i64 0)):=by
   rw [hW3] at b3
   have h5:FrT [33,23] W2 W3:=by rw [← hW3];exact (FrT.refl _ _).setCell h2.b8.b (by decide) _ _
   exact h5.setCell b3 (by decide) _ _
  rw [hW3] at b2 b3 j3 m3
  have b2':=blk_far b2 (p:=⟨g9,0,none⟩) (by simpa using hne) (.int .i64 0)
  have b3':=blk_set b3 0 (.int .i64 0)
  have hK4:=(KeepsOthers.setCell W3 ⟨g9,0,none⟩ (.int .i64 0)).same D _ hK3 rfl
  have hf4':=hf3.setNew (g:=g9) (by omega) 0 (.int .i64 0)
  have hD2:∀ (g:Nat) (cs:Array Value) (t:TypeId) (fr:Nat×Nat) (W:World),W.heap[D]?=some (.deferred (some []))→W.heap[g]?=some (Obj.cells cs t fr)→(W.putObj D (.deferred none)).heap[g]?=some (Obj.cells cs t fr):=fun g cs t fr W e1 e2=>(World.putObj_heap_other (fun e=>by rw [e,e1] at e2;cases e2)).trans e2
  have hown:=own_at h4.r (W2:=(W3.setCell ⟨g9,0,none⟩ (.int .i64 0)).putObj D (.deferred none)) (fun g cs _ hh=>hD2 _ _ _ _ _ hK4 (hfs.blk hh (by decide)))
  have q2:=blk_cell (hD2 _ _ _ _ _ hK4 b2') 0
  have q3:=blk_cell (hD2 _ _ _ _ _ hK4 b3') 0
  have HZ:=Aside0.mk (And.intro hK4 (And.intro hf4' (And.intro hown (And.intro q2 (And.intro q3 (And.intro hc2 (show w.heap.size≤D by have:=hf4.size;omega)))))))
  clear b2 b3 b2' b3' hK4 hf4' hown q2 q3 hD2 hfs h1 h2 h4 hK hK3 hf3
  go_wp2
  obtain ⟨hK4,hf4',hown,q2,q3,hc2,hDw⟩:=HZ.out
  refine ⟨by simp,.inl ⟨_,_,rfl,run_takeDeferred hK4,?_⟩⟩
  refine ⟨.tuple #[.slice A2 n c2,.int .i64 0],?_,⟨A2,c2,by rw [HN.out],rsm_of (base:=w.heap.size) (c:=c2) (by rw [HN.out];exact hown) (by have:=ofS_len sr es;have:=HH.out.2.1;omega),by rw [HN.out];exact hc2⟩,hf4'.slot (grownBy_putObj' _ D (.deferred none)) (fun k e=>by cases e;omega)⟩
  obtain ⟨W5,hW5⟩:∃ W,(W3.setCell ⟨g9,0,none⟩ (.int .i64 0)).putObj D (.deferred none)=W:=⟨_,rfl⟩
  rw [hW5] at q2 q3 ⊢
  have q2':W5.cell? ⟨g8,0,none⟩=some (.slice A2 n c2):=q2
  have q3':W5.cell? ⟨g9,0,none⟩=some (.int .i64 0):=q3
  clear q2 q3 hW5 hK4 hf4' hown c1 k2 j3 m3 f2
  simp [results,Tryz.f10,go_sem,q2',q3']
theorem query_calls [Inhabited Sanct] {w:World} {s b d N:Nat} {es:List En} {sr lo hi:Int} (h:StOk ChD w s b d N es) (hl:es.length≤90) (h0:0≤sr) (h1:sr≤4294967295) (h2:lo≤hi) (hall:∀ e∈es,e.k.a≤hi∧lo≤e.z∧lo≤e.k.a) :
  Calls Tryz.prog 10 #[.pointer (some ⟨s,0,none⟩),.int .i64 sr,.int .i64 lo,.int .i64 hi] w fun r w'=>(∃ A c,r = .returned (.tuple #[.slice A (ofS sr es).length c,.int .i64 0])∧RSm w' A (ofS sr es)∧(ofS sr es).length≤c)∧FrT wT w w':=callsIn_wide.1 (query_in h hl h0 h1 h2 hall)
end
def atI (x:Int):Int:=(x.tmod 128+128).tmod 128
theorem atI_r (x:Int):0≤atI x∧atI x<128∧atI x=x % 128:=by
 unfold atI
 have h1:-128<x.tmod 128∧x.tmod 128<128∧(x.tmod 128) % 128=x % 128:=by
  rw [Int.tmod_eq_emod]
  split<;>omega
 rw [Int.tmod_eq_emod_of_nonneg (by omega)]
 omega
theorem odd128:∀ s:Fin 50,∀ d:Fin 128,d.val≠0→(d.val*(2*s.val+1)) % 128≠0:=by decide +kernel
theorem atI_lt (s:Nat) (hs:s<50) (c:Int) (i j:Nat) (hij:i<j) (hj:j<128):atI ((i:Int)*(2*s+1)+c)≠atI ((j:Int)*(2*s+1)+c):=by
 intro h
 rw [(atI_r _).2.2,(atI_r _).2.2] at h
 obtain ⟨d,rfl⟩:∃ d,j=i+d:=⟨j-i,by omega⟩
 have h2:=odd128 ⟨s,hs⟩ ⟨d,by omega⟩ (by show d≠0;omega)
 have h2:(d*(2*s+1)) % 128≠0:=h2
 have h3:(((d*(2*s+1):Nat):Int)) % 128=0:=by
  rw [show (((d*(2*s+1):Nat):Int))=(d:Int)*(2*s+1) by simp]
  rw [show (((i+d:Nat):Int))*(2*(s:Int)+1)=(i:Int)*(2*s+1)+(d:Int)*(2*s+1) by rw [Int.natCast_add,Int.add_mul]] at h
  generalize (i:Int)*(2*s+1)=p at *
  generalize (d:Int)*(2*s+1)=q at *
  omega
 omega
theorem sum3:∀ es:List En,(∀ e∈es,e.k.s=0∨e.k.s=1∨e.k.s=2)→(ofS 0 es).length+(ofS 1 es).length+(ofS 2 es).length=es.length
 | [],_=>rfl
 | e :: es,h=>by
  have ih:=sum3 es (fun x hx=>h x (List.mem_cons_of_mem _ hx))
  unfold ofS at ih ⊢
  simp only [List.length_map] at ih ⊢
  rcases h e List.mem_cons_self with h | h | h<;>simp [List.filter,h]<;>omega
theorem ofS_at {sr:Int} {es:List En} {j:Nat} {s:Sm} (h:(ofS sr es)[j]?=some s):∃ e∈es,e.k.s=sr∧s=smE e:=by
 unfold ofS at h
 rw [List.getElem?_map] at h
 cases hf:(es.filter (fun e=>e.k.s == sr))[j]? with
 | none=>rw [hf] at h;cases h
 | some e=>
  rw [hf] at h
  have hm:=List.mem_filter.1 (List.mem_of_getElem? hf)
  exact ⟨e,hm.1,by simpa using hm.2,(by simpa using h.symm)⟩
theorem ofS_sorted {sr:Int} {es:List En} (h:Sp es):(ofS sr es).Pairwise (fun a b=>a.a<b.a):=by
 unfold ofS
 rw [List.pairwise_map]
 have h2:(es.filter (fun e=>e.k.s == sr)).Pairwise (fun x y=>lessB x.k y.k=true):=h.filter _
 refine List.Pairwise.imp_of_mem ?_ h2
 intro a b ha hb hl
 have h3:a.k.s=sr:=by simpa using (List.mem_filter.1 ha).2
 have h4:b.k.s=sr:=by simpa using (List.mem_filter.1 hb).2
 unfold lessB at hl
 rw [h3,h4] at hl
 simp only [smE,Int.lt_irrefl,decide_false,Bool.false_or,Bool.and_eq_true,decide_eq_true_eq] at hl ⊢
 exact hl.2
theorem ofS_next {sr:Int} {es:List En} (h:Sp es) {j:Nat} {a b:Sm} (ha:(ofS sr es)[j]?=some a) (hb:(ofS sr es)[j+1]?=some b):a.a<b.a:=by
 obtain ⟨h1,rfl⟩:=List.getElem?_eq_some_iff.1 ha
 obtain ⟨h2,rfl⟩:=List.getElem?_eq_some_iff.1 hb
 exact List.pairwise_iff_getElem.1 (ofS_sorted h) _ _ h1 h2 (Nat.lt_succ_self j)
section
open Go.Proofs.YtnhkikebfinejaaGreatDoorW.PrintWords Go.Proofs.YtnhkikebfinejaaGreatDoorW.PrintLast Go.Proofs.YtnhkikebfinejaaGreatDoorW.PrintMore Go.Proofs.YtnhkikebfinejaaGreatDoor.X
attribute [local go_sem ↓] Go.wp_at_zero Go.wp_at_succ
def Gv (W:World) (bs:List Int) (r:Ending) (w':World):Prop:=∃ v,r = .returned v∧Kd.R (Kd.int .u8) 5 w' W.heap.size (fun _=>True) v bs∧Below W.heap.size W w'
def Gv0 (W:World) (bs:List Int) (r:Ending) (w':World):Prop:=∃ v,r = .returned (.tuple #[v,.int .i64 0])∧Kd.R (Kd.int .u8) 5 w' W.heap.size (fun _=>True) v bs∧Below W.heap.size W w'
theorem traw_calls {w:World} (x:Int) (hx:0≤x) :
  Calls Tryz.prog 146 #[.slice none 0 0,.int .u64 x] w (Gv w (low x 8)):=by
 obtain ⟨E,hE⟩:∃ E,low x 8=E:=⟨_,rfl⟩
 have HE:=Aside0.mk hE
 have HL8:Aside0 (E.length=8):=⟨by rw [← hE,low_len]⟩
 rw [hE]
 clear hE
 go_enter Tryz.func146,Tryz.ntmps146
 go_wp2
 go_loopw [0,5] (fun v0 v5 wr=>∃ (r:Nat) (ii:Int) (L:List Int),v5 = .int .i64 ii∧Aside0 (ii=(r:Int)-1)∧Aside0 (r≤8∧L++low x r=E)∧Aside0 (Kd.R (Kd.int .u8) 5 wr w.heap.size (fun _=>True) v0 L)∧Aside0 (Below w.heap.size w wr)) (fun _ v5 _=>(intOf v5+1).toNat)
 case atStart=>exact ⟨8,_,[],rfl,⟨rfl⟩,⟨Nat.le_refl _,HE.out⟩,⟨Kd.R_nil _ _ _ _ _⟩,⟨Below.refl _ _⟩⟩
 case round=>
  obtain ⟨r,ii,L,rfl,HI,HL,HO,HB⟩:=hrel
  obtain ⟨A0,c0,rfl⟩:=Kd.R_slice HO.out
  cases r with
  | zero=>
   have d1:decide (0≤ii)=false:=decide_eq_false (by have:=HI.out;omega)
   go_wp2
   go_ret
   refine ⟨_,rfl,?_,HB.out⟩
   have:=HL.out.2
   rw [low,List.append_nil] at this
   rw [← this]
   exact HO.out
  | succ q=>
   have hq8:q<8:=by have:=HL.out.1;omega
   have hiq:ii=(q:Int):=by have:=HI.out;omega
   have HIQ:=Aside0.mk hiq
   have hi0:0≤ii∧ii<8:=by omega
   have d1:decide (0≤ii)=true:=decide_eq_true hi0.1
   have e5:wrap64 (ii-1)=ii-1:=wrap64_id (by omega) (by omega)
   obtain ⟨j,hj⟩:∃ j:Int,8*ii=j:=⟨_,rfl⟩
   have hji:j=((8*q:Nat):Int):=by omega
   have e6:wrap64 (8*ii)=j:=by rw [hj];exact wrap64_id (by omega) (by omega)
   have e7:IntKind.i64.wrap (8*ii)=j:=(i64_w _).trans e6
   obtain ⟨y,hy⟩:∃ y:Int,x / 2 ^ (8*q)=y:=⟨_,rfl⟩
   have e8:x / 2 ^ min j.toNat 64=y:=by rw [hji,Int.toNat_natCast,Nat.min_eq_left (by omega)];exact hy
   have e9:x / 2 ^ j.toNat=y:=by rw [hji,Int.toNat_natCast];exact hy
   have e10:(0≤j)=True:=eq_true (by omega)
   have e11:decide (0≤j)=true:=decide_eq_true (by omega)
   have HY:=Aside0.mk hy
   clear hiq hji hy hj
   go_wp2_with ((with_reducible refine gate_builtin (b:=.append) (xs:=#[.tmp 10,.tmp 16]) rfl ?_);at_builtin;refine hold ?_)
   unfold Hold
   refine Kd.R_append (Kd.int .u8) (w0:=w) w.heap.size rfl (.tmp 10) (.tmp 16) 46 5 (.int .u8 0) 1 rfl Tryz.underlying46 info_u8 rfl (by decide) (by decide) _ L (y % 256) [.int .u8 (y % 256)] (fun _=>True) (fun _=>False) rfl rfl rfl (fun _ hk=>hk.elim) (fun _ _=>trivial) HO.out HB.out HB.out.size (by have h:=congrArg List.length HL.out.2;have:=HL8.out;rw [List.length_append] at h;omega) ?_
   intro v9 w9 ho hb hg hat
   have HO9:=Aside0.mk ho
   have HB9:=Aside0.mk hb
   clear ho hb hg hat
   go_wp2
   go_roundw
   case rel=>exact ⟨q,_,L++[y % 256],rfl,⟨by have:=HIQ.out;omega⟩,⟨by omega,by rw [← HL.out.2,List.append_assoc,low,HY.out];rfl⟩,HO9,HB9⟩
   case measure=>simp [intOf];have:=HI.out;omega
theorem craw_calls {w:World} {A:Option Addr} {c:Nat} (x:Int) (hx:0≤x) (hr:Kd.C (Kd.int .u64) w A 1 [x]) (hc:1≤c) :
  Calls Tryz.prog 149 #[.slice A 1 c] w (Gv w (low x 8)):=by
 obtain ⟨E,hE⟩:∃ E,low x 8=E:=⟨_,rfl⟩
 have HE:=Aside0.mk hE
 have HL8:Aside0 (E.length=8):=⟨by rw [← hE,low_len]⟩
 rw [hE]
 obtain ⟨ad,e,hx0⟩:=Kd.at_int hr 0 (by omega) (by decide)
 cases e
 replace hx0:w.cell? (ad.add 0)=some (.int .u64 x):=hx0
 have hx1:w.cell? ad=some (.int .u64 x):=by
  cases ad
  simpa [Addr.add] using hx0
 clear hx0
 clear hE hr hc
 go_enter Tryz.func149,Tryz.ntmps149
 go_wp2
 refine wp_loop_rounds 2 ?_
 rw [rounds_succ]
 go_wp2
 go_loopw [3,6] (fun v0 v5 wr=>∃ (r:Nat) (ii:Int) (L:List Int),v5 = .int .i64 ii∧Aside0 (ii=(r:Int)-1)∧Aside0 (r≤8∧L++low x r=E)∧Aside0 (Kd.R (Kd.int .u8) 5 wr w.heap.size (fun _=>True) v0 L)∧Aside0 (Below w.heap.size w wr)) (fun _ v5 _=>(intOf v5+1).toNat)
 case atStart=>exact ⟨8,_,[],rfl,⟨rfl⟩,⟨Nat.le_refl _,HE.out⟩,⟨Kd.R_nil _ _ _ _ _⟩,⟨Below.refl _ _⟩⟩
 case round=>
  obtain ⟨r,ii,L,rfl,HI,HL,HO,HB⟩:=hrel
  obtain ⟨A0,c0,rfl⟩:=Kd.R_slice HO.out
  cases r with
  | zero=>
   have d1:decide (0≤ii)=false:=decide_eq_false (by have:=HI.out;omega)
   go_wp2
   rw [rounds_succ]
   go_wp2
   go_ret
   refine ⟨_,rfl,?_,HB.out⟩
   have:=HL.out.2
   rw [low,List.append_nil] at this
   rw [← this]
   exact HO.out
  | succ q=>
   have hq8:q<8:=by have:=HL.out.1;omega
   have hiq:ii=(q:Int):=by have:=HI.out;omega
   have HIQ:=Aside0.mk hiq
   have hi0:0≤ii∧ii<8:=by omega
   have d1:decide (0≤ii)=true:=decide_eq_true hi0.1
   have e5:wrap64 (ii-1)=ii-1:=wrap64_id (by omega) (by omega)
   obtain ⟨j,hj⟩:∃ j:Int,8*ii=j:=⟨_,rfl⟩
   have hji:j=((8*q:Nat):Int):=by omega
   have e6:wrap64 (8*ii)=j:=by rw [hj];exact wrap64_id (by omega) (by omega)
   have e7:IntKind.i64.wrap (8*ii)=j:=(i64_w _).trans e6
   obtain ⟨y,hy⟩:∃ y:Int,x / 2 ^ (8*q)=y:=⟨_,rfl⟩
   have e8:x / 2 ^ min j.toNat 64=y:=by rw [hji,Int.toNat_natCast,Nat.min_eq_left (by omega)];exact hy
   have e9:x / 2 ^ j.toNat=y:=by rw [hji,Int.toNat_natCast];exact hy
   have e10:(0≤j)=True:=eq_true (by omega)
   have e11:decide (0≤j)=true:=decide_eq_true (by omega)
   have HY:=Aside0.mk hy
   clear hiq hji hy hj
   go_wp2_with ((with_reducible refine gate_builtin (b:=.append) (xs:=#[.tmp 17,.tmp 23]) rfl ?_);at_builtin;refine hold ?_)
   unfold Hold
   refine Kd.R_append (Kd.int .u8) (w0:=w) w.heap.size rfl (.tmp 17) (.tmp 23) 46 5 (.int .u8 0) 1 rfl Tryz.underlying46 info_u8 rfl (by decide) (by decide) _ L (y % 256) [.int .u8 (y % 256)] (fun _=>True) (fun _=>False) rfl rfl rfl (fun _ hk=>hk.elim) (fun _ _=>trivial) HO.out HB.out HB.out.size (by have h:=congrArg List.length HL.out.2;have:=HL8.out;rw [List.length_append] at h;omega) ?_
   intro v9 w9 ho hb hg hat
   have HO9:=Aside0.mk ho
   have HB9:=Aside0.mk hb
   clear ho hb hg hat
   go_wp2
   go_roundw
   case rel=>exact ⟨q,_,L++[y % 256],rfl,⟨by have:=HIQ.out;omega⟩,⟨by omega,by rw [← HL.out.2,List.append_assoc,low,HY.out];rfl⟩,HO9,HB9⟩
   case measure=>simp [intOf];have:=HI.out;omega
end
end Go.Proofs.YtnhkikebfinejaaGreatDoor.Z
namespace Go.Proofs.YtnhkikebfinejaaGreatDoor.X
open Go.RowKit Go.Proofs.YtnhkikebfinejaaGreatDoorW.PrintWords Go.Proofs.YtnhkikebfinejaaGreatDoorW.PrintLast Go.Proofs.YtnhkikebfinejaaGreatDoorW.PrintMore
attribute [local go_sem] max2_int min2_int max_two min_two max_three min_three max_four min_four
def bits_held.f (a0:Int):Option (Int):=some (mn (mx a0 0) 64)
theorem bits_held.calls (a0:Int) (r:Int) (w:World) (h:bits_held.f a0=some r) :
  Calls Tryz.prog 232 #[.int .i64 a0] w fun e w'=>e = .returned (.int .i64 r)∧Below w.heap.size w w':=by
 have HB:=Aside0.mk (Below.refl w.heap.size w)
 have H:(some (mn (mx a0 0) 64))=some r:=h
 clear h
 obtain ⟨ji2,hji2⟩:∃ j_:Int,(mx a0 0)=j_:=⟨_,rfl⟩
 replace H:(some (mn (ji2) 64))=some r:=by first | (rw [hji2] at H;exact H) | (simp only [hji2] at H ⊢;exact H)
 (try (have hji2l:0≤ji2:=by (rw [← hji2];unfold mx;(repeat' split)<;>omega)))
 (try (have hji2m:0≤ji2:=by omega))
 have hji2_:(if a0<0 then 0 else a0)=ji2:=hji2
 obtain ⟨ji3,hji3⟩:∃ j_:Int,(mn (ji2) 64)=j_:=⟨_,rfl⟩
 replace H:(some ji3)=some r:=by first | (rw [hji3] at H;exact H) | (simp only [hji3] at H ⊢;exact H)
 have hji3_:(if 64<(ji2) then 64 else (ji2))=ji3:=hji3
 obtain rfl:=Option.some.inj H
 go_enter Tryz.func232,Tryz.ntmps232
 go_wp2
 go_ret
 exact ⟨by first | rfl | (simp [errW_none,errW_some]<;>rfl) | (simp only [← hji2,← hji3];first | rfl | (simp [errW_none,errW_some]<;>rfl)) | (simp [*,errW_none,errW_some]<;>rfl),by repeat (first | (with_reducible first | exact HB.out | apply below_alloc | apply pw_below_drewN | apply below_drew1) | exact HB.out)⟩
end Go.Proofs.YtnhkikebfinejaaGreatDoor.X
namespace Go.Proofs.YtnhkikebfinejaaGreatDoor.B
open Go Go.RowKit Go.Proofs.YtnhkikebfinejaaGreatDoorW.PrintWords Go.Proofs.YtnhkikebfinejaaGreatDoorW.PrintMore Go.Proofs.YtnhkikebfinejaaGreatDoor.S
def bitsN:Nat→Int→List Int
 | 0,_=>[]
 | n+1,v=>(v / 2 ^ n % 2) :: bitsN n v
theorem bitsN_len (n:Nat) (v:Int):(bitsN n v).length=n:=by induction n with | zero=>rfl | succ n ih=>simp [bitsN,ih]
def Bits (l:List Int):Prop:=∀ x∈l,x=0∨x=1
theorem Bits.nil:Bits []:=fun x hx=>by simp at hx
theorem Bits.append {a b:List Int} (h:Bits a) (k:Bits b):Bits (a++b):=fun x hx=>(List.mem_append.1 hx).elim (h x) (k x)
theorem Bits.one {b:Int} (h:b=0∨b=1):Bits [b]:=fun x hx=>by rw [List.mem_singleton.1 hx];exact h
theorem getD_out (l:List Int) {i:Nat} (h:l.length≤i):l.getD i 0=0:=by rw [List.getD_eq_getElem?_getD,List.getElem?_eq_none h];rfl
theorem getD_bit {l:List Int} (h:Bits l) (i:Nat):l.getD i 0=0∨l.getD i 0=1:=by
 by_cases hi:i<l.length
 ·rw [List.getD_eq_getElem?_getD,List.getElem?_eq_getElem hi];exact h _ (List.getElem_mem hi)
 ·rw [getD_out l (by omega)];exact .inl rfl
def byteAt (l:List Int) (i:Nat):Int:=
 l.getD (8*i) 0*128+l.getD (8*i+1) 0*64+l.getD (8*i+2) 0*32+l.getD (8*i+3) 0*16+l.getD (8*i+4) 0*8+l.getD (8*i+5) 0*4+l.getD (8*i+6) 0*2+l.getD (8*i+7) 0
def rows (l:List Int) (n:Nat):List Int:=(List.range n).map (byteAt l)
def packB (l:List Int):List Int:=rows l ((l.length+7) / 8)
theorem rows_len (l:List Int) (n:Nat):(rows l n).length=n:=by simp [rows]
theorem packB_len (l:List Int):(packB l).length=(l.length+7) / 8:=rows_len _ _
theorem byteAt_range {l:List Int} (h:Bits l) (i:Nat):0≤byteAt l i∧byteAt l i<256:=by
 have h0:=getD_bit h (8*i);have h1:=getD_bit h (8*i+1);have h2:=getD_bit h (8*i+2);have h3:=getD_bit h (8*i+3)
 have h4:=getD_bit h (8*i+4);have h5:=getD_bit h (8*i+5);have h6:=getD_bit h (8*i+6);have h7:=getD_bit h (8*i+7)
 unfold byteAt
 omega
theorem rd_rows (l:List Int) {n i:Nat} (h:i<n):rd (rows l n) (i:Int)=byteAt l i:=by
 rw [rd_get (by rw [rows_len];exact h)];simp [rows]
theorem packB_full {l:List Int} (h:l.length % 8=0):packB l++[0]=rows l (l.length / 8+1):=by
 have e:byteAt l (l.length / 8)=0:=by
  unfold byteAt
  simp [List.getD_eq_getElem?_getD,List.getElem?_eq_none (show l.length≤8*(l.length / 8) by omega),List.getElem?_eq_none (show l.length≤8*(l.length / 8)+1 by omega),List.getElem?_eq_none (show l.length≤8*(l.length / 8)+2 by omega),List.getElem?_eq_none (show l.length≤8*(l.length / 8)+3 by omega),List.getElem?_eq_none (show l.length≤8*(l.length / 8)+4 by omega),List.getElem?_eq_none (show l.length≤8*(l.length / 8)+5 by omega),List.getElem?_eq_none (show l.length≤8*(l.length / 8)+6 by omega),List.getElem?_eq_none (show l.length≤8*(l.length / 8)+7 by omega)]
 unfold packB rows
 rw [show (l.length+7) / 8=l.length / 8 by omega,List.range_succ,List.map_append,List.map_singleton,e]
theorem packB_part {l:List Int} (h:l.length % 8≠0):packB l=rows l (l.length / 8+1):=by
 unfold packB
 rw [show (l.length+7) / 8=l.length / 8+1 by omega]
theorem getD_snoc (l:List Int) (b:Int) (i:Nat):(l++[b]).getD i 0=if i=l.length then b else l.getD i 0:=by
 simp only [List.getD_eq_getElem?_getD,List.getElem?_append]
 split
 ·rw [if_neg (by omega)]
 ·by_cases h:i=l.length
  ·subst h;simp
  ·rw [if_neg h,List.getElem?_eq_none (show l.length≤i by omega),List.getElem?_eq_none (by simp;omega)]
theorem byteAt_snoc_lt (l:List Int) (b:Int) {i:Nat} (h:i<l.length / 8):byteAt (l++[b]) i=byteAt l i:=by
 unfold byteAt
 simp only [getD_snoc]
 repeat rw [if_neg (by omega)]
theorem pow_r {r:Nat} (h:r<8):r=0∨r=1∨r=2∨r=3∨r=4∨r=5∨r=6∨r=7:=by omega
theorem byteAt_snoc (l:List Int) (hl:Bits l) (b:Int) (hb:b=0∨b=1) :
  byteAt (l++[b]) (l.length / 8)=byteAt l (l.length / 8)+b*2 ^ (7-l.length % 8)∧byteAt l (l.length / 8) % 2 ^ (8-l.length % 8)=0:=by
 have hq:l.length=8*(l.length / 8)+l.length % 8:=by omega
 generalize l.length / 8=q at *
 have g0:=getD_bit hl (8*q);have g1:=getD_bit hl (8*q+1);have g2:=getD_bit hl (8*q+2);have g3:=getD_bit hl (8*q+3)
 have g4:=getD_bit hl (8*q+4);have g5:=getD_bit hl (8*q+5);have g6:=getD_bit hl (8*q+6);have g7:=getD_bit hl (8*q+7)
 have o:∀ j,l.length % 8≤j→l.getD (8*q+j) 0=0:=fun j hj=>getD_out l (by omega)
 have s:∀ j,(l++[b]).getD (8*q+j) 0=if j=l.length % 8 then b else l.getD (8*q+j) 0:=fun j=>by
  rw [getD_snoc]
  by_cases h:j=l.length % 8
  ·rw [if_pos (by omega),if_pos h]
  ·rw [if_neg (by omega),if_neg h]
 have s0:=s 0;have s1:=s 1;have s2:=s 2;have s3:=s 3;have s4:=s 4;have s5:=s 5;have s6:=s 6;have s7:=s 7
 have o0:=o 0;have o1:=o 1;have o2:=o 2;have o3:=o 3;have o4:=o 4;have o5:=o 5;have o6:=o 6;have o7:=o 7
 clear s o
 simp only [Nat.add_zero] at *
 unfold byteAt
 rw [s0,s1,s2,s3,s4,s5,s6,s7]
 have hr:l.length % 8<8:=Nat.mod_lt _ (by decide)
 generalize l.length % 8=r at *
 clear s0 s1 s2 s3 s4 s5 s6 s7 hq
 generalize l.getD (8*q) 0=x0 at *
 generalize l.getD (8*q+1) 0=x1 at *
 generalize l.getD (8*q+2) 0=x2 at *
 generalize l.getD (8*q+3) 0=x3 at *
 generalize l.getD (8*q+4) 0=x4 at *
 generalize l.getD (8*q+5) 0=x5 at *
 generalize l.getD (8*q+6) 0=x6 at *
 generalize l.getD (8*q+7) 0=x7 at *
 rcases pow_r hr with rfl | rfl | rfl | rfl | rfl | rfl | rfl | rfl<;>simp at *<;>omega
theorem or_u8 (l:List Int) (hl:Bits l) (b:Int) (hb:b=0∨b=1) :
  Go.bits .or .u8 (byteAt l (l.length / 8)) (b*2 ^ (7-l.length % 8))=byteAt (l++[b]) (l.length / 8):=by
 obtain ⟨h1,h2⟩:=byteAt_snoc l hl b hb
 obtain ⟨r0,r1⟩:=byteAt_range hl (l.length / 8)
 have hr:l.length % 8<8:=Nat.mod_lt _ (by decide)
 rw [h1]
 generalize byteAt l (l.length / 8)=y at *
 generalize l.length % 8=r at *
 refine bits_join .u8 8 (by decide) wraps_u8 (8-r) y _ r0 h2 (by omega) ?_ ?_ ?_ <;>
 rcases pow_r hr with rfl | rfl | rfl | rfl | rfl | rfl | rfl | rfl<;>simp<;>omega
theorem packB_push (l:List Int) (hl:Bits l) (b:Int) (hb:b=0∨b=1) :
  (rows l (l.length / 8+1)).set (l.length / 8) (Go.bits .or .u8 (byteAt l (l.length / 8)) (b*2 ^ (7-l.length % 8)))=packB (l++[b]):=by
 rw [or_u8 l hl b hb]
 unfold packB
 rw [show ((l++[b]).length+7) / 8=l.length / 8+1 by simp;omega]
 apply List.ext_getElem
 ·simp [rows_len]
 ·intro i h1 h2
  rw [rows_len] at h2
  rw [List.getElem_set]
  simp only [rows,List.getElem_map,List.getElem_range]
  split
  ·rename_i h;rw [h]
  ·rw [byteAt_snoc_lt l b (by omega)]
def cl (m:Int):Nat:=(mn (mx m 0) 64).toNat
theorem cl_eq (m:Int):mn (mx m 0) 64=(cl m:Int):=by unfold cl mn mx;split<;>split<;>omega
theorem cl_le (m:Int):cl m≤64:=by unfold cl mn mx;split<;>split<;>omega
end Go.Proofs.YtnhkikebfinejaaGreatDoor.B
