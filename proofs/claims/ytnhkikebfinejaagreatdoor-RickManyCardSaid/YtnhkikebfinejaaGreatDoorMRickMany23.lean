/- Texts of this claim, laid together. No conditions. -/
import Derived.Test.YtnhkikebfinejaaGreatDoorMRickMany22
import Derived.Test.YtnhkikebfinejaaGreatDoorMRickMany5
import Derived.Stop.RegionWithIn
set_option linter.unusedVariables false
set_option linter.unusedSimpArgs false
set_option maxRecDepth 100000
set_option maxHeartbeats 16000000
namespace Go.Proofs.YtnhkikebfinejaaGreatDoor.Z
open Go Go.RowKit Go.Proofs.YtnhkikebfinejaaGreatDoorW.PrintWords Go.Proofs.YtnhkikebfinejaaGreatDoorW.PrintLast Go.Proofs.YtnhkikebfinejaaGreatDoorW.PrintMore Go.Proofs.YtnhkikebfinejaaGreatDoor.S Go.Proofs.YtnhkikebfinejaaGreatDoor.X
def sT:List Nat:=144 :: 198 :: vT
def ChAt (Ch:Ky→Nat→List Int→Prop) (f:Nat→List Int) (e:En):Prop:=∃ bs,RawAt f e.p bs∧bs.length=e.l∧1≤e.l∧e.l≤256∧Bs bs∧e.x=crcSum bs∧e.n=1∧Ch e.k e.c bs
structure BsOk [Inhabited Sanct] (Ch:Ky→Nat→List Int→Prop) (w:World) (b d N:Nat) (sp:Sup) (m:List Bool) (v:Nat) (f:Nat→List Int) (ps:List Nat) (es:List En):Prop where
 ba:BaseAt w b d N sp m v false false
 va:ViewAt w v d N sp.gen m m
 dt:DT w d N 0 f
 mm:MapOk N m
 tr:TreeOk f (sp.ra:Int) (sp.rh:Int) es ps
 us:Us N m (ps++sp.bm :: es.map En.p)
 sN:sp.N=N
 gn:sp.gen≤es.length+1
 ch:∀ e∈es,ChAt Ch f e
 sp:Sp es
 g:∀ e∈es,EnG e
 gb:sB≤b
 gv:sB≤v
structure StOk [Inhabited Sanct] (Ch:Ky→Nat→List Int→Prop) (w:World) (s b d N:Nat) (es:List En):Prop where
 st:StoAt w s b
 e:∃ (sp:Sup) (m:List Bool) (v:Nat) (f:Nat→List Int) (ps:List Nat),BsOk Ch w b d N sp m v f ps es
theorem BsOk.below [Inhabited Sanct] {Ch:Ky→Nat→List Int→Prop} {w W:World} {b d N v:Nat} {sp:Sup} {m:List Bool} {f:Nat→List Int} {ps:List Nat} {es:List En} (h:BsOk Ch w b d N sp m v f ps es) (hb:Below w.heap.size w W):BsOk Ch W b d N sp m v f ps es:=
 ⟨blkb hb h.ba,blkb hb h.va,h.dt.below hb,h.mm,h.tr,h.us,h.sN,h.gn,h.ch,h.sp,h.g,h.gb,h.gv⟩
theorem StOk.below [Inhabited Sanct] {Ch:Ky→Nat→List Int→Prop} {w W:World} {s b d N:Nat} {es:List En} (h:StOk Ch w s b d N es) (hb:Below w.heap.size w W):StOk Ch W s b d N es:=by
 obtain ⟨h1,sp,m,v,f,ps,h2⟩:=h
 exact ⟨blkb hb h1,sp,m,v,f,ps,h2.below hb⟩
theorem format_ok [Inhabited Sanct] (Ch:Ky→Nat→List Int→Prop) {w:World} {d N:Nat} {f:Nat→List Int} (hd:DT w d N 0 f) :
  Calls Tryz.prog 7 #[.pointer (some ⟨d,0,none⟩)] w fun r w'=>∃ s b,r = .returned (.tuple #[.pointer (some ⟨s,0,none⟩),.int .i64 0])∧StOk Ch w' s b d N []∧FrT dT w w':=by
 have hN:=hd.hN
 refine (sformat_calls (P:=fun b W=>(∃ sp m v f ps,BsOk Ch W b d N sp m v f ps [])∧FrT dT w W) (fun b W W' h hb=>⟨?_,h.2.below hb⟩) ((tformat_calls hd).mono ?_)).mono ?_
 ·obtain ⟨⟨sp,m,v,f,ps,h1⟩,_⟩:=h
  exact ⟨sp,m,v,f,ps,h1.below hb⟩
 ·rintro r w' ⟨b,v,p,f2,rfl,h1,h2,h3,h4,h5,h6,h7,h8,h9⟩
  have hM:MapOk N newM:=newM_ok hN.1 hN.2
  have hp2:=hM.free_ge h6
  have hu0:Us N newM []:=⟨fun q=>?_,List.nodup_nil,fun q hq=>by cases hq⟩
  ·refine ⟨b,rfl,⟨⟨1,0,0,p,N⟩,setN true newM p 1,v,f2,[],h1,h2,h3,h4,.inl ⟨rfl,rfl,rfl,rfl⟩,hu0.take hM h6 h5,rfl,by show 1≤0+1;decide,(fun e he=>by cases he),List.Pairwise.nil,(fun e he=>by cases he),h8,h9⟩,h7⟩
  ·by_cases hq:q<512
   ·have hg:newM[q]?=if q<2 then some true else some false:=by
     unfold newM
     rw [setN_get _ _ _ _ _ (by rw [List.length_replicate];exact hq),List.getElem?_replicate,if_pos hq]
     by_cases h2:q<2
     ·rw [if_pos ⟨Nat.zero_le _,by omega⟩,if_pos h2]
     ·rw [if_neg (by omega),if_neg h2]
    rw [hg]
    by_cases h2:q<2<;>simp [h2]
   ·have:newM[q]?=none:=List.getElem?_eq_none (by rw [hM.len];omega)
    rw [this]
    simp;omega
 ·rintro r w' ⟨s,b,rfl,hs,⟨sp,m,v,f,ps,h1⟩,hf⟩
  exact ⟨s,b,rfl,⟨hs,sp,m,v,f,ps,h1⟩,hf⟩
theorem append_ok [Inhabited Sanct] {Ch:Ky→Nat→List Int→Prop} {w:World} {s b d N c codec:Nat} {es:List En} {sr:Int} {A:Option Addr} {sm:Sm} {bs:List Int} (h:StOk Ch w s b d N es) (hl:es.length≤89) (hN:200≤N) (h0:0≤sr) (h1:sr≤4294967295) (ha0:0≤sm.a) (ha1:sm.a<9223372036854775808) (hcd:codec≤15)
  (hrow:RSm w A [sm]) (hc:1≤c) (henc:EncC sm (codec:Int) bs) (hbs:Bs bs) (hn1:1≤bs.length) (hn2:bs.length≤256) (hch:Ch ⟨sr,sm.a⟩ codec bs) (hne:∀ y∈es,y.k≠⟨sr,sm.a⟩) :
  Calls Tryz.prog 9 #[.pointer (some ⟨s,0,none⟩),.int .i64 sr,.int .i64 (codec:Int),.slice A 1 c] w fun r w'=>r = .returned (.int .i64 0)∧(∃ (es':List En) (x:En),es'.Perm (x :: es)∧x.k=⟨sr,sm.a⟩∧x.c=codec∧StOk Ch w' s b d N es')∧FrT sT w w':=by
 obtain ⟨hst,sp,m,v,f,ps,H⟩:=h
 have hgb:=H.gb
 have hsb:=H.dt.sb
 have hpc:=H.tr.cnt (by omega)
 have hgn:=H.gn
 have hd5:=H.dt.hN
 have hRl:(ps++sp.bm :: es.map En.p).length≤182:=by simp only [List.length_append,List.length_cons,List.length_map];omega
 have hcap:Cap N m m 13:=H.us.cap H.mm (by omega)
 refine append_calls (b:=b) (fun W g1 g2 g3 hB hA=>?_)
 have HW:=H.below hB
 have hstW:StoAt W s b:=blkb hB hst
 refine (change_calls hstW (P1:=fun t W'=>∃ v2,BaseAt W' b d N sp m v true false∧ViewAt W' v2 d N (sp.gen+1) m m∧TxnAt W' t b v2 (sp.ra:Int) (sp.rh:Int) false∧FrT [144] W W'∧sB≤t∧sB≤v2)
  (P2:=fun t W'=>∃ (v2 p:Nat) (a' q':Int) (es':List En) (ps':List Nat) (m':List Bool) (f':Nat→List Int) (nw':Nat),TreeOk f' a' q' es' ps'∧es'.Perm ({ newE sr sm.a codec with p:=p,l:=bs.length,x:=crcSum bs } :: es)∧EnG { newE sr sm.a codec with p:=p,l:=bs.length,x:=crcSum bs }∧Sp es'∧VS W' v2 d N (sp.gen+1) nw' m' m f' 1∧Us N m' (ps'++p :: (sp.bm :: es.map En.p))∧(∀ r∈sp.bm :: es.map En.p,SameAt f f' r)∧RawAt f' p bs∧TxnAt W' t b v2 a' q' false∧BaseAt W' b d N sp m v true false∧FrT sT W W'∧sB≤t)
  (P3:=fun W'=>(∃ (es':List En) (x:En),es'.Perm (x :: es)∧x.k=⟨sr,sm.a⟩∧x.c=codec∧StOk Ch W' s b d N es')∧FrT sT W W') ?_ (fun t W' hp=>?_) (fun t W' hp=>?_)).mono ?_
 ·refine (begin_calls HW.ba HW.dt HW.mm (by omega)).mono ?_
  rintro r w' ⟨t,v2,rfl,k1,k2,k3,k5,k6,k4⟩
  have:=HW.dt.sb
  exact ⟨t,rfl,v2,k1,k2,k3,k4,by omega,by omega⟩
 ·obtain ⟨v2,k1,k2,k3,k4,gt,gv⟩:=hp
  refine append1_calls (hA.frT k4 (by decide) (by decide)) (sput_calls h0 h1 ((hrow.below hB).frT k4 (by decide)) hc henc (fun W3 A' c' hB3 hR3=>?_))
  have hV:VS W3 v2 d N (sp.gen+1) 0 m m f (1+12):=⟨blkb hB3 k2,(HW.dt.frT k4 (by decide)).below hB3,HW.mm,HW.mm,by omega,by decide,hcap,gv⟩
  refine (txput (x:=newE sr sm.a codec) (blkb hB3 k1) (blkb hB3 k3) hV rfl hn1 hn2 hR3 hbs ⟨h0,h1,ha0,ha1⟩ rfl ⟨Nat.le_refl 1,by show 1≤200;decide⟩ hcd HW.tr HW.sp HW.g hl hne HW.us).mono ?_
  rintro r w' ⟨rfl,p,a',q',es',ps',m',f',nw',t1,t2,t3,t4,t5,t6,t7,t8,t9,t10,t11⟩
  refine ⟨rfl,v2,p,a',q',es',ps',m',f',nw',t1,t2,t3,t4,t5,t6,t7,t8,t9,t10,?_,gt⟩
  exact ((k4.mono (fun t ht=>by rcases List.mem_singleton.1 ht with rfl;exact List.mem_cons_self)).below hB3).trans (t11.mono (fun t ht=>List.mem_cons_of_mem _ ht))
 ·obtain ⟨v2,p,a',q',es',ps',m',f',nw',t1,t2,t3,t4,t5,t6,t7,t8,t9,t10,t11,gt⟩:=hp
  have hel:es'.length=es.length+1:=by rw [t2.length_eq,List.length_cons]
  rcases t1 with ⟨-,-,rfl,-⟩ | ⟨hh,ra,nd,ps2,rfl,rfl,rfl,T4,T5,T6,T7⟩
  ·simp at hel
  have hlow:=(root_low T4 T6 (by omega)).1
  have hbmR:sp.bm∈(ra :: ps2)++p :: (sp.bm :: es.map En.p):=by simp
  have hraR:ra∈(ra :: ps2)++p :: (sp.bm :: es.map En.p):=by simp
  have hbb:=t6.b _ hbmR
  have hrb:=t6.b _ hraR
  have hbm0:m[sp.bm]?=some true:=HW.us.at_ (by simp)
  have hnd:=t6.n
  have hrs:ra≠sp.bm:=fun e=>by
   rw [List.cons_append] at hnd
   exact (List.nodup_cons.1 hnd).1 (by rw [e];simp)
  refine (commit_calls (k:=0) (ra:=ra) (rh:=hh+1) t10 t9 t5 hbb.1 hbb.2 (t6.at_ hbmR) hbm0 HW.sN (by omega) ⟨by omega,hrb.1,by omega⟩ (t6.at_ hraR) hrs).mono ?_
  rintro r w' ⟨rfl,p2,v3,f2,c1,c2,c3,c4,c5,c6,c7,c8,c9⟩
  refine ⟨rfl,?_,t11.trans (c8.mono (fun t ht=>?_))⟩
  ·refine ⟨es',_,t2,rfl,rfl,?_,⟨sp.gen+1,ra,hh+1,p2,N⟩,setN true (setN false m' sp.bm 1) p2 1,v3,f2,ra :: ps2,?_⟩
   ·exact (t11.trans (c8.mono (T2:=sT) (by decide))).blk hstW (by decide)
   ·have hgv:Us N (setN false m' sp.bm 1) ((ra :: ps2)++p :: es.map En.p):=by
     refine Us.give (a:=sp.bm) (t6.perm ?_)
     exact (List.Perm.append_left _ (List.Perm.swap _ _ _)).trans List.perm_middle
    have hM1:MapOk N (setN false m' sp.bm 1):=t5.mm.set _ hbb.1 hbb.2
    have hnp:∀ q∈(ra :: ps2)++p :: es.map En.p,q≠p2:=fun q hq e=>by
     have:=hgv.at_ hq
     rw [e,(free1.1 c2).1] at this
     cases this
    have hu2:=hgv.take hM1 c2 c1
    have hsm:∀ q∈(ra :: ps2)++p :: es.map En.p,SameAt f' f2 q:=fun q hq=>c7 q (hgv.b q hq).1 (hnp q hq)
    have htree:TreeOk f' (ra:Int) ((hh+1:Nat):Int) es' (ra :: ps2):=.inr ⟨hh,ra,nd,ps2,rfl,rfl,rfl,T4,T5,T6,T7⟩
    refine ⟨c3,c4,c5,c6,htree.same (fun q hq=>hsm q (List.mem_append_left _ hq)),hu2.perm ?_,rfl,by show sp.gen+1≤_;omega,fun e he=>?_,t4,fun e he=>?_,hgb,c9⟩
    ·exact List.perm_middle.symm.trans (List.Perm.append_left _ (List.Perm.cons _ ((t2.map En.p).symm)))
    ·rcases List.mem_cons.1 (t2.mem_iff.1 he) with rfl | he
     ·exact ⟨bs,t8.same (hsm p (by simp)),rfl,hn1,hn2,hbs,rfl,rfl,hch⟩
     ·obtain ⟨b0,q1,q2⟩:=HW.ch e he
      have hin:e.p∈es.map En.p:=List.mem_map.2 ⟨e,he,rfl⟩
      exact ⟨b0,(q1.same (t7 _ (List.mem_cons_of_mem _ hin))).same (hsm _ (by simp [hin])),q2⟩
    ·rcases List.mem_cons.1 (t2.mem_iff.1 he) with rfl | he
     ·exact t3
     ·exact HW.g e he
  ·revert t ht;decide
 ·rintro r w' ⟨rfl,h1,h2⟩
  exact ⟨rfl,h1,(FrT.of_below hB _).trans h2⟩
section
open Go.Shelf
def AbT [Inhabited Sanct] {β:Type} (T:List Nat) (J:β→World→Prop):Prop:=∀ s A B,J s A→FrT T A B→J s B
def SeqT [Inhabited Sanct] {α:Type} (F:Fence) (n:Nat) (P:Program) (g:Nat) (lb:Array Value) (encs:α→Array Value) (T:List Nat) (Kp:World→World→Prop) (Iv:World→Prop) (xs:List α) (w:World):Prop:=
 ∀ (l:Nat) (J:List α→World→Prop) (W:World),Below w.heap.size w W→l<W.heap.size→AbT T J→OwnFrom W.heap.size J→(∀ pre A,J pre A→Iv A) →
  (∀ pre x W1,J pre W1→pre++[x] <+: xs→YieldAt F (n-1) P l (encs x) W1 fun e W'=>e = .returned (.bool true)∧J (pre++[x]) W'∧Kp W1 W'∧KeepsFrom (l+1) W1 W') →
  J [] W→CallsIn F n P g (#[.func (.yield l) #[] #[]]++lb) W fun e W'=>(∃ v,e = .returned v)∧J xs W'
def ownPostT {α:Type} (B:Nat) (Kp:World→World→Prop) (I:List α→World→Prop) (xs:List α) (W:World):Exit→Act→World→Prop
 | .normal,_,W'=>KeepsFrom B W W'∧Kp W W'∧I xs W'
 | _,_,_=>False
theorem rf_law [Inhabited Sanct] {F:Fence} {n:Nat} {P:Program} {w:World} {α:Type} {T:List Nat} {g:Operand} {ps:Array Tmp} {assign body:Code} {Q:Exit→Act→World→Prop} {a:Act}
  (hro:F.round=none) (h1:1≤n) {gf:Nat} {lb:Array Value} (hg:a.eval g = .func (.func gf) #[] lb) (hFg:F.fn gf) (eg:∀ args w,(callFunc gf args).run P w = .ok (.enter gf args) w)
  {encs:α→Array Value} {Kp:World→World→Prop} {Iv:World→Prop} {xs:List α} {w0:World} (hseq:SeqT F (n-1) P gf lb encs T Kp Iv xs w0)
  (hKt:∀ {A B C:World},Kp A B→Kp B C→Kp A C) (hKb:∀ (W:World) (l:Nat) (o o':Obj),w.heap.size≤l→W.heap[l]?=some o→o.isCells=false→o.isWalk=false→Kp W (W.putObj l o')) (hb0:Below w0.heap.size w0 w) (hps:∀ x,(encs x).size=ps.size)
  (I:List α→World→Prop) (hI:OwnFrom w.heap.size I) (hIT:AbT T I) (hIv:∀ pre A,I pre A→Iv A) (h0:I [] w) (Ax:α→Act→World→Prop) (hAx:∀ x a',OwnFrom w.heap.size (fun (_:Unit) W=>Ax x a' W))
  (hassign:∀ (l:Nat) (pre:List α) (x:α) (W:World) (K:Act→World→Prop),I pre W→(∀ a' W',KeepsFrom w.heap.size W W'→Kp W W'→I pre W'→Ax x a' W'→K a' W') →
   assign.wpIn (F.inRound l) (n-1-1) P (Exit.then K (fun _ _ _=>False)) { tmps:=(ps.zip (encs x)).foldl (fun t (p,v)=>t.setIfInBounds p v) a.tmps,defers:=[] } W)
  (hbody:∀ (l:Nat) (pre:List α) (x:α) (a':Act) (W:World),I pre W→Ax x a' W→pre++[x] <+: xs→body.wpIn (F.inRound l) (n-1-1) P (ownPostT w.heap.size Kp I (pre++[x]) W) a' W)
  (hdone:∀ (D:Nat) (W:World),w.heap.size≤D→I xs W→W.heap[D]?=some (.deferred (some []))→Q .normal { a with defers:={ target:=.collected D,args:=#[] } :: a.defers } W) :
  (Code.rangeFunc g ps assign body).wpIn F n P Q a w:=by
 refine wpIn_rangeFunc ?_
 intro fn hfn
 rw [hro]
 obtain ⟨rec,hrec⟩:∃ rec:LoopState→Option Code→Loop,rec=fun st pe=>{ state:=st,pending:=pe,fn,tmps:=a.tmps,params:=ps,assign,body,defers:=w.heap.size }:=⟨_,rfl⟩
 obtain ⟨W1,hW1⟩:∃ W1,(w.alloc (.deferred (some []))).alloc (.loop (rec .ready none))=W1:=⟨_,rfl⟩
 have hL1:W1.heap[w.heap.size+1]?=some (.loop (rec .ready none)):=by
  rw [← hW1];have:=World.alloc_heap_new (w.alloc (.deferred (some []))) (.loop (rec .ready none));rwa [World.size_alloc] at this
 have hK1:W1.heap[w.heap.size]?=some (.deferred (some [])):=by
  rw [← hW1];exact (Below.heap_alloc _ _ _ (by simp)).trans (World.alloc_heap_new w _)
 have hI1:I [] W1:=by rw [← hW1];exact hI.alloc _ (hI.alloc _ h0)
 have hb1:Below w0.heap.size w0 W1:=by
  rw [← hW1];exact hb0.trans ((((Below.refl _ w).alloc (Nat.le_refl _) _).alloc (by simp) _).mono hb0.size)
 refine ⟨w.heap.size+1,[{ target:=.collected w.heap.size,args:=#[] }],W1,{ target:=.fn (.func gf) lb,args:=#[.func (.yield (w.heap.size+1)) #[] #[]] },W1,gf,
  #[.func (.yield (w.heap.size+1)) #[] #[]]++lb,W1,?_,?_,?_,?_,fun _=>h1,?_⟩
 ·rw [← hW1,hrec];exact run_enterLoop_outer _ _ _ _ _
 ·simp only [resolve,hg]
  simp [go_sem]
 ·intro f' hf';simp [Target.leads] at hf';subst hf';exact hFg
 ·simp [invoke,go_sem,eg]
 ·refine (hseq (w.heap.size+1)
   (fun pre W=>I pre W∧W.heap[w.heap.size+1]?=some (.loop (rec .ready none))∧W.heap[w.heap.size]?=some (.deferred (some [])))
   W1 hb1 (by rw [← hW1];simp) (fun s A B hs hf=>⟨hIT s A B hs.1 hf,hf.non hs.2.1 rfl,hf.non hs.2.2 rfl⟩) (fun s A B row hs hg' hr=>by
    have hsz:W1.heap.size=w.heap.size+1+1:=by rw [← hW1];simp
    exact ⟨hI s A B row hs.1 hg' (fun r e=>⟨by have:=(hr r e).1;omega,(hr r e).2⟩),(hg'.block _ (Array.getElem?_eq_some_iff.1 hs.2.1).1 (fun e=>by have:=(hr _ e.symm).1;omega)).trans hs.2.1,(hg'.block _ (Array.getElem?_eq_some_iff.1 hs.2.2).1 (fun e=>by have:=(hr _ e.symm).1;omega)).trans hs.2.2⟩)
   (fun pre A h=>hIv pre A h.1) ?_ ⟨hI1,hL1,hK1⟩).mono ?_
  ·rintro pre x W ⟨hi,hl,hk⟩ hlen
   have hlt:w.heap.size+1<W.heap.size:=(Array.getElem?_eq_some_iff.1 hl).1
   have hy:=run_yield (P:=P) (args:=encs x) hl (by rw [hrec];exact hps x)
   rw [hrec] at hy
   refine ⟨fn,_,assign,body,hy,roundIn_of_wpIn hfn (hassign _ pre x W _ hi ?_)⟩
   clear hy
   intro a' Wa hkfa hkpa hia hax
   replace hl:=hkfa.same _ _ (by omega) hl rfl
   replace hk:=hkfa.same _ _ (Nat.le_refl _) hk rfl
   replace hlt:w.heap.size+1<Wa.heap.size:=(Array.getElem?_eq_some_iff.1 hl).1
   replace hi:=hia
   clear hia
   revert hkpa hkfa
   generalize W=Wb
   intro hkfa hkpa
   obtain ⟨W,rfl⟩:∃ W,W=Wa:=⟨_,rfl⟩
   refine ⟨_,run_beginRound hl (by rw [hrec]),?_⟩
   have hl2:(W.putObj (w.heap.size+1) (.loop { rec .ready none with state:=.busy })).heap[w.heap.size+1]?=some (.loop { rec .ready none with state:=.busy }):=World.putObj_heap_same hlt
   have hk2:(W.putObj (w.heap.size+1) (.loop { rec .ready none with state:=.busy })).heap[w.heap.size]?=some (.deferred (some [])):=(World.putObj_heap_other (by omega)).trans hk
   have hw2:Kp W (W.putObj (w.heap.size+1) (.loop { rec .ready none with state:=.busy })):=hKb _ _ _ _ (by omega) hl rfl rfl
   refine wpIn_mono (hbody _ pre x a' _ (hI.putObj _ hi (by omega) hl rfl) ((hAx x a').putObj (s:=()) _ hax (by omega) hl rfl) hlen) ?_
   have fin:∀ (W3:World),KeepsFrom w.heap.size (W.putObj (w.heap.size+1) (.loop { rec .ready none with state:=.busy })) W3 →
     (Instr.endRound (w.heap.size+1) none).run P W3 = .ok (.bool true) (W3.putObj (w.heap.size+1) (.loop (rec .ready none))) ∧
     W3.heap[w.heap.size+1]?=some (.loop { rec .ready none with state:=.busy }) ∧
     (W3.putObj (w.heap.size+1) (.loop (rec .ready none))).heap[w.heap.size+1]?=some (.loop (rec .ready none)) ∧
     (W3.putObj (w.heap.size+1) (.loop (rec .ready none))).heap[w.heap.size]?=some (.deferred (some [])):=fun W3 hk3=>by
    have hl3:=hk3.same _ _ (by omega) hl2 rfl
    have:=run_endRound (P:=P) none hl3
    rw [hrec] at this ⊢
    exact ⟨this,by rw [hrec] at hl3;exact hl3,World.putObj_heap_same (Array.getElem?_eq_some_iff.1 hl3).1,(World.putObj_heap_other (by omega)).trans (hk3.same _ _ (Nat.le_refl _) hk2 rfl)⟩
   rintro e a3 W3 hp
   cases e with
   | normal=>
    obtain ⟨hk3,hkp3,hi3⟩:=hp
    obtain ⟨hr,hl3,hl4,hk4⟩:=fin W3 hk3
    refine ⟨_,_,hr,rfl,⟨hI.putObj _ hi3 (by omega) hl3 rfl,hl4,hk4⟩,hKt hkpa (hKt (hKt hw2 hkp3) (hKb _ _ _ _ (by omega) hl3 rfl rfl)),?_⟩
    have put:∀ (Y:World) (o':Obj),KeepsFrom (w.heap.size+1+1) Y (Y.putObj (w.heap.size+1) o'):=fun Y o'=>⟨by simp [World.putObj],fun k o hk ho hc=>(World.putObj_heap_other (by omega)).trans ho⟩
    have up:∀ {Y Z:World},KeepsFrom w.heap.size Y Z→KeepsFrom (w.heap.size+1+1) Y Z:=fun h=>⟨h.size,fun k o hk ho hc=>h.same k o (by omega) ho hc⟩
    exact (up hkfa).trans (((put _ _).trans (up hk3)).trans (put _ _))
   | ret=>exact hp.elim
   | exit id=>exact hp.elim
   | goto t=>exact hp.elim
   | panic ch=>exact hp.elim
   | outgrown=>exact hp.elim
  ·rintro e W2 ⟨⟨v,rfl⟩,hi,hl,hk⟩
   exact ⟨none,_,by have:=run_endLoop (P:=P) hl (by rw [hrec];simp);rw [hrec] at this;exact this,hdone _ _ (Nat.le_refl _) (hI.putObj _ hi (by omega) hl rfl) ((World.putObj_heap_other (by omega)).trans hk)⟩
end
section
open Go.Shelf
def Ow (ob:Nat) (W:World) (i:Nat):Prop:=i=ob ∨ ∃ (v:Value) (t:TypeId) (fr:Nat×Nat),W.heap[ob]?=some (Obj.cells #[v] t fr)∧v.ownBlock=some i
structure KpT (T:List Nat) (ob:Nat) (A B:World):Prop where
 size:A.heap.size≤B.heap.size
 k:∀ (i:Nat) (cs:Array Value) (t:TypeId) (fr:Nat×Nat),A.heap[i]?=some (.cells cs t fr)→t ∉ T→¬ Ow ob A i→B.heap[i]?=some (.cells cs t fr)∧¬ Ow ob B i
structure Ob (T:List Nat) (ob:Nat) (A:World):Prop where
 b:∃ cs t fr,A.heap[ob]?=some (Obj.cells cs t fr)∧t ∉ T
 o:∀ i,Ow ob A i→i<A.heap.size
section
variable {T T2:List Nat} {ob:Nat} {A B C:World}
theorem KpT.refl [Inhabited Sanct] (T:List Nat) (ob:Nat) (A:World):KpT T ob A A:=⟨Nat.le_refl _,fun _ _ _ _ h _ k=>⟨h,k⟩⟩
theorem KpT.trans [Inhabited Sanct] (h:KpT T ob A B) (k:KpT T ob B C):KpT T ob A C:=⟨Nat.le_trans h.size k.size,fun i cs t fr h1 h2 h3=>by
 obtain ⟨h4,h5⟩:=h.k i cs t fr h1 h2 h3
 exact k.k i cs t fr h4 h2 h5⟩
theorem KpT.mono [Inhabited Sanct] (h:KpT T ob A B) (hs:∀ t,t∈T→t∈T2):KpT T2 ob A B:=⟨h.size,fun i cs t fr h1 h2 h3=>h.k i cs t fr h1 (fun e=>h2 (hs t e)) h3⟩
theorem Ob.same [Inhabited Sanct] (h:Ob T ob A) (hf:FrT T A B) (i:Nat):Ow ob B i↔Ow ob A i:=by
 obtain ⟨cs,t,fr,h1,h2⟩:=h.b
 have h3:=hf.blk h1 h2
 unfold Ow
 rw [h1,h3]
theorem Ob.frT [Inhabited Sanct] (h:Ob T ob A) (hf:FrT T A B):Ob T ob B:=by
 obtain ⟨cs,t,fr,h1,h2⟩:=h.b
 exact ⟨⟨cs,t,fr,hf.blk h1 h2,h2⟩,fun i hi=>Nat.lt_of_lt_of_le (h.o i ((h.same hf i).1 hi)) hf.size⟩
theorem Ob.kp [Inhabited Sanct] (h:Ob T ob A) (hf:FrT T A B):KpT T ob A B:=⟨hf.size,fun i cs t fr h1 h2 h3=>⟨hf.blk h1 h2,fun e=>h3 ((h.same hf i).1 e)⟩⟩
theorem Ob.new [Inhabited Sanct] (h:Ob T ob A) (hf:FrT T A B) {g:Nat} (hg:A.heap.size≤g):¬ Ow ob B g:=fun e=>by
 have:=h.o g ((h.same hf g).1 e)
 omega
theorem Ob.nil (h:Ob T ob A):Ob [] ob A:=⟨by obtain ⟨cs,t,fr,h1,_⟩:=h.b;exact ⟨cs,t,fr,h1,by simp⟩,h.o⟩
theorem Ob.lt [Inhabited Sanct] (h:Ob T ob A):ob<A.heap.size:=h.o ob (Or.inl rfl)
theorem Ob.put [Inhabited Sanct] {l:Nat} {o o':Obj} (hob:ob<l) (hl:A.heap[l]?=some o) (ho:o.isCells=false):KpT T ob A (A.putObj l o'):=⟨by simp [World.putObj],fun i cs t fr h1 h2 h3=>by
 have hi:l≠i:=fun e=>by rw [← e,hl] at h1;injection h1 with h1;rw [h1] at ho;cases ho
 refine ⟨(World.putObj_heap_other hi.symm).trans h1,fun e=>h3 ?_⟩
 unfold Ow at e ⊢
 rwa [World.putObj_heap_other (by omega)] at e⟩
end
theorem kp_out [Inhabited Sanct] {A B:World} {ob:Nat} {v v':Value} {t:TypeId} {fr:Nat×Nat} (hA:A.heap[ob]?=some (.cells #[v] t fr)) (hB:B.heap[ob]?=some (.cells #[v'] t fr)) (hs:A.heap.size≤B.heap.size)
  (hk:∀ (i:Nat) (cs:Array Value) (t:TypeId) (fr:Nat×Nat),A.heap[i]?=some (.cells cs t fr)→i≠ob→v.ownBlock≠some i→B.heap[i]?=some (.cells cs t fr)) (hv:v'.ownBlock=v.ownBlock ∨ ∃ g,v'.ownBlock=some g∧A.heap.size≤g):KpT [] ob A B:=⟨hs,fun i cs t' fr' h1 _ h3=>by
 have h4:i≠ob:=fun e=>h3 (Or.inl e)
 have h5:v.ownBlock≠some i:=fun e=>h3 (Or.inr ⟨v,t,fr,hA,e⟩)
 refine ⟨hk i cs t' fr' h1 h4 h5,fun e=>?_⟩
 rcases e with e | ⟨v2,t2,fr2,h6,h7⟩
 ·exact h4 e
 ·rw [hB] at h6
  injection h6 with h6
  injection h6 with h6 _ _
  have h8:v'=v2:=by simpa using h6
  rw [← h8] at h7
  rcases hv with hv | ⟨g,hv,hg⟩
  ·exact h5 (hv▸h7)
  ·rw [hv] at h7
   injection h7 with h7
   have:=blk_lt h1
   omega⟩
def RwO {α:Type} (T:TypeId) (enc:α→List Value) (sz:Nat) (ob:Nat) (w:World) (A:Option Addr) (xs:List α):Prop:=Rw T enc sz w A xs∧(0<xs.length → ∀ g o,A=some ⟨g,o,none⟩→¬ Ow ob w g)
theorem RwO.kp [Inhabited Sanct] {α:Type} {T:TypeId} {enc:α→List Value} {sz:Nat} {Ts:List Nat} {ob:Nat} {A:Option Addr} {xs:List α} {w W:World} (h:RwO T enc sz ob w A xs) (hk:KpT Ts ob w W) (hT:T ∉ Ts):RwO T enc sz ob W A xs:=by
 refine ⟨⟨h.1.1,fun h0=>?_⟩,fun h0 g o hA=>?_⟩
 ·obtain ⟨g,o,cs,fr,h1,h2,h3⟩:=h.1.2 h0
  exact ⟨g,o,cs,fr,h1,(hk.k g cs T fr h2 hT (h.2 h0 g o h1)).1,h3⟩
 ·obtain ⟨g2,o2,cs,fr,h1,h2,h3⟩:=h.1.2 h0
  rw [hA] at h1
  injection h1 with h1
  injection h1 with e1 e2
  subst e1 e2
  exact (hk.k _ cs T fr h2 hT (h.2 h0 _ _ hA)).2
def wT:List Nat:=[215]
structure WkO [Inhabited Sanct] (ob:Nat) (W:World) (wk v:Nat):Prop where
 b:∃ c:Int,W.heap[wk]?=some (Obj.cells #[.pointer (some ⟨v,0,none⟩),.int .i64 c] 215)
 n:¬ Ow ob W wk
 s:sB≤wk
theorem WkO.kp [Inhabited Sanct] {ob wk v:Nat} {A B:World} (h:WkO ob A wk v) (hk:KpT [] ob A B):WkO ob B wk v:=by
 obtain ⟨c,hc⟩:=h.b
 obtain ⟨h1,h2⟩:=hk.k wk _ _ _ hc (by simp) h.n
 exact ⟨⟨c,h1⟩,h2,h.s⟩
theorem WkO.below [Inhabited Sanct] {ob wk v:Nat} {A B:World} (h:WkO ob A wk v) (ho:Ob wT ob A) (hb:Below A.heap.size A B):WkO ob B wk v:=by
 obtain ⟨c,hc⟩:=h.b
 exact ⟨⟨c,blkb hb hc⟩,fun e=>h.n ((ho.same (FrT.of_below hb wT) wk).1 e),h.s⟩
theorem NdR.o [Inhabited Sanct] {w w':World} {ob:Nat} {xn:NV} {nd:Nd} (h:NdR w' w.heap.size (nvA xn) nd) (hm:nd.es.length≤1000000∧nd.ks.length≤1000000∧nd.ts.length≤1000000) (ho:Ob wT ob w) (hb:Below w.heap.size w w') :
  ∃ A1 c1 v2 A3 c3,nvA xn=#[.bool nd.lf,.slice A1 nd.es.length c1,v2,.slice A3 nd.ts.length c3]∧RwO 89 enC 8 ob w' A1 nd.es∧RwO 3 natC 1 ob w' A3 nd.ts:=by
 obtain ⟨v1,v2,v3,h0,h1,h2,h3⟩:=h.e
 obtain ⟨A1,c1,rfl⟩:=Kd.R_slice h1
 obtain ⟨A3,c3,rfl⟩:=Kd.R_slice h3
 refine ⟨A1,c1,v2,A3,c3,h0,⟨R_rw h1 hm.1,fun hp g o hA=>?_⟩,⟨R_rw h3 hm.2.2,fun hp g o hA=>?_⟩⟩
 ·obtain ⟨g',cap,hv,hg,_⟩:=Kd.R_form h1 hp
  injection hv with hv
  rw [hA] at hv
  injection hv with hv
  injection hv with hv
  exact ho.new (FrT.of_below hb _) (by omega)
 ·obtain ⟨g',cap,hv,hg,_⟩:=Kd.R_form h3 hp
  injection hv with hv
  rw [hA] at hv
  injection hv with hv
  injection hv with hv
  exact ho.new (FrT.of_below hb _) (by omega)
end
section
open Go.Shelf
attribute [local go_sem] Oper.semAt_some
attribute [local go_sem ↓] loadKey_eq loadEn_eq storeKey_eq storeEn_eq loadNd_eq storeNd_eq loadMap_eq storeMap_eq loadTab_eq storePg_eq loadRt_eq storeRt_eq
def encN (x:En):Array Value:=#[.agg (enA x),.int .i64 0]
def YOk (ob l:Nat) (xs:List En) (J:List En→World→Prop):Prop:=∀ (m:Nat) pre x W1,J pre W1→pre++[x] <+: xs→YieldAt Fence.wide m Tryz.prog l #[.agg (enA x),.int .i64 0] W1 fun e W'=>e = .returned (.bool true)∧J (pre++[x]) W'∧KpT [] ob W1 W'
def WEach [Inhabited Sanct] (ob wk v l h:Nat) (xs:List En) (J:List En→World→Prop) (a:Nat) (es:List En):Prop:=∀ (n:Nat) (W:World) (pre:List En),J pre W→WkO ob W wk v→pre++es <+: xs →
 CallsIn Fence.wide n Tryz.prog 160 #[.pointer (some ⟨wk,0,none⟩),.int .i64 (a:Int),.int .i64 (h:Int),.func (.yield l) #[] #[]] W fun e W'=>e = .returned (.bool true)∧J (pre++es) W'∧KpT wT ob W W'∧WkO ob W' wk v
theorem pre_one [Inhabited Sanct] {α:Type} {pre es xs:List α} {i:Nat} {x:α} (h:pre++es <+: xs) (hx:es[i]?=some x):(pre++es.take i)++[x] <+: xs:=by
 refine List.IsPrefix.trans ?_ h
 rw [List.append_assoc]
 refine (List.prefix_append_right_inj pre).2 ?_
 have:es.take i++[x]=es.take (i+1):=by rw [List.take_add_one,hx];rfl
 rw [this]
 exact List.take_prefix _ _
theorem weach_step [Inhabited Sanct] {v d N gen nw k ob wk h l:Nat} {m o:List Bool} {f:Nat→List Int} {nd:Nd} {L:List Kid} {xs:List En} {J:List En→World→Prop} (hh:h≤4) (a:Nat) (ha:a<N) (hok:NdOk nd) (hlf:nd.lf=decide (h=0)) (hp:PageAt f a (kindN nd) (ndB nd)) (hts:nd.ts=L.map Kid.a)
  (hJT:AbT wT J) (hJv:∀ pre A,J pre A→Ob wT ob A∧VS A v d N gen nw m o f k) (hY:YOk ob l xs J) (hkid:∀ c∈L,WEach ob wk v l h xs J c.a c.es):WEach ob wk v l (h+1) xs J a (nd.es++kidEs L):=by
 intro nn w pre hJ hwk hpx
 obtain ⟨bl,hbl⟩:∃ b,nd.lf=b:=⟨_,rfl⟩
 have HNC:=Aside0.mk (vs_node (hJv _ _ hJ).2 hok a ha hp)
 have hsm:=hok.small
 have HK:=Aside0.mk hkid
 have HY:=Aside0.mk hY
 have HJT:=Aside0.mk hJT
 have HOB:=Aside0.mk (fun pre A (hj:J pre A)=>(hJv pre A hj).1)
 have HJ:=Aside0.mk hJ
 have HPX:=Aside0.mk hpx
 have HW:=Aside0.mk hwk
 have hwks:=hwk.s
 obtain ⟨cnt,hw0⟩:=hwk.b
 have hwc:=blk_cell hw0 0
 simp only [List.getElem?_toArray,List.getElem?_cons_zero] at hwc
 obtain ⟨q,hq⟩:∃ q:Int,((h+1:Nat):Int)=q:=⟨_,rfl⟩
 have d0:(q == 1)=bl:=by
  rw [← hbl,hlf]
  by_cases e:h=0
  ·rw [decide_eq_true e];exact beq_iff_eq.2 (by omega)
  ·rw [decide_eq_false e];exact beq_eq_false_iff_ne.2 (by omega)
 have e1:wrap64 (q-1)=(h:Int):=by rw [wrap64_id (by omega) (by omega)];omega
 have e2:IntKind.i64.wrap (q-1)=(h:Int):=by rw [i64_id (by omega) (by omega)];omega
 obtain ⟨n1,hn1⟩:∃ n,nd.es.length=n:=⟨_,rfl⟩
 obtain ⟨n,hn⟩:∃ n,nd.ts.length=n:=⟨_,rfl⟩
 have hnL:L.length=n:=by rw [← hn,hts,List.length_map]
 have hn16:n≤16∧n1≤100:=by
  rcases hok with ⟨_,h2,h3,h4⟩ | ⟨_,h2,h3⟩
  ·rw [h3] at hn;simp at hn;have:=h4.n7;omega
  ·have:=h3.n16;rw [h2] at hn1;simp at hn1;omega
 rw [hq]
 rw [hbl] at HNC
 clear hok hJ hkid hY hJT hJv hp hwk hq hh hlf hpx
 refine callsIn_of_wp Tryz.func160 rfl trivial ?_ rfl
 simp only [Tryz.ntmps160,List.size_toArray,List.length_cons,List.length_nil,Nat.reduceAdd,Nat.reduceSub,Array.replicate_succ,Array.replicate_zero,List.push_toArray,List.append_toArray,List.nil_append,List.cons_append]
 gi_wp2_with (refine ⟨trivial,(fun h=>by cases h),?_⟩;gi_at_call 206;(with_reducible refine (callsIn_wide.2 HNC.out).mono ?_);rintro r w1 ⟨xn,rfl,hr,hb⟩;refine hold ?_)
 unfold Hold
 have hO0:=HOB.out _ _ HJ.out
 obtain ⟨A1,c1,v2,A3,c3,he,r1,r3⟩:=hr.o hsm hO0 hb
 rw [hn1,hn] at he
 have hst:=st_ndnew xn w1
 obtain ⟨gN,hgN⟩:∃ q,w1.heap.size=q:=⟨_,rfl⟩
 obtain ⟨w2,hw2⟩:∃ W,w1.alloc (Obj.cells (nvA xn) 175)=W:=⟨_,rfl⟩
 have hb2:Below w1.heap.size w1 w2:=by rw [← hw2];exact below_alloc (Below.refl _ _) _
 have hB2:=below_step hb hb2
 have hk2:NbAt w2 gN (nvA xn):=by rw [← hw2];exact nb_new _ hgN
 rw [hgN,hw2] at hst
 have hw0':=blkb hB2 hw0
 have c0:=blk_cell hw0' 0
 have c5:=blk_cell hw0' 1
 have z5:=blk_frozen hw0' 1
 simp only [List.getElem?_toArray,List.getElem?_cons_zero,List.getElem?_cons_succ] at c0 c5
 obtain ⟨ct,hct⟩:∃ z,wrap64 (cnt+1)=z:=⟨_,rfl⟩
 have hct2:IntKind.i64.wrap (cnt+1)=ct:=(i64_w _).trans hct
 have hf3:FrT wT w (w2.setCell ⟨wk,1,none⟩ (.int .i64 ct)):=(FrT.of_below hB2 wT).setCell hw0' (by decide) _ _
 obtain ⟨w3,hw3⟩:∃ W,w2.setCell ⟨wk,1,none⟩ (.int .i64 ct)=W:=⟨_,rfl⟩
 rw [hw3] at hf3
 have hk23:KpT wT ob w1 w3:=by
  have h1:=hO0.frT (FrT.of_below hb wT)
  refine h1.kp ?_
  rw [← hw3]
  exact (FrT.of_below hb2 wT).setCell hw0' (by decide) _ _
 have HR1:=Aside0.mk (r1.kp hk23 (by decide))
 have HR3:=Aside0.mk (r3.kp hk23 (by decide))
 have HJ3:=Aside0.mk (HJT.out _ _ _ HJ.out hf3)
 have HW3:Aside0 (WkO ob w3 wk v):=⟨⟨ct,by rw [← hw3];exact blk_set hw0' 1 _⟩,fun e=>HW.out.n ((hO0.same hf3 wk).1 e),hwks⟩
 have HK3:=Aside0.mk (hO0.kp hf3)
 have hk3:NbAt w3 gN (nvA xn):=by rw [← hw3];exact ((FrT.refl wT w2).setCell hw0' (by decide) _ _).blk hk2 (by decide)
 have HN3:Aside0 (NbAt w3 gN (nvA xn)∧¬ Ow ob w3 gN):=⟨hk3,hO0.new hf3 (by rw [← hgN];exact hb.size)⟩
 rw [he] at hk3
 have hc3:=nb_cell w3 hk3
 have HE:=Aside0.mk he
 clear hr r1 r3 hb hb2 hB2 hk2 hw2 hw0 hw0' hwc hsm hf3 hk23 hk3 hO0 he
 gi_wp2
 have HTS:=Aside0.mk hts
 have HNL:=Aside0.mk (And.intro hnL (And.intro hn16 hn1))
 clear hst hgN z5 c0 c5 hct hct2 hw3 hts hnL hn16 hn1 HJ HNC HW hc3
 gi_loopw [42] (fun v42 wr=>∃ (i:Nat) (ii:Int),v42 = .int .i64 ii∧Aside0 (ii=(i:Int)∧i≤n1)∧Aside0 (J (pre++nd.es.take i) wr)∧Aside0 (KpT wT ob w3 wr∧WkO ob wr wk v)) (fun v42 _=>((n1:Int)-intOf v42).toNat)
 case atStart=>exact ⟨0,0,rfl,⟨rfl,Nat.zero_le _⟩,⟨by simpa using HJ3.out⟩,⟨KpT.refl _ _ _,HW3.out⟩⟩
 case round=>
  clear HJ3
  obtain ⟨i,ii,rfl,HI,HJR,HKR⟩:=hrel
  have hi0:0≤ii∧ii≤100:=by have:=HI.out;have:=HNL.out;omega
  have e5:wrap64 (ii+1)=ii+1:=wrap64_id (by omega) (by omega)
  have e6:IntKind.i64.wrap (ii+1)=ii+1:=i64_id (by omega) (by omega)
  by_cases hlt:i<n1
  ·have d1:decide (ii<(n1:Int))=true:=decide_eq_true (by have:=HI.out;omega)
   have d2:(ii<(n1:Int))=True:=eq_true (by have:=HI.out;omega)
   have d3:(0≤ii)=True:=eq_true (by omega)
   have d4:ii.toNat=i:=by have:=HI.out;omega
   obtain ⟨y,hy⟩:∃ y,nd.es[i]?=some y:=⟨_,List.getElem?_eq_getElem (by rw [HNL.out.2.2];exact hlt)⟩
   have hrr:=HR1.out.kp HKR.out.1 (by decide)
   obtain ⟨g,o1,hA,hcc⟩:=hrr.1.at_ hy
   have hld:(loadEnI (.pointer (some ⟨g,o1+i*8,none⟩))).run Tryz.prog wr = .ok (.agg (enA y)) wr:=run_loadEn hcc
   subst hA
   have hst:=st_en y wr
   obtain ⟨gY,hgY⟩:∃ q,wr.heap.size=q:=⟨_,rfl⟩
   obtain ⟨W1,hW1⟩:∃ W,wr.alloc (Obj.cells (enA y) 89)=W:=⟨_,rfl⟩
   have hbW:Below wr.heap.size wr W1:=by rw [← hW1];exact below_alloc (Below.refl _ _) _
   have hyW:EnAt W1 gY y:=by rw [← hW1];exact en_new y hgY
   have hOr:=HOB.out _ _ HJR.out
   have hJ1:=HJT.out _ _ _ HJR.out (FrT.of_below hbW wT)
   have HKW:=Aside0.mk (hOr.kp (FrT.of_below hbW wT))
   have HWW:=Aside0.mk (HKR.out.2.below hOr hbW)
   rw [hgY,hW1] at hst
   have hk1:=(ld_en W1 hyW).1
   have hpo:(pre++nd.es.take i)++[y] <+: xs:=pre_one (by have:=HPX.out;rw [← List.append_assoc] at this;exact (List.prefix_append _ _).trans this) hy
   have HYA:=Aside0.mk (HY.out (nn-1) _ y W1 hJ1 hpo)
   have hys:nd.es.take i++[y]=nd.es.take (i+1):=by rw [List.take_add_one,hy];rfl
   rw [List.append_assoc,hys] at HYA
   obtain ⟨fn,tmps,assign,body,hy2,hR⟩:=HYA.out
   have HR:=Aside0.mk hR
   clear hy hcc hbW hyW hrr hOr hJ1 hpo hys hR
   gi_wp2_with (refine ⟨(fun h=>by cases h),?_⟩;(with_reducible refine HR.out.mono ?_);rintro r w7 ⟨rfl,hj7,hk7⟩;have HJ7:=Aside0.mk hj7;have HK7:=Aside0.mk hk7;clear hj7 hk7)
   go_roundw
   case rel=>exact ⟨i+1,_,rfl,⟨by have:=HI.out;omega,hlt⟩,HJ7,⟨(HKR.out.1.trans HKW.out).trans (HK7.out.mono (by simp)),HWW.out.kp HK7.out⟩⟩
   case measure=>simp [intOf];have:=HI.out;omega
  ·have d1:decide (ii<(n1:Int))=false:=decide_eq_false (by have:=HI.out;omega)
   have hi1:i=n1:=by have:=HI.out;omega
   have hall:nd.es.take i=nd.es:=List.take_of_length_le (by have:=HNL.out;omega)
   have hnk:=(HKR.out.1.k gN _ _ _ HN3.out.1 (by decide) HN3.out.2).1
   rw [HE.out] at hnk
   have hc4:=nb_cell wr hnk
   have HR4:=Aside0.mk (HR3.out.kp HKR.out.1 (by decide))
   have HJ4:=HJR.out
   rw [hall] at HJ4
   have HJ4:=Aside0.mk HJ4
   have HW4:=Aside0.mk HKR.out.2
   have HK4:=Aside0.mk (HK3.out.trans HKR.out.1)
   obtain ⟨w5,hw5⟩:∃ W,W=wr:=⟨_,rfl⟩
   subst hw5
   clear e5 e6 hi0 hlt HI HJR HKR hi1 hall hnk HK3 HW3 HN3 HR1 HR3
   gi_wp2
   clear d1 hc4
   gi_loopw [54] (fun v54 wr=>∃ (i:Nat) (ii:Int),v54 = .int .i64 ii∧Aside0 (ii=(i:Int)∧i≤n)∧Aside0 (J (pre++(nd.es++kidEs (L.take i))) wr)∧Aside0 (KpT wT ob w5 wr∧WkO ob wr wk v)) (fun v54 _=>((n:Int)-intOf v54).toNat)
   case atStart=>exact ⟨0,0,rfl,⟨rfl,Nat.zero_le _⟩,⟨by have:=HJ4.out;simpa [kidEs] using this⟩,⟨KpT.refl _ _ _,HW4.out⟩⟩
   case round=>
    clear HJ4
    obtain ⟨i,ii,rfl,HI,HJR,HKR⟩:=hrel
    have hi0:0≤ii∧ii≤100:=by have:=HI.out;have:=HNL.out;omega
    have e5:wrap64 (ii+1)=ii+1:=wrap64_id (by omega) (by omega)
    have e6:IntKind.i64.wrap (ii+1)=ii+1:=i64_id (by omega) (by omega)
    by_cases hlt:i<n
    ·have d1:decide (ii<(n:Int))=true:=decide_eq_true (by have:=HI.out;omega)
     have d2:(ii<(n:Int))=True:=eq_true (by have:=HI.out;omega)
     have d3:(0≤ii)=True:=eq_true (by omega)
     have d4:ii.toNat=i:=by have:=HI.out;omega
     obtain ⟨c,hc⟩:∃ c,L[i]?=some c:=⟨_,List.getElem?_eq_getElem (by rw [HNL.out.1];exact hlt)⟩
     have hrr:=HR4.out.kp HKR.out.1 (by decide)
     obtain ⟨g,o2,hA,hcc⟩:=hrr.1.at_ (j:=i) (x:=c.a) (by rw [HTS.out,List.getElem?_map,hc];rfl)
     have hcl:wr.cell? ⟨g,o2+i,none⟩=some (.int .i64 (c.a:Int)):=by have:=hcc 0 _ rfl;simpa using this
     subst hA
     have hpx:(pre++(nd.es++kidEs (L.take i)))++c.es <+: xs:=by
      refine List.IsPrefix.trans ?_ HPX.out
      rw [List.append_assoc,List.append_assoc]
      refine (List.prefix_append_right_inj pre).2 ((List.prefix_append_right_inj nd.es).2 ?_)
      rw [kidEs_split L i hc,← List.append_assoc]
      exact List.prefix_append _ _
     have HKC:=Aside0.mk (HK.out c (List.mem_of_getElem? hc) (nn-1) wr _ HJR.out HKR.out.2 hpx)
     have HC:=Aside0.mk hc
     clear hcc hc hrr hpx
     gi_wp2_with (refine ⟨trivial,(fun h=>by cases h),?_⟩;gi_at_call 160;(with_reducible refine HKC.out.mono ?_);rintro r w7 ⟨rfl,hj7,hk7,hq7⟩;have HJ7:=Aside0.mk hj7;have HK7:=Aside0.mk (And.intro hk7 hq7);clear hj7 hk7 hq7)
     go_roundw
     case rel=>exact ⟨i+1,_,rfl,⟨by have:=HI.out;omega,hlt⟩,⟨by have:=HJ7.out;rw [kidEs_take HC.out];simpa [List.append_assoc] using this⟩,⟨HKR.out.1.trans HK7.out.1,HK7.out.2⟩⟩
     case measure=>simp [intOf];have:=HI.out;omega
    ·have d1:decide (ii<(n:Int))=false:=decide_eq_false (by have:=HI.out;omega)
     have HE2:Aside0 (L.take i=L):=⟨List.take_of_length_le (by have:=HNL.out;omega)⟩
     gi_wp2
     go_ret
     exact ⟨rfl,by have:=HJR.out;rw [HE2.out] at this;exact this,HK4.out.trans HKR.out.1,HKR.out.2⟩
theorem weach [Inhabited Sanct] {v d N gen nw k ob wk l:Nat} {m o:List Bool} {f:Nat→List Int} {xs:List En} {J:List En→World→Prop} (hJT:AbT wT J) (hJv:∀ pre A,J pre A→Ob wT ob A∧VS A v d N gen nw m o f k) (hY:YOk ob l xs J) :
  ∀ (h:Nat) {a:Nat} {nd:Nd} {es:List En} {ps:List Nat},h≤4→NdT f h nd es ps→NdOk nd→PageAt f a (kindN nd) (ndB nd)→(∀ p∈a :: ps,p+1≤N)→WEach ob wk v l (h+1) xs J a es
 | 0,a,nd,es,ps,hh,⟨h1,_⟩,hok,hp,hN=>by
  subst h1
  have:=weach_step (h:=0) (L:=[]) (wk:=wk) hh a (hN a List.mem_cons_self) hok rfl hp rfl hJT hJv hY (fun c hc=>by cases hc)
  simpa [kidEs] using this
 | h+1,a,nd,es,ps,hh,⟨L,h1,h2,h3,h4⟩,hok,hp,hN=>by
  subst h1 h2 h3
  have:=weach_step (h:=h+1) (L:=L) (wk:=wk) hh a (hN a List.mem_cons_self) hok rfl hp rfl hJT hJv hY (fun c hc=>
   weach hJT hJv hY h (by omega) (h4 c hc).2.2.2 (h4 c hc).1 (h4 c hc).2.2.1 (fun p hp'=>hN p (List.mem_cons_of_mem _ (List.mem_flatMap.2 ⟨c,hc,hp'⟩))))
  simpa [innN] using this
end
section
open Go.Shelf
attribute [local go_sem] Oper.semAt_some
attribute [local go_sem ↓] loadKey_eq loadEn_eq storeKey_eq storeEn_eq loadNd_eq storeNd_eq loadMap_eq storeMap_eq loadTab_eq storePg_eq loadRt_eq storeRt_eq
theorem room_none (k:Nat):Fence.wide.room k:=fun d h=>by cases h
theorem yield_any {m:Nat} (m':Nat) {P:Program} {l:Nat} {args:Array Value} {W:World} {R:Ending→World→Prop} (h:YieldAt Fence.wide m P l args W R):YieldAt Fence.wide m' P l args W R:=by
 obtain ⟨fn,tmps,assign,body,hy,hR⟩:=h
 exact ⟨fn,tmps,assign,body,hy,⟨hR.1,fun c cs _=>hR.2 c cs (room_none _)⟩⟩
structure WkSt (W:World) (gw gr wk v:Nat) (a q:Int):Prop where
 w:W.heap[gw]?=some (Obj.cells #[.pointer (some ⟨wk,0,none⟩)] 213)
 r:W.heap[gr]?=some (Obj.cells #[.int .i64 a,.int .i64 q] 96)
 k:W.heap[wk]?=some (Obj.cells #[.pointer (some ⟨v,0,none⟩),.int .i64 0] 215)
theorem wentries_calls [Inhabited Sanct] {w:World} (v:Nat) (a q:Int) :
  Calls Tryz.prog 72 #[.pointer (some ⟨v,0,none⟩),.agg #[.int .i64 a,.int .i64 q]] w fun r w'=>∃ gw gr wk,r = .returned (.func (.func 159) #[] #[.pointer (some ⟨gw,0,none⟩),.pointer (some ⟨gr,0,none⟩)])∧WkSt w' gw gr wk v a q∧w.heap.size≤wk∧Below w.heap.size w w':=by
 have HE:Aside0 (∀ (W:World) (wk:Nat),W.heap[wk]?=some (Obj.cells #[.pointer (some ⟨v,0,none⟩),.int .i64 0] 215)→Calls Tryz.prog 117 #[.pointer (some ⟨wk,0,none⟩),.agg #[.int .i64 a,.int .i64 q]] W fun r w'=>∃ gw gr,r = .returned (.func (.func 159) #[] #[.pointer (some ⟨gw,0,none⟩),.pointer (some ⟨gr,0,none⟩)])∧WkSt w' gw gr wk v a q∧Below W.heap.size W w'):=⟨fun W wk hk=>by
  obtain ⟨gw,hgw⟩:∃ q,W.heap.size=q:=⟨_,rfl⟩
  obtain ⟨Wa,hWa⟩:∃ W',W.alloc (Obj.cells #[.pointer (some ⟨wk,0,none⟩)] 213)=W':=⟨_,rfl⟩
  obtain ⟨gr,hgr⟩:∃ q,Wa.heap.size=q:=⟨_,rfl⟩
  obtain ⟨W0,hW0⟩:∃ W',Wa.alloc (Obj.cells #[.int .i64 a,.int .i64 q] 96)=W':=⟨_,rfl⟩
  have HB:Aside0 (Below W.heap.size W W0):=⟨by rw [← hW0,← hWa];exact below_alloc (below_alloc (Below.refl _ _) _) _⟩
  have HX:Aside0 (WkSt W0 gw gr wk v a q):=⟨by rw [← hW0,← hWa];exact blk_alloc (newb hgw) _,by rw [← hW0];exact newb hgr,blkb HB.out hk⟩
  clear hk
  go_enter Tryz.func117,Tryz.ntmps117
  go_wp2
  go_ret
  exact ⟨gw,gr,rfl,HX.out,HB.out⟩⟩
 obtain ⟨gR,hgR⟩:∃ q,w.heap.size=q:=⟨_,rfl⟩
 obtain ⟨W0,hW0⟩:∃ W,w.alloc (Obj.cells #[.int .i64 a,.int .i64 q] 96)=W:=⟨_,rfl⟩
 obtain ⟨gK,hgK⟩:∃ q,W0.heap.size=q:=⟨_,rfl⟩
 obtain ⟨W1,hW1⟩:∃ W,W0.alloc (Obj.cells #[.pointer (some ⟨v,0,none⟩),.int .i64 0] 215)=W:=⟨_,rfl⟩
 have hb0:Below w.heap.size w W0:=by rw [← hW0];exact below_alloc (Below.refl _ _) _
 have hB1:Below w.heap.size w W1:=by rw [← hW1];exact below_alloc hb0 _
 have hr:W1.heap[gR]?=some (Obj.cells #[.int .i64 a,.int .i64 q] 96):=by rw [← hW1,← hW0];exact blk_alloc (newb hgR) _
 have hlr:=ld_rt (g:=gR) (o:=0) (a:=a) (t:=q) W1 (by intro j y hy;rw [blk_cell hr];simpa using hy)
 have HC:=Aside0.mk (HE.out W1 gK (by rw [← hW1];exact newb hgK))
 have HB:Aside0 (w.heap.size≤gK∧Below w.heap.size w W1):=⟨by rw [← hgK];exact hb0.size,hB1⟩
 clear hb0 hB1 hr HE
 go_enter Tryz.func72,Tryz.ntmps72
 go_wp2_with (go_at_call 117;(with_reducible refine HC.out.mono ?_);rintro r w7 ⟨gw,gr,rfl,hx,hb⟩;have HX:=Aside0.mk (And.intro hx hb);clear hx hb)
 go_ret
 exact ⟨gw,gr,gK,rfl,HX.out.1,HB.out.1,below_step HB.out.2 HX.out.2⟩
theorem wseq [Inhabited Sanct] {w:World} {n v d N gen nw k ob gw gr wk:Nat} {m o:List Bool} {f:Nat→List Int} {a q:Int} {es:List En} {ps:List Nat} {Iv:World→Prop} (hx:WkSt w gw gr wk v a q) (hO:Ob wT ob w) (hno:¬ Ow ob w wk) (hsk:sB≤wk) (ht:TreeOk f a q es ps) (hps:∀ p∈ps,p+1≤N) (hl:es.length≤90)
  (hIv:∀ W,Iv W→Ob wT ob W∧VS W v d N gen nw m o f k) :
  SeqT Fence.wide n Tryz.prog 159 #[.pointer (some ⟨gw,0,none⟩),.pointer (some ⟨gr,0,none⟩)] encN wT (KpT [] ob) Iv es w:=by
 intro l J W hb _ hJT _ hJI hY hJ
 have hw0:=blkb hb hx.w
 have hr0:=blkb hb hx.r
 have hk0:=blkb hb hx.k
 have c1:=blk_cell hw0 0
 have c2:=blk_cell hk0 0
 have c3:=blk_cell hr0 0
 have c4:=blk_cell hr0 1
 simp only [List.getElem?_toArray,List.getElem?_cons_zero,List.getElem?_cons_succ] at c1 c2 c3 c4
 have HWK:Aside0 (WkO ob W wk v):=⟨⟨⟨0,hk0⟩,fun e=>hno ((hO.same (FrT.of_below hb wT) wk).1 e),hsk⟩⟩
 have HY:YOk ob l es J:=fun m' pre x W1 hj hp=>yield_any m' (YieldAt.mono (hY pre x W1 hj hp) (fun e W' h=>⟨h.1,h.2.1,h.2.2.1⟩))
 have HE:Aside0 ((q=0∧es=[]) ∨ ∃ (h p:Nat),h≤2∧q=((h+1:Nat):Int)∧a=(p:Int)∧WEach ob wk v l (h+1) es J p es):=⟨by
  rcases ht with ⟨rfl,-,rfl,-⟩ | ⟨h,p,nd,ps',rfl,rfl,rfl,H,hok,h2,hp⟩
  ·exact .inl ⟨rfl,rfl⟩
  ·have hh:=(root_low H h2 hl).1
   exact .inr ⟨h,p,hh,rfl,rfl,weach hJT (fun pre A hj=>hIv A (hJI pre A hj)) HY h (by omega) H hok hp hps⟩⟩
 have HJ:=Aside0.mk hJ
 clear hx hO hno ht hps hIv hb hJT hJI hY hJ hw0 hr0 hk0 HY
 refine callsIn_of_wp Tryz.func159 rfl trivial ?_ rfl
 simp only [Tryz.ntmps159,List.size_toArray,List.length_cons,List.length_nil,Nat.reduceAdd,Nat.reduceSub,Array.replicate_succ,Array.replicate_zero,List.push_toArray,List.append_toArray,List.nil_append,List.cons_append]
 rcases HE.out with ⟨rfl,hes⟩ | ⟨h,p,hh,hq,rfl,hW⟩
 ·subst hes
  gi_wp2
  go_end0
  exact ⟨⟨_,rfl⟩,HJ.out⟩
 ·have HC:=Aside0.mk (hW (n-1) W [] HJ.out HWK.out (List.prefix_refl _))
  rw [← hq,List.nil_append] at HC
  have d1:decide (q<0)=false:=decide_eq_false (by omega)
  have d2:decide (5<q)=false:=decide_eq_false (by omega)
  have d3:decide (0<q)=true:=decide_eq_true (by omega)
  clear hh hq hW HE
  gi_wp2_with (refine ⟨trivial,(fun h=>by cases h),?_⟩;gi_at_call 160;(with_reducible refine HC.out.mono ?_);rintro r w7 ⟨rfl,hj7,-,-⟩;have HJ7:=Aside0.mk hj7;clear hj7)
  go_end0
  exact ⟨⟨_,rfl⟩,HJ7.out⟩
end
section
open Go.Shelf
attribute [local go_sem] Oper.semAt_some
attribute [local go_sem ↓] loadKey_eq loadEn_eq storeKey_eq storeEn_eq loadNd_eq storeNd_eq loadMap_eq storeMap_eq loadTab_eq storePg_eq loadRt_eq storeRt_eq
theorem bentries_calls [Inhabited Sanct] {w:World} (b:Nat) :
  Calls Tryz.prog 33 #[.pointer (some ⟨b,0,none⟩)] w fun r w'=>∃ gb,r = .returned (.func (.func 70) #[] #[.pointer (some ⟨gb,0,none⟩)])∧w'.heap[gb]?=some (Obj.cells #[.pointer (some ⟨b,0,none⟩)] 68)∧w.heap.size≤gb∧Below w.heap.size w w':=by
 go_enter Tryz.func33,Tryz.ntmps33
 go_wp2
 go_ret
 exact ⟨w.heap.size,rfl,newb rfl,Nat.le_refl _,below_alloc (Below.refl _ _) _⟩
theorem round_in {m:Nat} {P:Program} {l l2:Nat} {f:FuncId} {tmps:Array Value} {assign body:Code} {W:World} {R:Ending→World→Prop} (h:RoundIn Fence.wide m P l f tmps assign body W R):RoundIn (Fence.wide.inRound l2) m P l f tmps assign body W R:=h
structure BxO (ob:Nat) (W:World) (g:Nat) (x:Value) (t:TypeId):Prop where
 b:W.heap[g]?=some (Obj.cells #[x] t)
 n:¬ Ow ob W g
theorem BxO.kp [Inhabited Sanct] {ob g:Nat} {x:Value} {t:TypeId} {T:List Nat} {A B:World} (h:BxO ob A g x t) (hk:KpT T ob A B) (ht:t ∉ T):BxO ob B g x t:=by
 obtain ⟨h1,h2⟩:=hk.k g _ _ _ h.b ht h.n
 exact ⟨h1,h2⟩
theorem BxO.frT [Inhabited Sanct] {ob g:Nat} {x:Value} {t:TypeId} {T:List Nat} {A B:World} (h:BxO ob A g x t) (ho:Ob T ob A) (hf:FrT T A B) (ht:t ∉ T):BxO ob B g x t:=h.kp (ho.kp hf) ht
structure IvB [Inhabited Sanct] (ob b d N:Nat) (s:Sup) (m:List Bool) (v:Nat) (f:Nat→List Int) (W:World):Prop where
 o:Ob wT ob W
 vs:VS W v d N s.gen 0 m m f 0
 b:BaseAt W b d N s m v false false
theorem Ow.grown [Inhabited Sanct] {ob:Nat} {X Y:World} {row:Option Nat} (hg:X.grownBy Y row) (hr:∀ r,row=some r → ∃ o:Obj,X.heap[r]?=some o∧o.isCells=false) (hb:∃ cs t fr,X.heap[ob]?=some (Obj.cells cs t fr)) (i:Nat):Ow ob Y i↔Ow ob X i:=by
 obtain ⟨cs,t,fr,h⟩:=hb
 have h2:=slot_cells hg hr h
 unfold Ow
 rw [h,h2]
theorem bseq [Inhabited Sanct] {w:World} {n b d N v ob gb:Nat} {s:Sup} {m:List Bool} {f:Nat→List Int} {es:List En} {ps:List Nat} {Iv:World→Prop} (hgb:BxO ob w gb (.pointer (some ⟨b,0,none⟩)) 68) (hO:Ob wT ob w) (hm:m.length=512) (ht:TreeOk f (s.ra:Int) (s.rh:Int) es ps) (hps:∀ p∈ps,p+1≤N) (hl:es.length≤90)
  (hIv:∀ W,Iv W→IvB ob b d N s m v f W) :
  SeqT Fence.wide n Tryz.prog 70 #[.pointer (some ⟨gb,0,none⟩)] encN wT (KpT [] ob) Iv es w:=by
 intro l J W hb hlW hJT hJO hJI hY hJ
 have hv0:=hIv _ (hJI _ _ hJ)
 have HSB:=Aside0.mk hv0.vs.dt.sb
 have hgbW:=hgb.frT hO (FrT.of_below hb wT) (by decide)
 have HMY:Aside0 (∀ W',BaseAt W' b d N s m v false false→Calls Tryz.prog 71 #[.pointer (some ⟨b,0,none⟩)] W' fun r w'=>r = .returned (.int .i64 0)∧W'=w'):=⟨fun W' h=>bmay_calls h hm⟩
 have hbc:=cellb (b:=b) (d:=d) (N:=N) (s:=s) (v:=v) (op:=false) (en:=false) hm
 have hbr:=ldb_rt (b:=b) (d:=d) (N:=N) (s:=s) (m:=m) (v:=v) (op:=false) (en:=false)
 obtain ⟨gY,hgY⟩:∃ q,W.heap.size=q:=⟨_,rfl⟩
 obtain ⟨W0,hW0⟩:∃ W',W.alloc (Obj.cells #[.func (.yield l) #[] #[]] 140)=W':=⟨_,rfl⟩
 have hb0:Below W.heap.size W W0:=by rw [← hW0];exact below_alloc (Below.refl _ _) _
 have hO0:=hv0.o
 have hyb:BxO ob W0 gY (.func (.yield l) #[] #[]) 140:=⟨by rw [← hW0];exact newb hgY,hO0.new (FrT.of_below hb0 wT) (by omega)⟩
 have hgb0:=hgbW.frT hO0 (FrT.of_below hb0 wT) (by decide)
 have hba0:BaseAt W0 b d N s m v false false:=blkb hb0 hv0.b
 have c1:=blk_cell hgb0.b 0
 simp only [List.getElem?_toArray,List.getElem?_cons_zero,List.getElem?_cons_succ] at c1
 have HJ0:=Aside0.mk (hJT _ _ _ hJ (FrT.of_below hb0 wT))
 have HX:=Aside0.mk (And.intro hyb (And.intro hgb0 (And.intro (hO0.frT (FrT.of_below hb0 wT)) hba0)))
 have HYY:Aside0 (∀ (m':Nat) pre x W1,J pre W1→pre++[x] <+: es→YieldAt Fence.wide m' Tryz.prog l #[.agg (enA x),.int .i64 0] W1 fun e W'=>e = .returned (.bool true)∧J (pre++[x]) W'∧KpT [] ob W1 W'∧KeepsFrom (l+1) W1 W'):=⟨fun m' pre x W1 hj hp=>yield_any m' (hY pre x W1 hj hp)⟩
 have HA:=Aside0.mk (And.intro hJT (And.intro hJO (And.intro (fun pre A h=>hIv A (hJI pre A h)) (And.intro hlW (And.intro ht (And.intro hps hl))))))
 have HMYC:=Aside0.mk (HMY.out _ hba0)
 clear hgb hO ht hps hl hIv hb hJT hJO hJI hY hJ hv0 hgbW hm hyb hgb0 hlW hO0
 refine callsIn_of_wp_marks Tryz.func70 rfl trivial ?_ rfl
 simp only [Tryz.ntmps70,List.size_toArray,List.length_cons,List.length_nil,Nat.reduceAdd,Nat.reduceSub,Array.replicate_succ,Array.replicate_zero,List.push_toArray,List.append_toArray,List.nil_append,List.cons_append]
 refine wpIn_wide.2 ?_
 go_wp2_with (go_at_call 71;(with_reducible refine HMYC.out.mono ?_);rintro r w1 ⟨rfl,rfl⟩)
 have HWE:Aside0 (∀ W',Calls Tryz.prog 72 #[.pointer (some ⟨v,0,none⟩),.agg #[.int .i64 (s.ra:Int),.int .i64 (s.rh:Int)]] W' fun r w'=>∃ gw gr wk,r = .returned (.func (.func 159) #[] #[.pointer (some ⟨gw,0,none⟩),.pointer (some ⟨gr,0,none⟩)])∧WkSt w' gw gr wk v (s.ra:Int) (s.rh:Int)∧W'.heap.size≤wk∧Below W'.heap.size W' w'):=⟨fun W'=>wentries_calls v _ _⟩
 have h1:BaseAt W0.drew b d N s m v false false∧W0.drew.cell? ⟨gb,0,none⟩=some (.pointer (some ⟨b,0,none⟩)):=⟨hba0,c1⟩
 have hb1:Below W0.heap.size W0 W0.drew:=below_drew (Below.refl _ _)
 go_region_held3 (fun w'=>BaseAt w' b d N s m v false false∧w'.cell? ⟨gb,0,none⟩=some (.pointer (some ⟨b,0,none⟩))) (first | exact h1 | exact h2)
  ((go_at_call 72;(with_reducible refine (HWE.out _).mono ?_);rintro r w4 ⟨gw,gr,wk,rfl,hwk,hwks,hb⟩;have h2:BaseAt w4 b d N s m v false false∧w4.cell? ⟨gb,0,none⟩=some (.pointer (some ⟨b,0,none⟩)):=⟨blkb hb h1.1,by have:=blk_cell (blkb (below_step hb1 hb) HX.out.2.1.b) 0;simpa using this⟩))
 have hB4:Below W0.heap.size W0 w4:=below_step hb1 hb
 have hO4:=HX.out.2.2.1.frT (FrT.of_below hB4 wT)
 have hnk:¬ Ow ob w4 wk:=HX.out.2.2.1.new (FrT.of_below hB4 wT) hwks
 have hy4:=HX.out.1.frT HX.out.2.2.1 (FrT.of_below hB4 wT) (by decide)
 have hg4:=HX.out.2.1.frT HX.out.2.2.1 (FrT.of_below hB4 wT) (by decide)
 have hj4:=HA.out.1 _ _ _ HJ0.out (FrT.of_below hB4 wT)
 have hsz4:W.heap.size≤w4.heap.size:=Nat.le_trans hb0.size hB4.size
 have hsk:sB≤wk:=by
  have h7:=HSB.out
  have h8:=hb0.size
  have h9:W0.heap.size≤wk:=hwks
  omega
 clear h1 h2 hb1 hb hwks c1 hba0 HWE HMYC HMY HJ0 HX hW0 hgY
 go_wp2
 rename_i hheld
 clear hheld hbr
 refine (wpIn_wide (n:=9)).1 ?_
 refine rf_law (F:=Fence.wide) (n:=9) rfl (by decide) (gf:=159) (lb:=#[.pointer (some ⟨gw,0,none⟩),.pointer (some ⟨gr,0,none⟩)]) rfl trivial (enters_of Tryz.func159 (by kernel_rfl) rfl)
  (wseq (n:=8) (Iv:=fun W=>Ob wT ob W∧VS W v d N s.gen 0 m m f 0) hwk hO4 hnk hsk HA.out.2.2.2.2.1 HA.out.2.2.2.2.2.1 HA.out.2.2.2.2.2.2 (fun _ h=>h))
  (fun h k=>KpT.trans h k) ?kb (Below.refl _ _) (fun _=>rfl)
  (fun pre W=>J pre W∧BxO ob W gY (.func (.yield l) #[] #[]) 140∧BxO ob W gb (.pointer (some ⟨b,0,none⟩)) 68)
  ?own ?abt (fun pre A h=>⟨(HA.out.2.2.1 _ _ h.1).o,(HA.out.2.2.1 _ _ h.1).vs⟩) ⟨hj4,hy4,hg4⟩
  (fun x a' W=>∃ gx,EnAt W gx x∧a' = { tmps:=#[.func (.yield l) #[] #[],.pointer (some ⟨gb,0,none⟩),.pointer (some ⟨gY,0,none⟩),.int .i64 0,.pointer (some ⟨gx,0,none⟩),.int .i64 0,.pointer (some ⟨b,0,none⟩),.int .i64 0,.int .i64 0,.bool false,undef,undef,undef,undef,.pointer (some ⟨b,0,none⟩),.pointer (some ⟨b,0,none⟩),.pointer (some ⟨b,775,none⟩),.pointer (some ⟨v,0,none⟩),.pointer (some ⟨b,0,none⟩),.pointer (some ⟨b,0,none⟩),.pointer (some ⟨b,257,none⟩),.pointer (some ⟨b,258,none⟩),.agg #[.int .i64 (s.ra:Int),.int .i64 (s.rh:Int)],.func (.func 159) #[] #[.pointer (some ⟨gw,0,none⟩),.pointer (some ⟨gr,0,none⟩)],.agg (enA x),.int .i64 0,undef,undef,undef,undef,undef,undef,undef],defers:=[] })
  ?ax ?assign ?body ?done
 case kb=>
  intro W2 l2 o o' hl2 hW2 ho hw
  exact Ob.put (by have:=hO4.lt;omega) hW2 ho
 case own=>
  rintro pre X Y row ⟨h1,h2,h3⟩ hg hr
  have hr1:∀ r,row=some r → ∃ o:Obj,X.heap[r]?=some o∧o.isCells=false:=fun r e=>(hr r e).2
  have hob:=(HA.out.2.2.1 _ _ h1).o.b
  have ho':∃ cs t fr,X.heap[ob]?=some (Obj.cells cs t fr):=by obtain ⟨cs,t,fr,h4,-⟩:=hob;exact ⟨cs,t,fr,h4⟩
  exact ⟨HA.out.2.1 pre X Y row h1 hg (fun r e=>⟨Nat.le_trans hsz4 (hr r e).1,(hr r e).2⟩),⟨slot_cells hg hr1 h2.b,fun e=>h2.n ((Ow.grown hg hr1 ho' _).1 e)⟩,⟨slot_cells hg hr1 h3.b,fun e=>h3.n ((Ow.grown hg hr1 ho' _).1 e)⟩⟩
 case abt=>
  rintro pre X Y ⟨h1,h2,h3⟩ hf
  have hob:=(HA.out.2.2.1 _ _ h1).o
  exact ⟨HA.out.1 _ _ _ h1 hf,h2.frT hob hf (by decide),h3.frT hob hf (by decide)⟩
 case ax=>
  rintro x a'-X Y row ⟨gx,h1,h2⟩ hg hr
  exact ⟨gx,slot_cells hg (fun r e=>(hr r e).2) h1,h2⟩
 case assign=>
  rintro l2 pre x W2 K ⟨h1,h2,h3⟩ hK
  have hst:=st_en x W2
  obtain ⟨gx,hgx⟩:∃ q,W2.heap.size=q:=⟨_,rfl⟩
  obtain ⟨W3,hW3⟩:∃ W,W2.alloc (Obj.cells (enA x) 89)=W:=⟨_,rfl⟩
  have hbW:Below W2.heap.size W2 W3:=by rw [← hW3];exact below_alloc (Below.refl _ _) _
  have hxW:EnAt W3 gx x:=by rw [← hW3];exact en_new x hgx
  have hob:=(HA.out.2.2.1 _ _ h1).o
  have hK':=Aside0.mk (hK)
  have HI:=Aside0.mk (And.intro hbW (And.intro hxW (And.intro hob (And.intro h1 (And.intro h2 h3)))))
  rw [hgx,hW3] at hst
  clear hK h1 h2 h3 hbW hxW hob
  simp only [encN]
  gi_wp2
  have hk:=(HI.out.2.2.1.nil).kp (FrT.of_below HI.out.1 [])
  exact hK'.out _ W3 ((FrT.of_below HI.out.1 []).keeps _) hk ⟨HA.out.1 _ _ _ HI.out.2.2.2.1 (FrT.of_below HI.out.1 wT),HI.out.2.2.2.2.1.kp hk (by simp),HI.out.2.2.2.2.2.kp hk (by simp)⟩ ⟨gx,HI.out.2.1,rfl⟩
 case body=>
  rintro l2 pre x a' W2 ⟨h1,h2,h3⟩ ⟨gx,hx,rfl⟩ hp
  have hbd:Below W2.heap.size W2 W2.drew:=below_drew (Below.refl _ _)
  have hob:=(HA.out.2.2.1 _ _ h1).o
  have hkd:=hob.nil.kp (FrT.of_below hbd [])
  have c1:=blk_cell (blkb hbd h2.b) 0
  have c2:=blk_cell (blkb hbd h3.b) 0
  simp only [List.getElem?_toArray,List.getElem?_cons_zero,List.getElem?_cons_succ] at c1 c2
  have hld:=ld_en_en W2.drew (blkb hbd hx)
  have HH:=Aside0.mk (And.intro (h2.kp hkd (by simp)) (And.intro (h3.kp hkd (by simp)) hkd))
  have HYA:=HYY.out 6 pre x W2.drew (HA.out.1 _ _ _ h1 (FrT.of_below hbd wT)) hp
  obtain ⟨fn,tmps,assign,body,hy2,hR⟩:=HYA
  have HR:=Aside0.mk hR
  have HST:Aside0 (∀ W,Calls Tryz.prog 73 #[.pointer (some ⟨b,0,none⟩),.int .i64 0] W fun r w'=>r = .returned (.int .i64 0)∧W=w'):=⟨fun W=>bstop_calls b⟩
  have hlw:l+1≤w4.heap.size:=by have:=HA.out.2.2.2.1;omega
  have HL:=Aside0.mk (And.intro hlw hsz4)
  clear h1 h2 h3 hx hp hkd hR hob hlw hsz4 hj4 hg4 hy4 hnk hO4 hwk hB4 hb0
  gi_wp2
  gi_region_with (first
   | ((first | refine ⟨trivial,(fun h=>by cases h),?_⟩ | refine ⟨trivial,?_⟩);gi_at_call 73;(with_reducible refine (CallsIn.inRound l2 (callsIn_wide.2 (HST.out _))).mono ?_);rintro r w5 ⟨rfl,rfl⟩)
   | ((try refine ⟨(fun h=>by cases h),?_⟩);(with_reducible refine (round_in HR.out).mono ?_);rintro r w7 ⟨rfl,hj7,hk7,hf7⟩))
  all_goals
   gi_wp2
   refine ⟨((FrT.of_below hbd []).keeps _).trans ⟨hf7.size,fun k o hk ho hc=>hf7.same k o (by have:=HL.out;omega) ho hc⟩,HH.out.2.2.trans hk7,hj7,HH.out.1.kp hk7 (by simp),HH.out.2.1.kp hk7 (by simp)⟩
 case done=>
  rintro D W2 hD ⟨h1,h2,h3⟩ hK
  go_wp2
  refine ⟨by simp,.inl ⟨_,_,rfl,run_takeDeferred hK,?_⟩⟩
  exact ⟨.tuple #[],by simp [results,Tryz.f70,go_sem],⟨_,rfl⟩,HA.out.2.1.putObj _ h1 (by omega) hK rfl⟩
end
end Go.Proofs.YtnhkikebfinejaaGreatDoor.Z
