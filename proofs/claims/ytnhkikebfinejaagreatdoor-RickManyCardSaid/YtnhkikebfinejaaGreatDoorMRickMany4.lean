/- Texts of this claim, laid together. No conditions. -/
import Derived.Test.YtnhkikebfinejaaGreatDoorMRickMany3
import Derived.Laws.CopyOwn
import Derived.Deep.RegionWith
import Derived.Deep.DrawnRows
import Derived.Deep.WholeRow
import Derived.Deep.MidRow
set_option linter.unusedVariables false
set_option linter.unusedSimpArgs false
set_option maxRecDepth 100000
set_option maxHeartbeats 16000000
namespace Go.Proofs.YtnhkikebfinejaaGreatDoor.Z
open Go Go.RowKit Go.Proofs.YtnhkikebfinejaaGreatDoorW.PrintWords Go.Proofs.YtnhkikebfinejaaGreatDoorW.PrintLast Go.Proofs.YtnhkikebfinejaaGreatDoorW.PrintMore Go.Proofs.YtnhkikebfinejaaGreatDoor.S Go.Proofs.YtnhkikebfinejaaGreatDoor.X
section
attribute [local go_sem] max2_int min2_int max_two min_two
def Row (w:World) (g:Nat) (e:TypeId) (cs:List Value):Prop:=∃ z:List Value,w.heap[g]?=some (.cells (cs++z).toArray e (0,0))
abbrev Wt:=Int×Nat×List Int
def Wr (p:Wt) (cs:List Value):Prop:=∃ c,64≤c∧cs=[.int .i64 p.1,.slice (some ⟨p.2.1,0,none⟩) 64 c]
def cut64 (img:List Int) (s:Nat):List Int:=(img.drop (64*s)).take 64
def sec (img:List Int):List Wt→Nat→List Int
 | [],s=>cut64 img s
 | p :: ps,s=>sec' (if p.1=(s:Int) then p.2.2 else cut64 img s) ps s
 where sec':List Int→List Wt→Nat→List Int
 | acc,[],_=>acc
 | acc,p :: ps,s=>sec' (if p.1=(s:Int) then p.2.2 else acc) ps s
theorem sec_eq (img:List Int) (ps:List Wt) (s:Nat):sec img ps s=sec.sec' (cut64 img s) ps s:=by
 cases ps<;>rfl
theorem sec_snoc (img:List Int) (ps:List Wt) (p:Wt) (s:Nat):sec img (ps++[p]) s=if p.1=(s:Int) then p.2.2 else sec img ps s:=by
 rw [sec_eq,sec_eq]
 generalize cut64 img s=acc
 induction ps generalizing acc with
 | nil=>rfl
 | cons q ps ih=>exact ih _
theorem add_none (g o i:Nat):(⟨g,o,none⟩:Addr).add i=⟨g,o+i,none⟩:=by unfold Addr.add;split<;>simp_all
theorem C_of {w:World} {k:IntKind} {g o:Nat} {xs:List Int} (h:∀ i x,xs[i]?=some x→w.cell? ⟨g,o+i,none⟩=some (.int k x)) (hn:xs.length≤9223372036854775807):Kd.C (Kd.int k) w (some ⟨g,o,none⟩) xs.length xs:=by
 refine ⟨rfl,hn,fun _=>⟨⟨g,o,none⟩,rfl,fun j x hx=>⟨[.int k x],rfl,rfl,fun i u hu=>?_⟩⟩⟩
 rcases i with _ | i
 ·simp at hu
  subst hu
  rw [add_none]
  simpa [Kd.int,Kd.scalar] using h j x hx
 ·simp at hu
theorem Row.cell {w:World} {g:Nat} {e:TypeId} {cs:List Value} (h:Row w g e cs) {i:Nat} {v:Value} (hi:cs[i]?=some v):w.cell? ⟨g,i,none⟩=some v:=by
 obtain ⟨z,hz⟩:=h
 rw [blk_cell hz i,List.getElem?_toArray,List.getElem?_append_left (List.getElem?_eq_some_iff.1 hi).1,hi]
theorem Row.C {w:World} {g:Nat} {e:TypeId} {k:IntKind} {bs:List Int} (h:Row w g e (nums k bs)) (o:Nat) (xs:List Int) (hx:∀ i x,xs[i]?=some x→bs[o+i]?=some x) (hn:xs.length≤9223372036854775807):Kd.C (Kd.int k) w (some ⟨g,o,none⟩) xs.length xs:=
 C_of (fun i x hi=>h.cell (by simp [nums,hx i x hi])) hn
theorem Row.of {w:World} {g:Nat} {e:TypeId} {cs:List Value} (h:w.heap[g]?=some (.cells cs.toArray e (0,0))):Row w g e cs:=⟨[],by simpa using h⟩
theorem clone_calls {w:World} {A:Option Addr} {c n:Nat} {xs:List Int} (hl:xs.length=n) (hr:Kd.C (Kd.int .u8) w A xs.length xs) (hc:n≤c) (hn:n<140737488355328) :
  Calls Tryz.prog 39 #[.slice A n c] w fun e w'=>∃ v0_:Value,e = .returned (v0_)∧Kd.R (Kd.int .u8) 5 w' w.heap.size (fun _=>True) v0_ xs∧Below w.heap.size w w':=by
 subst hl
 exact bytes_Clone.calls A c xs xs w hr hc (by unfold bytes_Clone.f;rw [if_pos hn])
theorem cut64_get {img:List Int} {s i:Nat} {x:Int} (h:(cut64 img s)[i]?=some x):img[64*s+i]?=some x:=by
 unfold cut64 at h
 rw [List.getElem?_take] at h
 split at h
 ·rwa [List.getElem?_drop] at h
 ·cases h
theorem cut64_len {img:List Int} {s N:Nat} (hl:img.length=256*N) (hs:s<4*N):(cut64 img s).length=64:=by
 unfold cut64;rw [List.length_take,List.length_drop];omega
theorem cut64_bs {img:List Int} (h:Bs img) (s:Nat):Bs (cut64 img s):=(h.drop _).take _
structure Dk (w:World) (d a:Nat) (wv:Value) (img:List Int) (ps:List Wt) (N:Nat) (O:Nat→Prop):Prop where
 hd:w.heap[d]?=some (.cells #[.slice (some ⟨a,0,none⟩) (256*N) (256*N),wv,.bool false,.int .i64 (-1)] 66 (0,0))
 ha:w.heap[a]?=some (.cells (nums .u8 img).toArray 5 (0,0))
 hl:img.length=256*N
 hb:Bs img
 hw:OwnRow Wr 168 2 w 0 wv ps
 hp:∀ p∈ps,0≤p.1∧p.1<4*N∧p.2.2.length=64∧Bs p.2.2∧O p.2.1∧p.2.1≠a∧Row w p.2.1 5 (nums .u8 p.2.2)
 hO:O d∧O a∧(∀ k,wv.ownBlock=some k→O k) ∧ ∀ k,O k→k<w.heap.size
 hN:8≤N∧N≤512
def Disk (w:World) (d:Nat) (O:Nat→Prop) (N n:Nat) (f:Nat→List Int):Prop:=
 ∃ a wv img ps,Dk w d a wv img ps N O∧(∀ s,s<4*N→f s=sec img ps s)∧ps.length=n
theorem Row.fr {w W:World} {S:Nat→Prop} {g:Nat} {e:TypeId} {cs:List Value} (h:Row w g e cs) (hf:Fr w W S) (hn:¬ S g):Row W g e cs:=by
 obtain ⟨z,hz⟩:=h
 exact ⟨z,hf.blk hz hn⟩
theorem OwnRow.fr {α:Type} {R:α→List Value→Prop} {e:TypeId} {size:Nat} {w W:World} {base:Nat} {v:Value} {ps:List α} {S:Nat→Prop} (h:OwnRow R e size w base v ps) (hf:Fr w W S) (hn:∀ k,v.ownBlock=some k→¬ S k):OwnRow R e size W base v ps:=by
 obtain ⟨inner,⟨h1,h2⟩,hr⟩:=h
 refine ⟨inner,⟨h1,?_⟩,hr⟩
 rcases h2 with h2 | ⟨g,cap,cur,hv,hg,hh,r⟩
 ·exact Or.inl h2
 ·exact Or.inr ⟨g,cap,cur,hv,hg,hf.blk hh (hn g (by rw [hv];rfl)),r⟩
theorem Dk.fr {w W:World} {d a N:Nat} {wv:Value} {img:List Int} {ps:List Wt} {O S:Nat→Prop} (h:Dk w d a wv img ps N O) (hf:Fr w W S) (hs:∀ k,O k→¬ S k):Dk W d a wv img ps N O where
 hd:=hf.blk h.hd (hs _ h.hO.1)
 ha:=hf.blk h.ha (hs _ h.hO.2.1)
 hl:=h.hl
 hb:=h.hb
 hw:=OwnRow.fr h.hw hf (fun k hk=>hs k (h.hO.2.2.1 k hk))
 hp:=fun p hp=>by
  obtain ⟨h1,h2,h3,h4,h5,h6,h7⟩:=h.hp p hp
  exact ⟨h1,h2,h3,h4,h5,h6,h7.fr hf (hs _ h5)⟩
 hO:=⟨h.hO.1,h.hO.2.1,h.hO.2.2.1,fun k hk=>Nat.lt_of_lt_of_le (h.hO.2.2.2 k hk) hf.size⟩
 hN:=h.hN
theorem Disk.fr {w W:World} {d N n:Nat} {f:Nat→List Int} {O S:Nat→Prop} (h:Disk w d O N n f) (hf:Fr w W S) (hs:∀ k,O k→¬ S k):Disk W d O N n f:=by
 obtain ⟨a,wv,img,ps,hd,hv⟩:=h
 exact ⟨a,wv,img,ps,hd.fr hf hs,hv⟩
theorem Disk.lt {w:World} {d N n:Nat} {f:Nat→List Int} {O:Nat→Prop} (h:Disk w d O N n f) {k:Nat} (hk:O k):k<w.heap.size:=by
 obtain ⟨a,wv,img,ps,hd,hv⟩:=h
 exact hd.hO.2.2.2 k hk
theorem Disk.below {w W:World} {d N n:Nat} {f:Nat→List Int} {O:Nat→Prop} (h:Disk w d O N n f) (hb:Below w.heap.size w W):Disk W d O N n f:=h.fr (Fr.of_below hb (fun _=>False)) (fun _ _ hk=>hk)
theorem add_block (ad:Addr) (k:Nat):(ad.add k).block=ad.block:=by unfold Addr.add;split<;>rfl
theorem C_fr {w W:World} {S:Nat→Prop} {k:IntKind} {A:Option Addr} {n:Nat} {xs:List Int} (h:Kd.C (Kd.int k) w A n xs) (hf:Fr w W S) (hn:∀ ad,A=some ad→¬ S ad.block):Kd.C (Kd.int k) W A n xs:=by
 refine ⟨h.1,h.2.1,fun h0=>?_⟩
 obtain ⟨ad,hA,hc⟩:=h.2.2 h0
 refine ⟨ad,hA,fun j p hj=>?_⟩
 obtain ⟨c,h1,h2,h3⟩:=hc j p hj
 exact ⟨c,h1,h2,fun i u hu=>hf.cell (h3 i u hu) (by rw [add_block];exact hn ad hA)⟩
theorem may_calls {w:World} {d N:Nat} {wv:Value} {a:Nat} (hd:w.heap[d]?=some (.cells #[.slice (some ⟨a,0,none⟩) (256*N) (256*N),wv,.bool false,.int .i64 (-1)] 66 (0,0))) (s:Int) (h0:0≤s) (h1:s<4*N) (hN:N≤512) :
  Calls Tryz.prog 143 #[.pointer (some ⟨d,0,none⟩),.int .i64 s] w fun e w'=>e = .returned (.int .i64 0)∧w=w':=by
 have c0:=blk_cell hd 0
 have c2:=blk_cell hd 2
 simp only [List.getElem?_toArray,List.getElem?_cons_zero,List.getElem?_cons_succ] at c0 c2
 have d1:decide (s<0)=false:=decide_eq_false (by omega)
 have d2:decide (256*(N:Int) / 64≤s)=false:=decide_eq_false (by omega)
 go_enter Tryz.func143,Tryz.ntmps143
 go_wp2
 go_ret
 exact ⟨rfl,rfl⟩
theorem stops_calls {w:World} {d:Nat} {v0 wv:Value} (hd:w.heap[d]?=some (.cells #[v0,wv,.bool false,.int .i64 (-1)] 66 (0,0))) :
  Calls Tryz.prog 97 #[.pointer (some ⟨d,0,none⟩)] w fun e w'=>e = .returned (.bool false)∧w'.heap[d]?=some (.cells #[v0,wv,.bool false,.int .i64 (-1)] 66 (0,0))∧Fr w w' (fun k=>k=d):=by
 have c3:=blk_cell hd 3
 have f3:=blk_frozen hd 3
 simp only [List.getElem?_toArray,List.getElem?_cons_zero,List.getElem?_cons_succ] at c3
 have hs:=blk_set hd 3 (.int .i64 (-1))
 have HS:=Aside0.mk hs
 clear hd hs
 go_enter Tryz.func97,Tryz.ntmps97
 go_wp2
 go_ret
 exact ⟨rfl,HS.out,(Fr.refl w (fun k=>k=d)).setCell (p:=⟨d,3,none⟩) (Or.inl rfl) _⟩
theorem pages_calls {w:World} {d N n:Nat} {O:Nat→Prop} {f:Nat→List Int} (h:Disk w d O N n f) :
  Calls Tryz.prog 58 #[.pointer (some ⟨d,0,none⟩)] w fun e w'=>e = .returned (.int .i64 (N:Int))∧w=w':=by
 obtain ⟨a,wv,img,ps,hk,_⟩:=h
 have c0:=blk_cell hk.hd 0
 simp only [List.getElem?_toArray,List.getElem?_cons_zero,List.getElem?_cons_succ] at c0
 have e1:256*(N:Int) / 256=(N:Int):=by omega
 have e2:wrap64 (N:Int)=(N:Int):=wrap64_id (by omega) (by have:=hk.hN;omega)
 clear hk
 go_enter Tryz.func58,Tryz.ntmps58
 go_wp2
 go_ret
 refine ⟨?_,rfl⟩
 show Ending.returned (.int .i64 (wrap64 (N:Int)))=_
 rw [e2]
theorem sector_calls {w:World} {d N a s:Nat} {wv v2 v3:Value} (hd:w.heap[d]?=some (.cells #[.slice (some ⟨a,0,none⟩) (256*N) (256*N),wv,v2,v3] 66 (0,0))) (h1:s<4*N) (hN:N≤512) :
  Calls Tryz.prog 98 #[.pointer (some ⟨d,0,none⟩),.int .i64 (s:Int)] w fun e w'=>e = .returned (.slice (some ⟨a,64*s,none⟩) 64 (256*N-64*s))∧w=w':=by
 have c0:=blk_cell hd 0
 simp only [List.getElem?_toArray,List.getElem?_cons_zero,List.getElem?_cons_succ] at c0
 clear hd
 go_enter Tryz.func98,Tryz.ntmps98
 go_wp2
 go_ret
 refine ⟨?_,rfl⟩
 show Ending.returned (.slice (some ⟨a,s*64,none⟩) ((s+1)*64-s*64) (256*N-s*64))=_
 rw [Nat.mul_comm s 64,show (s+1)*64-64*s=64 by omega]
theorem made_u8 (n:Nat):madeCells (Value.int IntKind.u8 0).cells (n*1)=(nums .u8 (List.replicate n 0)).toArray:=by
 apply Array.ext
 ·simp [madeCells,nums]
 ·intro i h1 h2
  simp [madeCells,nums,Value.cells,Nat.mod_one]
theorem info_u8:(Tryz.prog.info? 5).map (fun i=>(i.zero,i.size,i.bytes))=some (some (.int .u8 0),1,1):=by kernel_rfl
theorem make_u8 (W:World) (x:Int) (n:Nat) (hx:x=(n:Int)) (hn:n≤1000000):(Instr.makeSlice 46 (.int .i64 x) (.int .i64 x)).run Tryz.prog W = .ok (.slice (some ⟨W.heap.size,0,none⟩) n n) (W.alloc (.cells (nums .u8 (List.replicate n 0)).toArray 5)):=by
 obtain ⟨i0,hi0,hz0,hsz0,hby0⟩:=info_parts info_u8
 have:=run_makeSlice W 46 5 i0 _ Tryz.underlying46 hi0 hz0 .i64 .i64 x x (by omega) (Int.le_refl _) (by rw [hsz0];omega) (by rw [hby0];omega) (by omega)
 rw [this,hx,hsz0,Int.toNat_natCast,made_u8]
theorem sec_nil (img:List Int) (s:Nat):sec img [] s=cut64 img s:=rfl
theorem new_calls {w:World} {N:Nat} (h8:8≤N) (h5:N≤512) :
  Calls Tryz.prog 6 #[.int .i64 (N:Int)] w fun e w'=>∃ d O,e = .returned (.tuple #[.pointer (some ⟨d,0,none⟩),.int .i64 0])∧Disk w' d O N 0 (fun _=>List.replicate 64 0)∧(∀ k,O k→w.heap.size≤k)∧Below w.heap.size w w':=by
 have d1:decide ((N:Int)<8)=false:=decide_eq_false (by omega)
 have d2:decide (512<(N:Int))=false:=decide_eq_false (by omega)
 have hm:=fun W=>make_u8 W ((N:Int)*256) (256*N) (by omega) (by omega)
 go_enter Tryz.func6,Tryz.ntmps6
 go_wp2
 go_ret2
 refine ⟨w.heap.size+1,fun k=>k=w.heap.size∨k=w.heap.size+1,rfl,⟨w.heap.size,.slice none 0 0,List.replicate (256*N) 0,[],?_,fun s hs=>?_,rfl⟩,fun k hk=>by omega,((Below.refl w.heap.size w).alloc (Nat.le_refl _) _).alloc (by simp) _⟩
 ·have h0:=blk_alloc (heap_alloc_new w (Obj.cells (nums .u8 (List.replicate (256*N) 0)).toArray 5)) (Obj.cells #[Value.slice (some { block:=w.heap.size,off:=0 }) (256*N) (256*N),Value.slice none 0 0,Value.bool false,Value.int IntKind.i64 (-1)] 66)
  have h1:=heap_alloc_new (w.alloc (Obj.cells (nums .u8 (List.replicate (256*N) 0)).toArray 5)) (Obj.cells #[Value.slice (some { block:=w.heap.size,off:=0 }) (256*N) (256*N),Value.slice none 0 0,Value.bool false,Value.int IntKind.i64 (-1)] 66)
  rw [World.size_alloc] at h1
  exact ⟨h1,h0,by simp,fun x hx=>by rw [(List.mem_replicate.1 hx).2];omega,OwnRow.none_ _ _ _ _ _,fun p hp=>by simp at hp,⟨Or.inr rfl,Or.inl rfl,fun k hk=>by simp [Value.ownBlock] at hk,fun k hk=>by simp;omega⟩,⟨h8,h5⟩⟩
 ·rw [sec_nil]
  unfold cut64
  rw [List.drop_replicate,List.take_replicate,Nat.min_eq_left (by omega)]
theorem sec_at (img:List Int) (ps:List Wt) (s:Nat):∀ d j,j+d=ps.length→(∀ i p,j≤i→ps[i]?=some p→p.1≠(s:Int))→sec img ps s=sec img (ps.take j) s:=by
 intro d
 induction d with
 | zero=>intro j hj _;rw [List.take_of_length_le (by omega)]
 | succ d ih=>
  intro j hj hne
  rw [ih (j+1) (by omega) (fun i p hi=>hne i p (by omega)),List.take_succ_eq_append_getElem (show j<ps.length by omega),sec_snoc,if_neg (hne j _ (Nat.le_refl _) (List.getElem?_eq_getElem (show j<ps.length by omega)))]
theorem read_calls {w:World} {d N n:Nat} {O:Nat→Prop} {f:Nat→List Int} (h:Disk w d O N n f) (s:Nat) (hs:s<4*N) :
  Calls Tryz.prog 167 #[.pointer (some ⟨d,0,none⟩),.int .i64 (s:Int)] w fun e w'=>∃ v,e = .returned (.tuple #[v,.int .i64 0])∧Kd.R (Kd.int .u8) 5 w' w.heap.size (fun _=>True) v (f s)∧(f s).length=64∧Bs (f s)∧Below w.heap.size w w':=by
 obtain ⟨a,wv,img,ps,hk,hf,rfl⟩:=h
 have c1:=blk_cell hk.hd 1
 have HK:=Aside0.mk hk
 have hN:=hk.hN.2
 simp only [List.getElem?_toArray,List.getElem?_cons_zero,List.getElem?_cons_succ] at c1
 obtain ⟨A,cap,rfl,_,hrow⟩:=hk.hw.reads
 have HROW:=Aside0.mk hrow
 have hlen:ps.length≤9223372036854775807:=hrow.2.1
 clear hk hrow
 go_enter Tryz.func167,Tryz.ntmps167
 go_wp2_with (first
  | (go_at_call 143;(with_reducible refine (may_calls HK.out.hd (s:Int) (by omega) (by omega) hN).mono ?_);rintro e w1 ⟨rfl,rfl⟩))
 have HF:=Aside0.mk (hf s hs)
 have HS:=Aside0.mk hs
 clear hf hs
 go_loopw [7] (fun v7 wr=>∃ (j:Nat) (jj:Int),v7 = .int .i64 jj∧Aside0 (jj=(j:Int)-1)∧Aside0 (j≤ps.length)∧Aside0 (∀ i p,j≤i→ps[i]?=some p→p.1≠(s:Int))∧wr=w) (fun v7 _=>(intOf v7+1).toNat)
 case atStart=>exact ⟨ps.length,_,rfl,⟨by first | rfl | exact wrap64_id (by omega) (by omega)⟩,⟨Nat.le_refl _⟩,⟨fun i p hi hp=>by have:=(List.getElem?_eq_some_iff.1 hp).1;omega⟩,rfl⟩
 case round=>
  obtain ⟨j,jj,rfl,HJ,HJL,HNE,hwr⟩:=hrel
  obtain rfl:=hwr.symm
  by_cases h0:j=0
  ·have d1:decide (0≤jj)=false:=decide_eq_false (by have:=HJ.out;omega)
   have hfs:f s=cut64 img s:=by
    rw [HF.out,sec_at img ps s ps.length 0 (by omega) (fun i p hi hp=>HNE.out i p (by omega) hp)];rfl
   have HFS:=Aside0.mk hfs
   have HC:Aside0 (Kd.C (Kd.int .u8) w (some ⟨a,64*s,none⟩) (cut64 img s).length (cut64 img s)):=⟨(Row.of HK.out.ha).C _ _ (fun i x hx=>cut64_get hx) (by rw [cut64_len HK.out.hl HS.out];decide)⟩
   have HL:=Aside0.mk (cut64_len HK.out.hl HS.out)
   clear h0 hfs HNE HJL HROW HF
   go_wp2_with (first
    | (go_at_call 98;(with_reducible refine (sector_calls HK.out.hd HS.out hN).mono ?_);rintro e w2 ⟨rfl,rfl⟩)
    | (go_at_call 39;(with_reducible refine (clone_calls HL.out HC.out (by have:=HS.out;omega) (by decide)).mono ?_);rintro e w3 ⟨v3,rfl,ho,hb⟩;have HO:=Aside0.mk ho;have HB:=Aside0.mk hb;clear ho hb))
   go_ret2
   exact ⟨v3,rfl,by rw [HFS.out];exact HO.out,by rw [HFS.out];exact HL.out,by rw [HFS.out];exact cut64_bs HK.out.hb s,HB.out⟩
  ·have hlt:j-1<ps.length:=by have:=HJL.out;omega
   have d1:decide (0≤jj)=true:=decide_eq_true (by have:=HJ.out;omega)
   have d2:(jj<(ps.length:Int))=True:=eq_true (by have:=HJ.out;omega)
   have d3:(0≤jj)=True:=eq_true (by have:=HJ.out;omega)
   obtain ⟨p,hp⟩:∃ p,ps[j-1]?=some p:=⟨_,List.getElem?_eq_getElem hlt⟩
   obtain ⟨ad,hA,hcells⟩:=HROW.out.2.2 (by omega)
   subst hA
   obtain ⟨cs,_,⟨cq,hcq,rfl⟩,hc⟩:=hcells _ _ hp
   have e1:=hc 0 _ rfl
   have e2:=hc 1 _ rfl
   obtain ⟨p1,p2,p3,p4,p5,p6,p7⟩:=HK.out.hp p (List.mem_of_getElem? hp)
   have ejj:jj.toNat=j-1:=by have:=HJ.out;omega
   rw [Nat.add_zero] at e1
   have e3:w.cell? ⟨(ad.add ((j-1)*2)).block,(ad.add ((j-1)*2)).off+1,none⟩=some (.slice (some ⟨p.2.1,0,none⟩) 64 cq):=by
    rw [← add_field _ _ 1 (by omega)];exact e2
   have HP:=Aside0.mk hp
   have HP7:=Aside0.mk p7
   have HP3:=Aside0.mk p3
   have HP4:=Aside0.mk p4
   clear hcells hc e2 p1 p2 p3 p4 p5 p6 p7 hp
   obtain ⟨i1,hi1⟩:∃ i,p.1=i:=⟨_,rfl⟩
   rw [hi1] at e1
   by_cases hs:i1=(s:Int)
   ·have d4:(i1 == (s:Int))=true:=beq_iff_eq.mpr hs
    have hfs:f s=p.2.2:=by
     have h1:j-1<ps.length:=hlt
     have h2:=List.getElem?_eq_some_iff.1 HP.out
     rw [HF.out,sec_at img ps s (ps.length-j) j (by have:=HJL.out;omega) HNE.out,show j=j-1+1 by omega,List.take_succ_eq_append_getElem h1,sec_snoc,h2.2,if_pos (by rw [hi1];exact hs)]
    have HFS:=Aside0.mk hfs
    have HC:Aside0 (Kd.C (Kd.int .u8) w (some ⟨p.2.1,0,none⟩) p.2.2.length p.2.2):=⟨HP7.out.C _ _ (fun i x hx=>by rw [Nat.zero_add];exact hx) (by rw [HP3.out];decide)⟩
    have HQ:Aside0 (64≤cq):=⟨hcq⟩
    clear hfs HNE HJL HROW HF HP hi1 hs
    go_wp2_with (first
     | (go_at_call 39;(with_reducible refine (clone_calls HP3.out HC.out HQ.out (by decide)).mono ?_);rintro e w3 ⟨v3,rfl,ho,hb⟩;have HO:=Aside0.mk ho;have HB:=Aside0.mk hb;clear ho hb))
    go_ret2
    exact ⟨v3,rfl,by rw [HFS.out];exact HO.out,by rw [HFS.out];exact HP3.out,by rw [HFS.out];exact HP4.out,HB.out⟩
   ·have d4:(i1 == (s:Int))=false:=beq_eq_false_iff_ne.mpr hs
    have e5:wrap64 (jj-1)=jj-1:=wrap64_id (by have:=HJ.out;omega) (by have:=HJ.out;have:=HJL.out;omega)
    go_wp2
    go_roundw
    case rel=>exact ⟨j-1,_,rfl,⟨by have:=HJ.out;omega⟩,⟨by have:=HJL.out;omega⟩,⟨fun i q hi hq=>by
     by_cases e:i=j-1
     ·rw [e,HP.out] at hq
      obtain rfl:=Option.some.inj hq
      rw [hi1];exact hs
     ·exact HNE.out i q (by omega) hq⟩,trivial⟩
    case measure=>simp [intOf];have:=HJ.out;omega
theorem own_row {k:IntKind} {e:TypeId} {W:World} {base:Nat} {ok:Nat→Prop} {v:Value} {xs:List Int} (h:Kd.R (Kd.int k) e W base ok v xs) (h0:0<xs.length) :
  ∃ q c,v = .slice (some ⟨q,0,none⟩) xs.length c∧xs.length≤c∧base≤q∧Row W q e (nums k xs):=by
 obtain ⟨h1,h2 | ⟨g,cap,cur,hv,hg,hh,hn,hm,hz,ht⟩⟩:=Kd.own_of_R h
 ·omega
 ·refine ⟨g,cap,hv,hn,hg,cur.toList.drop (xs.length*1),?_⟩
  rw [show nums k xs=encs (Value.int k) xs from rfl,← ht,List.take_append_drop]
  simpa using hh
def put (f:Nat→List Int) (s:Nat) (xs:List Int):Nat→List Int:=fun i=>if i=s then xs else f i
theorem Dk.redo {w w1:World} {d a N:Nat} {wv:Value} {img:List Int} {ps:List Wt} {O:Nat→Prop} (h:Dk w d a wv img ps N O) (hf:Fr w w1 (fun k=>k=d)) (hd:w1.heap[d]?=some (.cells #[.slice (some ⟨a,0,none⟩) (256*N) (256*N),wv,.bool false,.int .i64 (-1)] 66 (0,0))):Dk w1 d a wv img ps N O where
 hd:=hd
 ha:=hf.blk h.ha (fun e=>blk_ne h.ha h.hd (by decide) e)
 hl:=h.hl
 hb:=h.hb
 hw:=OwnRow.fr h.hw hf (fun k hk e=>h.hw.ne_block h.hd (by decide) (by rw [hk,e]))
 hp:=fun p hp=>by
  obtain ⟨h1,h2,h3,h4,h5,h6,z,h7⟩:=h.hp p hp
  exact ⟨h1,h2,h3,h4,h5,h6,z,hf.blk h7 (fun e=>blk_ne h7 h.hd (by decide) e)⟩
 hO:=⟨h.hO.1,h.hO.2.1,h.hO.2.2.1,fun k hk=>Nat.lt_of_lt_of_le (h.hO.2.2.2 k hk) hf.size⟩
 hN:=h.hN
theorem Row.grown {w w1:World} {g:Nat} {e:TypeId} {cs:List Value} (h:Row w g e cs) {α:Type} {R:α→List Value→Prop} {e2:TypeId} {size base:Nat} {v:Value} {ps:List α} (hw:OwnRow R e2 size w base v ps) (he:e2≠e) (hg:w.grownBy w1 v.ownBlock):Row w1 g e cs:=by
 obtain ⟨z,hz⟩:=h
 exact ⟨z,blk_grown hz hg (hw.ne_block hz he)⟩
theorem Row.far {w:World} {g:Nat} {e:TypeId} {cs:List Value} (h:Row w g e cs) {d i:Nat} {t:TypeId} {cd:Array Value} (hd:w.heap[d]?=some (.cells cd t (0,0))) (he:e≠t) (u:Value):Row (w.setCell ⟨d,i,none⟩ u) g e cs:=by
 obtain ⟨z,hz⟩:=h
 exact ⟨z,blk_far hz (p:=⟨d,i,none⟩) (blk_ne hz hd he) u⟩
theorem own_lt {α:Type} {R:α→List Value→Prop} {e:TypeId} {size:Nat} {w:World} {base:Nat} {v:Value} {ps:List α} (h:OwnRow R e size w base v ps) {k:Nat} (hk:v.ownBlock=some k):k<w.heap.size:=by
 obtain ⟨inner,⟨h1,⟨rfl,_⟩ | ⟨g,cap,cur,rfl,hg,hh,_⟩⟩,hr⟩:=h
 ·simp [Value.ownBlock] at hk
 ·simp [Value.ownBlock] at hk;rw [← hk];exact blk_lt hh
theorem Dk.write {w3 w6:World} {d a N q:Nat} {s:Int} {wv v6:Value} {img xs:List Int} {ps:List Wt} {O:Nat→Prop} (h:Dk w3 d a wv img ps N O) (hg:w3.grownBy w6 wv.ownBlock) (ho:OwnRow Wr 168 2 w6 0 v6 (ps++[(s,q,xs)]))
  (hrow:Row w3 q 5 (nums .u8 xs)) (hq:q≠a) (hs:0≤s∧s<4*N) (hl:xs.length=64) (hb:Bs xs) :
  Dk (w6.setCell ⟨d,1,none⟩ v6) d a v6 img (ps++[(s,q,xs)]) N (fun k=>O k∨k=q∨v6.ownBlock=some k):=by
 have hd6:=blk_grown h.hd hg (h.hw.ne_block h.hd (by decide))
 have hsz:(w6.setCell ⟨d,1,none⟩ v6).heap.size=w6.heap.size:=by simp [World.setCell]
 refine ⟨?_,?_,h.hl,h.hb,?_,?_,?_,h.hN⟩
 ·rw [blk_set hd6 1 v6];rfl
 ·exact blk_far (blk_grown h.ha hg (h.hw.ne_block h.ha (by decide))) (p:=⟨d,1,none⟩) (blk_ne h.ha h.hd (by decide)) _
 ·exact ho.set_ hd6 (by decide) 1 v6
 ·intro p hp
  rcases List.mem_append.1 hp with hp | hp
  ·obtain ⟨h1,h2,h3,h4,h5,h6,h7⟩:=h.hp p hp
   exact ⟨h1,h2,h3,h4,Or.inl h5,h6,(h7.grown h.hw (by decide) hg).far hd6 (by decide) _⟩
  ·obtain rfl:=List.mem_singleton.1 hp
   exact ⟨hs.1,hs.2,hl,hb,Or.inr (Or.inl rfl),hq,(hrow.grown h.hw (by decide) hg).far hd6 (by decide) _⟩
 ·refine ⟨Or.inl h.hO.1,Or.inl h.hO.2.1,fun k hk=>Or.inr (Or.inr hk),fun k hk=>?_⟩
  rw [hsz]
  rcases hk with hk | hk | hk
  ·exact Nat.lt_of_lt_of_le (h.hO.2.2.2 k hk) hg.size
  ·obtain ⟨z,hz⟩:=hrow
   rw [hk];exact Nat.lt_of_lt_of_le (blk_lt hz) hg.size
  ·exact own_lt ho hk
theorem info_wt:(Tryz.prog.info? 168).map (fun i=>(i.zero,i.size,i.bytes))=some (some (.agg #[.int .i64 0,.slice none 0 0]),2,32):=by kernel_rfl
theorem write_calls {w:World} {d N n:Nat} {O:Nat→Prop} {f:Nat→List Int} (h:Disk w d O N n f) (s:Nat) (hs:s<4*N) {A:Option Addr} {c:Nat} {xs:List Int} (hl:xs.length=64) (hb:Bs xs) (hr:Kd.C (Kd.int .u8) w A xs.length xs) (hc:64≤c) (hA:∀ ad,A=some ad→ad.block≠d) (hlen:n<1000000) :
  Calls Tryz.prog 102 #[.pointer (some ⟨d,0,none⟩),.int .i64 (s:Int),.slice A 64 c] w fun e w'=>e = .returned (.int .i64 0)∧Fr w w' O ∧ ∃ O',Disk w' d O' N (n+1) (put f s xs) ∧ ∀ k,O' k→O k∨w.heap.size≤k:=by
 obtain ⟨a,wv,img,ps,hk,hf,rfl⟩:=h
 have HK:=Aside0.mk hk
 have HF:=Aside0.mk hf
 have HL:=Aside0.mk hl
 have HR:=Aside0.mk hr
 have HLN:=Aside0.mk hlen
 have hN:=hk.hN.2
 have HS:=Aside0.mk hs
 obtain ⟨Aw,cap,rfl,_,_⟩:=hk.hw.reads
 clear hk hf hl hr hlen
 go_enter Tryz.func102,Tryz.ntmps102
 go_wp2_with (first
  | (go_at_call 143;(with_reducible refine (may_calls HK.out.hd (s:Int) (by omega) (by omega) hN).mono ?_);rintro e w1 ⟨rfl,rfl⟩)
  | (go_at_call 97;(with_reducible refine (stops_calls HK.out.hd).mono ?_);rintro e w1 ⟨rfl,hd1,hfr⟩;have HK1:=Aside0.mk (HK.out.redo hfr hd1);have HFR:=Aside0.mk hfr;clear hd1 hfr))
 have HK1d:Aside0 (Dk w1.drew d a (.slice Aw ps.length cap) img ps N O):=⟨HK1.out.fr ((Fr.refl _ (fun _=>False)).drew) (fun _ _ h=>h)⟩
 have c1:=blk_cell HK1d.out.hd 1
 simp only [List.getElem?_toArray,List.getElem?_cons_zero,List.getElem?_cons_succ] at c1
 have HR1:Aside0 (Kd.C (Kd.int .u8) w1.drew A xs.length xs):=⟨C_fr HR.out HFR.out.drew hA⟩
 go_region_law (first
  | (refine OwnRow.append_step (R:=Wr) (w0:=w3) 0 (by rfl) (.tmp 23) (.tmp 28) 64 168 (.agg #[.int .i64 0,.slice none 0 0]) 2 32 (by rfl) Tryz.underlying64 info_wt rfl (by decide) (by decide) (.slice Aw ps.length cap) ps ((s:Int),q,xs) [.int .i64 (s:Int),.slice (some ⟨q,0,none⟩) 64 c3] (by rfl) (by rfl) ?aP rfl ?a1 ?aO ?aB (Nat.zero_le _) ?aL ?_;(case aP=>exact ⟨c3,HC3.out,rfl⟩);(case a1=>simp [Value.oneCell']);(case aO=>exact HK3.out.hw);(case aB=>exact Below.refl _ _);(case aL=>have:=HLN.out;omega);intro v6 w6 ho hb hg hat;obtain ⟨A6,q6,e6,_⟩:=ho.slice_;subst e6;have h6:=blk_grown HK3.out.hd hg (HK3.out.hw.ne_block HK3.out.hd (by decide));have c6:=blk_cell h6 1;simp only [List.getElem?_toArray,List.getElem?_cons_zero,List.getElem?_cons_succ] at c6;have f6:=blk_frozen h6 1;have H6:=Aside0.mk h6;have HO6:=Aside0.mk ho;have HG6:=Aside0.mk hg;have HA6:=Aside0.mk hat;clear ho hb hg hat h6)
  | (go_simp;go_wp2_with (go_at_call 39;(with_reducible refine (clone_calls HL.out HR1.out hc (by decide)).mono ?_);rintro e w3 ⟨v3,rfl,ho,hb⟩;obtain ⟨q,c3,rfl,hc3,hq,hrow⟩:=own_row ho (by rw [HL.out];decide);rw [HL.out] at hc3 ⊢;have HC3:=Aside0.mk hc3;have HQ:=Aside0.mk hq;have HROW:=Aside0.mk hrow;have HK3:=Aside0.mk (HK1d.out.fr (Fr.of_below hb (fun _=>False)) (fun _ _ h=>h));have HB3:=Aside0.mk hb;have c13:=blk_cell HK3.out.hd 1;simp only [List.getElem?_toArray,List.getElem?_cons_zero,List.getElem?_cons_succ] at c13;have c14:=blk_cell (blk_alloc HK3.out.hd (Obj.cells #[.int .i64 (s:Int),.slice (some ⟨q,0,none⟩) 64 c3] 168)) 1;simp only [List.getElem?_toArray,List.getElem?_cons_zero,List.getElem?_cons_succ] at c14;clear ho hb hc3 hq hrow)))
 all_goals
  go_wp2
  go_ret
  have ha3:=blk_lt HK1.out.ha
  have hle:=HFR.out.size
  have hq0:=HQ.out
  have hdw:=HK3.out.write HG6.out HO6.out HROW.out (by have:a<w.heap.size:=HK.out.hO.2.2.2 a HK.out.hO.2.1;have:w.heap.size≤w1.drew.heap.size:=hle;omega) ⟨by omega,by have:=HS.out;omega⟩ HL.out hb
  simp only [List.length_append,List.length_cons,List.length_nil,Nat.zero_add] at hdw
  have hw1:Fr w w1.drew O:=(HFR.out.mono (fun k _ hk=>by rw [hk];exact HK.out.hO.1)).drew
  have hw3:Fr w w3 O:=hw1.below HB3.out
  have hw6:Fr w w6 O:=hw3.grown HG6.out (fun k hk=>Or.inl (HK.out.hO.2.2.1 k hk))
  refine ⟨rfl,hw6.setCell (p:=⟨d,1,none⟩) (Or.inl HK.out.hO.1) _,_,⟨a,_,img,_,hdw,fun i hi=>?_,by simp⟩,fun k hk=>?_⟩
  ·rw [sec_snoc]
   unfold put
   by_cases e:i=s
   ·rw [if_pos e,if_pos (by rw [e])]
   ·rw [if_neg e,if_neg (by simp;omega)];exact HF.out i hi
  ·rcases hk with hk | hk | hk
   ·exact Or.inl hk
   ·exact Or.inr (by have:w.heap.size≤w1.drew.heap.size:=hle;omega)
   ·have hA6:=HA6.out
    simp only [List.length_append,List.length_cons,List.length_nil,Nat.zero_add] at hA6
    rcases hA6 with e | ⟨b,e,hb2⟩
    ·exact Or.inl (HK.out.hO.2.2.1 k (by rw [← e];exact hk))
    ·rw [e] at hk;injection hk with hk
     exact Or.inr (by have:=hw3.size;omega)
end
section
attribute [local go_sem ↓] Go.wp_at_zero Go.wp_at_succ
def z256:List Int:=List.replicate 256 0
def tabV (ts:List Int):Value:=.agg (nums .u32 ts).toArray
theorem zero_tab:∀ w,(zeroValue 74).run Tryz.prog w = .ok (.agg (nums .u32 z256).toArray) w:=(zero_of_info (n:=256) (by kernel_rfl)).1
theorem size_tab:(Tryz.prog.info? 74).map (·.size)=some 256:=(zero_of_info (v:=.agg (nums .u32 z256).toArray) (n:=256) (by kernel_rfl)).2
def crcStep (x:Int):Int:=Go.bits .xor .u32 (x / 2) (Go.bits .and .u32 2197175160 (-Go.bits .and .u32 x 1 % 4294967296))
def crcN:Nat→Int→Int
 | 0,n=>n
 | k+1,n=>crcStep (crcN k n)
def crcTab:List Int:=(List.range 256).map (fun (i:Nat)=>crcN 8 (i:Int))
def crcUp (i:Nat):List Int:=crcTab.take i++z256.drop i
theorem crcTab_len:crcTab.length=256:=by simp [crcTab]
theorem z256_len:z256.length=256:=List.length_replicate
theorem crcUp_len (i:Nat) (h:i≤256):(crcUp i).length=256:=by
 unfold crcUp;rw [List.length_append,List.length_take,List.length_drop,crcTab_len,z256_len];omega
theorem crcUp_set {i:Nat} (h:i<256):(crcUp i).set i (crcN 8 (i:Int))=crcUp (i+1):=by
 unfold crcUp
 have h1:i<crcTab.length:=by rw [crcTab_len];exact h
 have h2:i<z256.length:=by rw [z256_len];exact h
 rw [List.set_append_right _ _ (by rw [List.length_take];omega),List.length_take,Nat.min_eq_left (by omega),Nat.sub_self,List.drop_eq_getElem_cons h2,List.set_cons_zero,List.take_succ_eq_append_getElem h1,List.append_assoc]
 simp [crcTab]
theorem crcnew_calls {w:World} :
  Calls Tryz.prog 27 #[] w fun e w'=>e = .returned (tabV crcTab)∧Below w.heap.size w w':=by
 have hz:=zero_tab
 go_enter Tryz.func27,Tryz.ntmps27
 go_wp2
 clear hz
 have HG0:Aside0 (((w.alloc (Obj.cells (nums .u32 z256).toArray 74)).alloc (Obj.cells (nums .u32 z256).toArray 74)).heap[w.heap.size]?=some (.cells (nums .u32 z256).toArray 74 (0,0))):=⟨heap_alloc2_old w _ _⟩
 have HG1:Aside0 (((w.alloc (Obj.cells (nums .u32 z256).toArray 74)).alloc (Obj.cells (nums .u32 z256).toArray 74)).heap[w.heap.size+1]?=some (.cells (nums .u32 (crcUp 0)).toArray 74 (0,0))):=⟨heap_alloc2_new w _ _⟩
 have HB:Aside0 (Below w.heap.size w ((w.alloc (Obj.cells (nums .u32 z256).toArray 74)).alloc (Obj.cells (nums .u32 z256).toArray 74))):=⟨((Below.refl w.heap.size w).alloc (Nat.le_refl _) _).alloc (by simp) _⟩
 go_loopw [4] (fun v4 wr=>∃ (i:Nat) (ii:Int),v4 = .int .i64 ii∧Aside0 (ii=(i:Int))∧Aside0 (i≤256)∧Aside0 (wr.heap[w.heap.size]?=some (.cells (nums .u32 z256).toArray 74 (0,0)))∧Aside0 (wr.heap[w.heap.size+1]?=some (.cells (nums .u32 (crcUp i)).toArray 74 (0,0)))∧Aside0 (Below w.heap.size w wr)) (fun v4 _=>((256:Int)-intOf v4).toNat)
 case atStart=>exact ⟨0,0,rfl,⟨rfl⟩,⟨by decide⟩,HG0,HG1,HB⟩
 case round=>
  clear HG0 HG1 HB
  obtain ⟨i,ii,rfl,HI,HIL,HG0,HG1,HB⟩:=hrel
  have hi0:0≤ii:=by have:=HI.out;omega
  have hi1:ii≤256:=by have:=HI.out;have:=HIL.out;omega
  by_cases hlt:i<256
  ·have d1:decide (ii<256)=true:=decide_eq_true (by have:=HI.out;omega)
   have HU:Aside0 (IntKind.u32.wrap ii=ii):=⟨by have:=HI.out;simp [IntKind.wrap,IntKind.bits,IntKind.signed];omega⟩
   go_wp2
   go_loopw [3,9] (fun v3 v9 wq=>∃ (k:Nat) (kk x:Int),v9 = .int .i64 kk∧v3 = .int .u32 x∧Aside0 (kk=(k:Int))∧Aside0 (k≤8)∧Aside0 (x=crcN k ii)∧wq=wr) (fun _ v9 _=>((8:Int)-intOf v9).toNat)
   case atStart=>exact ⟨0,0,ii,rfl,by first | rfl | (rw [HU.out]),⟨rfl⟩,⟨by decide⟩,⟨rfl⟩,rfl⟩
   case round=>
    obtain ⟨k,kk,x,rfl,rfl,HK,HKL,HX,hwq⟩:=hrel
    obtain rfl:=hwq.symm
    by_cases hk:k<8
    ·have d2:decide (kk<8)=true:=decide_eq_true (by have:=HK.out;omega)
     go_wp2
     go_roundw
     case rel=>exact ⟨k+1,_,_,rfl,rfl,⟨by rw [wrap64_id]<;>(have:=HK.out;omega)⟩,⟨by omega⟩,⟨by rw [HX.out];rfl⟩,trivial⟩
     case measure=>simp [intOf];have:=HK.out;rw [wrap64_id]<;>omega
    ·obtain rfl:k=8:=by have:=HKL.out;omega
     have d2:decide (kk<8)=false:=decide_eq_false (by have:=HK.out;omega)
     have d3:(ii<256)=True:=eq_true (by have:=HI.out;omega)
     have d4:(0≤ii)=True:=eq_true hi0
     have eii:ii.toNat=i:=by have:=HI.out;omega
     have hcl:i<(crcUp i).length:=by rw [crcUp_len i (by omega)];exact hlt
     have c1:wr.cell? ⟨w.heap.size+1,i,none⟩=some (.int .u32 (crcUp i)[i]):=by
      rw [blk_cell HG1.out i];simp [nums,List.getElem?_eq_getElem hcl]
     have f1:wr.frozen? ⟨w.heap.size+1,i,none⟩=false:=blk_frozen HG1.out i
     have HG1':Aside0 ((wr.setCell ⟨w.heap.size+1,i,none⟩ (.int .u32 x)).heap[w.heap.size+1]?=some (.cells (nums .u32 (crcUp (i+1))).toArray 74 (0,0))):=⟨by
      rw [blk_set HG1.out i,List.setIfInBounds_toArray,← crcUp_set hlt,HX.out,HI.out]
      unfold nums
      rw [List.map_set]⟩
     have HG0':Aside0 ((wr.setCell ⟨w.heap.size+1,i,none⟩ (.int .u32 x)).heap[w.heap.size]?=some (.cells (nums .u32 z256).toArray 74 (0,0))):=⟨blk_far HG0.out (p:=⟨w.heap.size+1,i,none⟩) (by simp) _⟩
     have HB':Aside0 (Below w.heap.size w (wr.setCell ⟨w.heap.size+1,i,none⟩ (.int .u32 x))):=⟨HB.out.setCell (p:=⟨w.heap.size+1,i,none⟩) (by simp) _⟩
     go_wp2
     exact ⟨⟨i+1,_,rfl,⟨by have:=HI.out;omega⟩,⟨by omega⟩,HG0',HG1',HB'⟩,by simp [intOf];omega⟩
  ·obtain rfl:i=256:=by have:=HIL.out;omega
   have d1:decide (ii<256)=false:=decide_eq_false (by have:=HI.out;omega)
   have hup:crcUp 256=crcTab:=by
    unfold crcUp
    rw [List.take_of_length_le (by rw [crcTab_len];decide),List.drop_of_length_le (by rw [z256_len];decide),List.append_nil]
   rw [hup] at HG1
   have HW:Aside0 ((wr.setRow w.heap.size (nums .u32 crcTab).toArray).heap[w.heap.size]?=some (.cells (nums .u32 crcTab).toArray 74 (0,0))):=⟨setRow_heap _ _ _ _ _ _ HG0.out⟩
   have HBW:Aside0 (Below w.heap.size w (wr.setRow w.heap.size (nums .u32 crcTab).toArray)):=⟨below_setRow HB.out (Nat.le_refl _) _⟩
   have hs:=run_storeCells_row (P:=Tryz.prog) wr w.heap.size 74 74 (nums .u32 z256) (nums .u32 crcTab) HG0.out (by rw [size_tab];simp [nums,crcTab_len]) (by simp [nums,crcTab_len,z256_len]) (by simp [nums,Value.oneCell'])
   clear hup hlt
   go_wp2
   refine wp_load_row 74 (.tmp 1) rfl (w.heap.size+1) rfl 74 (nums .u32 crcTab).toArray (0,0) _ HG1.out Tryz.underlying74 rfl (by rw [size_tab];simp [nums,crcTab_len]) ?_
   go_wp2
   refine bodyPost_ret (results_cell_row rfl _ _ w.heap.size 74 (nums .u32 crcTab).toArray (0,0) _ rfl HW.out Tryz.underlying74 rfl (by rw [size_tab];simp [nums,crcTab_len])) rfl ?_
   exact ⟨rfl,HBW.out⟩
def crcNot (s:Int):Int:=Go.bits .xor .u32 IntKind.u32.max s
def crcB (x c:Int):Int:=Go.bits .xor .u32 (x / 256) (rd crcTab (Go.bits .xor .u8 (x % 256) c))
theorem wf_wrap (k:IntKind) (e:Int):(Lit.int k (k.wrap e)).wf=true:=by
 cases k<;>simp [Lit.wf,IntKind.wrap,IntKind.min,IntKind.max,IntKind.signed,IntKind.bits]<;>(try split)<;>omega
theorem wf_bits (op:BinOp) (k:IntKind) (x y:Int):(Lit.int k (Go.bits op k x y)).wf=true:=by
 unfold Go.bits
 split<;>exact wf_wrap _ _
theorem xor8_rng (x y:Int):0≤Go.bits .xor .u8 x y∧Go.bits .xor .u8 x y<256:=wf_u8 (wf_bits .xor .u8 x y)
def crcF (n:Int) (bs:List Int):Int:=bs.foldl crcB n
theorem behind_calls {w:World} (s:Int) (A:Option Addr) (c n:Nat) (bs:List Int) (hn:bs.length=n) (hr:Kd.C (Kd.int .u8) w A bs.length bs) :
  Calls Tryz.prog 64 #[tabV crcTab,.int .u32 s,.slice A n c] w fun e w'=>e = .returned (.int .u32 (crcNot (crcF (crcNot s) bs)))∧Below w.heap.size w w':=by
 obtain ⟨T,hT⟩:∃ T,(nums .u32 crcTab).toArray=T:=⟨_,rfl⟩
 unfold tabV
 rw [hT]
 have HR:=Aside0.mk hr
 have HN:=Aside0.mk hn
 have HLN:Aside0 (n≤9223372036854775807):=⟨by rw [← hn];exact hr.2.1⟩
 have HT:=Aside0.mk hT
 have HG0:Aside0 ((w.alloc (.cells T 74)).heap[w.heap.size]?=some (.cells (nums .u32 crcTab).toArray 74 (0,0))):=⟨by rw [hT];exact heap_alloc_new w _⟩
 have HB:Aside0 (Below w.heap.size w (w.alloc (.cells T 74))):=⟨(Below.refl w.heap.size w).alloc (Nat.le_refl _) _⟩
 clear hT hn hr
 go_enter Tryz.func64,Tryz.ntmps64
 go_wp2
 obtain ⟨s0,hs0⟩:∃ s0,Go.bits .xor .u32 IntKind.u32.max s=s0:=⟨_,rfl⟩
 rw [hs0]
 go_loopw [7,14] (fun v7 v14 wr=>∃ (i:Nat) (ii x:Int),v7 = .int .u32 x∧v14 = .int .i64 ii∧Aside0 (ii=(i:Int))∧Aside0 (i≤n)∧Aside0 (x=crcF s0 (bs.take i))∧Aside0 (wr.heap[w.heap.size]?=some (.cells (nums .u32 crcTab).toArray 74 (0,0)))∧Aside0 (Below w.heap.size w wr)) (fun _ v14 _=>((n:Int)-intOf v14).toNat)
 case atStart=>exact ⟨0,0,s0,rfl,rfl,⟨rfl⟩,⟨Nat.zero_le _⟩,⟨rfl⟩,HG0,HB⟩
 case round=>
  clear HG0 HB
  obtain ⟨i,ii,x,rfl,rfl,HI,HIL,HX,HG0,HB⟩:=hrel
  have hi0:0≤ii:=by have:=HI.out;omega
  by_cases hlt:i<n
  ·have d1:decide (ii<(n:Int))=true:=decide_eq_true (by have:=HI.out;omega)
   have d2:(ii<(n:Int))=True:=eq_true (by have:=HI.out;omega)
   have d3:(0≤ii)=True:=eq_true hi0
   have e5:wrap64 (ii+1)=ii+1:=wrap64_id (by omega) (by have:=HI.out;have:=HLN.out;omega)
   have eii:ii.toNat=i:=by have:=HI.out;omega
   obtain ⟨ad,hA,hx⟩:=Kd.at_int HR.out ii hi0 (by have:=HI.out;have:=HN.out;omega)
   subst hA
   obtain ⟨ch,hch⟩:∃ ch,rd bs ii=ch:=⟨_,rfl⟩
   rw [hch,eii] at hx
   have hx2:=(HB.out.cell (World.block_lt_of_cell? w _ hx)).trans hx
   clear hx
   obtain ⟨h1,h2⟩:=xor8_rng (x % 256) ch
   obtain ⟨r,hr⟩:∃ r,rd crcTab (Go.bits .xor .u8 (x % 256) ch)=r:=⟨_,rfl⟩
   have c9:wr.cell? ⟨w.heap.size,(Go.bits .xor .u8 (x % 256) ch).toNat,none⟩=some (.int .u32 r):=by
    have h3:(Go.bits .xor .u8 (x % 256) ch).toNat<crcTab.length:=by rw [crcTab_len];omega
    rw [blk_cell HG0.out,← hr]
    unfold rd
    simp [nums,List.getElem?_eq_getElem h3,List.getD_eq_getElem?_getD]
   have hnx:Go.bits .xor .u32 (x / 256) r=crcF s0 (bs.take (i+1)):=by
    have h4:i<bs.length:=by have:=HN.out;omega
    have h5:bs[i]=ch:=by rw [← hch,show ii=(i:Int) from HI.out,rd_get h4]
    rw [List.take_succ_eq_append_getElem h4,crcF,List.foldl_append]
    show _=crcB (crcF s0 (bs.take i)) bs[i]
    rw [← HX.out,h5]
    unfold crcB
    rw [hr]
   have HNX:=Aside0.mk hnx
   clear hnx hr hch
   go_wp2
   go_roundw
   case rel=>exact ⟨i+1,_,_,rfl,rfl,⟨by have:=HI.out;omega⟩,⟨by omega⟩,HNX,HG0,HB⟩
   case measure=>simp [intOf];have:=HI.out;omega
  ·obtain rfl:i=n:=by have:=HIL.out;omega
   have d1:decide (ii<(i:Int))=false:=decide_eq_false (by have:=HI.out;omega)
   go_wp2
   go_ret
   refine ⟨?_,HB.out⟩
   have hx:=HX.out
   rw [List.take_of_length_le (by have:=HN.out;omega)] at hx
   show Ending.returned (.int .u32 (Go.bits .xor .u32 IntKind.u32.max x))=_
   rw [hx,← hs0];rfl
def crcSum (bs:List Int):Int:=crcNot (crcF (crcNot 0) bs)
theorem crcSum_rng (bs:List Int):0≤crcSum bs∧crcSum bs<4294967296:=by
 have h:=wf_bits .xor .u32 IntKind.u32.max (crcF (crcNot 0) bs)
 unfold crcSum crcNot
 unfold crcNot at h
 generalize Go.bits .xor .u32 IntKind.u32.max (crcF (Go.bits .xor .u32 IntKind.u32.max 0) bs)=y at *
 simp [Lit.wf,IntKind.min,IntKind.max,IntKind.bits,IntKind.signed] at h;omega
theorem sum_calls {w:World} (A:Option Addr) (c n:Nat) (bs:List Int) (hn:bs.length=n) (hr:Kd.C (Kd.int .u8) w A bs.length bs) :
  Calls Tryz.prog 26 #[tabV crcTab,.slice A n c] w fun e w'=>e = .returned (.int .u32 (crcSum bs))∧Below w.heap.size w w':=by
 obtain ⟨T,hT⟩:∃ T,(nums .u32 crcTab).toArray=T:=⟨_,rfl⟩
 unfold tabV
 rw [hT]
 have HR:=Aside0.mk (Kd.C_below hr ((Below.refl w.heap.size w).alloc (Nat.le_refl _) (.cells T 74)))
 have HT:=Aside0.mk hT
 have HG0:Aside0 ((w.alloc (.cells T 74)).heap[w.heap.size]?=some (.cells T 74 (0,0))):=⟨heap_alloc_new w _⟩
 have HB:Aside0 (Below w.heap.size w (w.alloc (.cells T 74))):=⟨(Below.refl w.heap.size w).alloc (Nat.le_refl _) _⟩
 have HSZ:Aside0 ((Tryz.prog.info? 74).map (·.size)=some T.size):=⟨by rw [← hT,size_tab];simp [nums,crcTab_len]⟩
 clear hT hr
 go_enter Tryz.func26,Tryz.ntmps26
 go_wp2
 refine wp_load_row 74 (.tmp 2) rfl w.heap.size rfl 74 T (0,0) _ HG0.out Tryz.underlying74 rfl HSZ.out ?_
 go_wp2_with (go_at_call 64;(have hcall:=behind_calls (w:=w.alloc (.cells T 74)) 0 A c n bs hn HR.out;unfold tabV at hcall;rw [HT.out] at hcall);(with_reducible refine hcall.mono ?_);rintro e w2 ⟨rfl,hb⟩;have HB2:=Aside0.mk (below_step HB.out hb);clear hb)
 go_ret
 exact ⟨rfl,HB2.out⟩
end
end Go.Proofs.YtnhkikebfinejaaGreatDoor.Z
namespace Go.Proofs.YtnhkikebfinejaaGreatDoor.X
open Go.RowKit Go.Proofs.YtnhkikebfinejaaGreatDoorW.PrintWords Go.Proofs.YtnhkikebfinejaaGreatDoorW.PrintLast Go.Proofs.YtnhkikebfinejaaGreatDoorW.PrintMore
section
attribute [local go_sem] max2_int min2_int max_two min_two max_three min_three max_four min_four
def page_big.l0:Nat→List Int→Int→Int→Option (List Int)
 | 0,_,_,_=>none
 | k+1,x0,x1,x7=>if x7 ≥ 0 then (if 0≤(wrap64 (8*x7)) then (if x0.length<140737488355328 then (page_big.l0 k (x0++[(shr .u64 x1 (wrap64 (8*x7))) % 256]) x1 (wrap64 (x7-1))) else (none)) else (none)) else (some x0)
def page_big.f (k:Nat) (l0:List Int) (a1:Int) (a2:Int):Option (List Int):=page_big.l0 k l0 a1 (wrap64 (a2-1))
theorem page_big.mono_l:∀ k,(∀ y0 y1 y2,LeO (page_big.l0 k y0 y1 y2) (page_big.l0 (k+1) y0 y1 y2))
 | 0=>fun _ _ _ r h=>by simp [page_big.l0] at h
 | k+1=>by
  have ih0:=page_big.mono_l k
  ·intro y0 y1 y2
   unfold page_big.l0
   repeat' first
   | (with_reducible exact ih0 _ _ _)
   | (with_reducible exact LeO.refl _)
   | (with_reducible exact LeO.none _)
   | (with_reducible refine LeO.ite ?_ ?_)
   | (with_reducible refine LeO.bind ?_ (fun _=>?_))
   | exact ih0 _ _ _
   | exact LeO.none _
   | refine LeO.ite ?_ ?_
   | refine LeO.bind ?_ (fun _=>?_)
theorem page_big.mono:∀ a0 a1 a2 k,LeO (page_big.f k a0 a1 a2) (page_big.f (k+1) a0 a1 a2):=by
 intro a0 a1 a2 k
 have ih0:=page_big.mono_l k
 unfold page_big.f
 repeat' first
   | (with_reducible exact ih0 _ _ _)
   | (with_reducible exact LeO.refl _)
   | (with_reducible exact LeO.none _)
   | (with_reducible refine LeO.ite ?_ ?_)
   | (with_reducible refine LeO.bind ?_ (fun _=>?_))
   | exact ih0 _ _ _
   | exact LeO.none _
   | refine LeO.ite ?_ ?_
   | refine LeO.bind ?_ (fun _=>?_)
theorem page_big.calls (k:Nat) (P0_:Nat→Prop) (u9000_:Value) (l0:List Int) (a1:Int) (a2:Int) (r:List Int) (w0 w:World) (hB:Below w0.heap.size w0 w) (ho0:Kd.R (Kd.int .u8) 5 w w0.heap.size P0_ u9000_ l0) (h:page_big.f k l0 a1 a2=some r) :
  Calls Tryz.prog 189 #[u9000_,.int .u64 a1,.int .i64 a2] w fun e w'=>∃ v0_:Value,e = .returned (v0_)∧Kd.R (Kd.int .u8) 5 w' w0.heap.size (fun k_=>(P0_ k_∨w.heap.size≤k_)) v0_ r∧Below w0.heap.size w0 w'∧Kept w w' (fun k_=>P0_ k_):=by
 have HO0:=Aside0.mk (show Kd.R (Kd.int .u8) 5 w w0.heap.size (fun k_=>(P0_ k_∨w.heap.size≤k_)) u9000_ l0 from Kd.R_mono ho0 (fun k_ hk=>(.inl hk)))
 have HK:=Aside0.mk (Kept.refl w (fun k_=>P0_ k_))
 have HW0:=Aside0.mk hB.size
 have HB:=Aside0.mk hB
 clear hB
 have H:(page_big.l0 k l0 a1 (wrap64 (a2-1)))=some r:=h
 clear h
 have H':=Aside0.mk H
 clear H
 go_enter Tryz.func189,Tryz.ntmps189
 go_wp2
 go_loopg [0,7] k (fun kq v0 v7 w'=>∃ (x0_1:List Int) (x7_1:Int),v7 = .int .i64 x7_1∧Aside0 (page_big.l0 kq x0_1 a1 x7_1=some r)∧Aside0 (kq≤k)∧Aside0 (Kd.R (Kd.int .u8) 5 w' w0.heap.size (fun k_=>(P0_ k_∨w.heap.size≤k_)) v0 x0_1)∧Aside0 (Kept w w' (fun k_=>P0_ k_))∧Aside0 (Below w0.heap.size w0 w'))
 case atStart=>exact ⟨(l0),(wrap64 (a2-1)),(by first | rfl | (simp;done) | (simp [*];done)),H',⟨Nat.le_refl _⟩,⟨by (with_reducible repeat (first | apply Kd.R_alloc | apply Kd.R_drewN | apply Kd.R_drew));exact HO0.out⟩,⟨by repeat (first | (with_reducible first | exact HK.out | apply Kept.alloc | apply Kept.drewN | apply Kept.drew) | exact HK.out)⟩,⟨by repeat (first | (with_reducible first | exact HB.out | apply below_alloc | apply pw_below_drewN | apply below_drew1) | exact HB.out)⟩⟩
 case round=>
  clear H'
  try clear c1
  try clear p2
  obtain ⟨x0_1,x7_1,rfl,HA,HK1,HO_0,HK,HB⟩:=hrel
  cases gk with
  | zero=>exact absurd HA.out (by simp [page_big.l0])
  | succ k1=>
   have H:=HA.out
   clear HA
   simp only [page_big.l0] at H
   by_cases c4:x7_1 ≥ 0
   ·rw [if_pos c4] at H
    have c4b0:decide (0≤x7_1)=true:=decide_eq_true c4
    clear c4
    obtain ⟨ji5,hji5⟩:∃ j_:Int,(wrap64 (8*x7_1))=j_:=⟨_,rfl⟩
    replace H:(if 0≤(ji5) then (if x0_1.length<140737488355328 then (page_big.l0 k1 (x0_1++[(shr .u64 a1 (ji5)) % 256]) a1 (wrap64 (x7_1-1))) else (none)) else (none))=some r:=by first | (rw [hji5] at H;exact H) | (simp only [hji5] at H ⊢;exact H)
    have hji5w:(IntKind.i64.wrap (8*x7_1))=ji5:=(i64_w _).trans hji5
    by_cases c6:0≤(ji5)
    ·rw [if_pos c6] at H
     have c6b0:=eq_true c6
     have c6b1:decide (0≤(ji5))=true:=decide_eq_true c6
     clear c6
     obtain ⟨ji7,hji7⟩:∃ j_:Int,(shr .u64 a1 (ji5))=j_:=⟨_,rfl⟩
     replace H:(if x0_1.length<140737488355328 then (page_big.l0 k1 (x0_1++[(ji7) % 256]) a1 (wrap64 (x7_1-1))) else (none))=some r:=by first | (rw [hji7] at H;exact H) | (simp only [hji7] at H ⊢;exact H)
     have hji7_:(a1 / 2 ^ min (ji5).toNat 64)=ji7:=hji7
     have hji7z:(ji5)≤64→(a1 / 2 ^ (ji5).toNat)=ji7:=shr_small hji7
     by_cases c8:x0_1.length<140737488355328
     ·rw [if_pos c8] at H
      have LMc8:=Aside0.mk c8
      clear c8
      obtain ⟨y110,hy110⟩:∃ y_:List Int,y_=(x0_1++[(ji7) % 256]):=⟨_,rfl⟩
      replace H:(page_big.l0 k1 y110 a1 (wrap64 (x7_1-1)))=some r:=by first | (rw [hy110];with_reducible exact H) | (have H2_:=(Option.bind_some _ _).symm.trans H;rw [hy110];with_reducible exact H2_) | (have H2_:=(Option.bind_some _ _).symm.trans H;with_reducible exact H2_) | with_reducible exact H | (rw [hy110];exact H) | exact H
      have Ny110:=Aside0.mk hy110
      clear hy110
      have H':=Aside0.mk H
      clear H
      go_wp2_with (first | ((with_reducible refine gate_builtin (b:=.append) (xs:=#[.tmp 14,.tmp 20]) rfl ?_);at_builtin;refine Kd.R_append (Kd.int .u8) (w0:=w0) w0.heap.size rfl (.tmp 14) (.tmp 20) 46 5 (.int .u8 0) 1 rfl Tryz.underlying46 info5 rfl (by decide) (by omega) u0 x0_1 ((ji7) % 256) [.int .u8 ((ji7) % 256)] (fun k_=>(P0_ k_∨w.heap.size≤k_)) (fun _=>False) rfl rfl ?aP (fun _ hk=>hk.elim) ?aF ?aO ?aB ?aS ?aL ?_;(case aP=>exact rfl);(case aB=>exact (by repeat (first | (with_reducible first | exact HB.out | apply below_alloc | apply pw_below_drewN | apply below_drew1) | exact HB.out)));(case aF=>exact (fun k_ hk=>(.inr (Nat.le_trans (by first | exact HK.out.1 | exact (show Kept w _ (fun k_=>P0_ k_) from by repeat (first | (with_reducible first | exact HK.out | apply Kept.alloc | apply Kept.drewN | apply Kept.drew) | exact HK.out)).1) hk))));(case aO=>exact (by (with_reducible repeat (first | apply Kd.R_alloc | apply Kd.R_drewN | apply Kd.R_drew));exact HO_0.out));(case aS=>exact (below_size (by repeat (first | (with_reducible first | exact HB.out | apply below_alloc | apply pw_below_drewN | apply below_drew1) | exact HB.out))));(case aL=>have:=LMc8.out;omega);intro v111 w9 ho hb hg hat;rw [← Ny110.out] at ho;have n0_:=Aside0.mk (hb);have n1_:=Aside0.mk (Kept.of_grown (S:=(fun k_=>P0_ k_)) hg (by repeat (first | (with_reducible first | exact HK.out | apply Kept.alloc | apply Kept.drewN | apply Kept.drew) | exact HK.out)) (fun k_ e_=>(HO_0.out.1 k_ e_)));have n2_:=Aside0.mk (ho);clear HB;clear HK;clear HO_0;have HB:=n0_;have HK:=n1_;have HO112:=n2_;clear n0_ n1_ n2_;clear ho hb hg hat))
      go_roundg k1
      case measure=>have:=HK1.out;omega
      case rel=>exact ⟨(y110),(wrap64 (x7_1-1)),(by first | rfl | (simp;done) | (simp [*];done)),H',⟨by have:=HK1.out;omega⟩,⟨by (with_reducible repeat (first | apply Kd.R_alloc | apply Kd.R_drewN | apply Kd.R_drew));exact HO112.out⟩,⟨by repeat (first | (with_reducible first | exact HK.out | apply Kept.alloc | apply Kept.drewN | apply Kept.drew) | exact HK.out)⟩,⟨by repeat (first | (with_reducible first | exact HB.out | apply below_alloc | apply pw_below_drewN | apply below_drew1) | exact HB.out)⟩⟩
     ·rw [if_neg c8] at H
      exact absurd H (by simp)
    ·rw [if_neg c6] at H
     exact absurd H (by simp)
   ·rw [if_neg c4] at H
    have c4b0:decide (0≤x7_1)=false:=decide_eq_false c4
    clear c4
    obtain rfl:=Option.some.inj H
    go_wp2
    go_ret
    exact ⟨_,by first | rfl | (simp [errW_none,errW_some]<;>rfl) | (simp [*,errW_none,errW_some]<;>rfl),by (with_reducible repeat (first | apply Kd.R_alloc | apply Kd.R_drewN | apply Kd.R_drew));exact HO_0.out,by repeat (first | (with_reducible first | exact HB.out | apply below_alloc | apply pw_below_drewN | apply below_drew1) | exact HB.out),by repeat (first | (with_reducible first | exact HK.out | apply Kept.alloc | apply Kept.drewN | apply Kept.drew) | exact HK.out)⟩
end
section
attribute [local go_sem] max2_int min2_int max_two min_two max_three min_three max_four min_four
def page_number.l0:Nat→Int→List Int→Int→Int→Option (Int)
 | 0,_,_,_,_=>none
 | k+1,x3,x6,x7,x8=>if x8<x7 then (if 0≤x8 then (if x8<(x6.length:Int) then (page_number.l0 k (Go.bits .or .u64 (IntKind.u64.wrap (x3*256)) (IntKind.u64.wrap (rd x6 x8))) x6 x7 (wrap64 (x8+1))) else (none)) else (none)) else (some x3)
def page_number.f (k:Nat) (l0:List Int):Option (Int):=page_number.l0 k 0 l0 (l0.length:Int) 0
theorem page_number.mono_l:∀ k,(∀ y0 y1 y2 y3,LeO (page_number.l0 k y0 y1 y2 y3) (page_number.l0 (k+1) y0 y1 y2 y3))
 | 0=>fun _ _ _ _ r h=>by simp [page_number.l0] at h
 | k+1=>by
  have ih0:=page_number.mono_l k
  ·intro y0 y1 y2 y3
   unfold page_number.l0
   repeat' first
   | (with_reducible exact ih0 _ _ _ _)
   | (with_reducible exact LeO.refl _)
   | (with_reducible exact LeO.none _)
   | (with_reducible refine LeO.ite ?_ ?_)
   | (with_reducible refine LeO.bind ?_ (fun _=>?_))
   | exact ih0 _ _ _ _
   | exact LeO.none _
   | refine LeO.ite ?_ ?_
   | refine LeO.bind ?_ (fun _=>?_)
theorem page_number.mono:∀ a0 k,LeO (page_number.f k a0) (page_number.f (k+1) a0):=by
 intro a0 k
 have ih0:=page_number.mono_l k
 unfold page_number.f
 repeat' first
   | (with_reducible exact ih0 _ _ _ _)
   | (with_reducible exact LeO.refl _)
   | (with_reducible exact LeO.none _)
   | (with_reducible refine LeO.ite ?_ ?_)
   | (with_reducible refine LeO.bind ?_ (fun _=>?_))
   | exact ih0 _ _ _ _
   | exact LeO.none _
   | refine LeO.ite ?_ ?_
   | refine LeO.bind ?_ (fun _=>?_)
theorem page_number.calls (k:Nat) (A0:Option Addr) (c0:Nat) (l0:List Int) (r:Int) (w:World) (hr0:Kd.C (Kd.int .u8) w A0 l0.length l0) (hc0:l0.length≤c0) (h:page_number.f k l0=some r) :
  Calls Tryz.prog 168 #[.slice A0 l0.length c0] w fun e w'=>e = .returned (.int .u64 r)∧Drawn0 w w':=by
 have HR0:=Aside0.mk hr0
 have HC0:=Aside0.mk hc0
 clear hr0 hc0
 have H:(page_number.l0 k 0 l0 (l0.length:Int) 0)=some r:=h
 clear h
 have H':=Aside0.mk H
 clear H
 go_enter Tryz.func168,Tryz.ntmps168
 go_wp2
 go_loopg [3,8] k (fun kq v3 v8 w'=>∃ (x3_1:Int) (x8_1:Int),v3 = .int .u64 x3_1∧v8 = .int .i64 x8_1∧Aside0 (page_number.l0 kq x3_1 l0 (l0.length:Int) x8_1=some r)∧Aside0 (kq≤k)∧Drawn0 w w')
 case atStart=>exact ⟨(0),(0),(by first | rfl | (simp;done) | (simp [*];done)),(by first | rfl | (simp;done) | (simp [*];done)),H',⟨Nat.le_refl _⟩,by repeat (first | exact Drawn0.refl _ | apply Drawn0.step)⟩
 case round=>
  clear H'
  try clear c1
  obtain ⟨x3_1,x8_1,rfl,rfl,HA,HK1,⟨m1,rfl⟩⟩:=hrel
  cases gk with
  | zero=>exact absurd HA.out (by simp [page_number.l0])
  | succ k1=>
   have H:=HA.out
   clear HA
   simp only [page_number.l0] at H
   by_cases c2:x8_1<(l0.length:Int)
   ·rw [if_pos c2] at H
    have c2b0:decide (x8_1<(l0.length:Int))=true:=decide_eq_true c2
    clear c2
    by_cases c3:0≤x8_1
    ·rw [if_pos c3] at H
     have c3b0:decide (0≤x8_1)=true:=decide_eq_true c3
     clear c3
     by_cases c4:x8_1<(l0.length:Int)
     ·rw [if_pos c4] at H
      have c4b0:decide (x8_1<(l0.length:Int))=true:=decide_eq_true c4
      clear c4
      have H':=Aside0.mk H
      clear H
      have p483:0≤(x8_1:Int):=of_decide_eq_true (by first | (with_reducible assumption) | assumption)
      have q483:x8_1<(l0.length:Int):=of_decide_eq_true (by first | (with_reducible assumption) | assumption)
      obtain ⟨ad483,e483,hx483_0⟩:=Kd.at_int HR0.out x8_1 p483 q483
      cases e483
      replace p483:=eq_true p483
      replace q483:=eq_true q483
      go_wp2
      go_roundg k1
      case measure=>have:=HK1.out;omega
      case rel=>exact ⟨(Go.bits .or .u64 (IntKind.u64.wrap (x3_1*256)) (IntKind.u64.wrap (rd l0 x8_1))),(wrap64 (x8_1+1)),(by first | rfl | (simp;done) | (simp [*];done)),(by first | rfl | (simp;done) | (simp [*];done)),H',⟨by have:=HK1.out;omega⟩,by repeat (first | exact Drawn0.refl _ | apply Drawn0.step)⟩
     ·rw [if_neg c4] at H
      exact absurd H (by simp)
    ·rw [if_neg c3] at H
     exact absurd H (by simp)
   ·rw [if_neg c2] at H
    have c2b0:decide (x8_1<(l0.length:Int))=false:=decide_eq_false c2
    clear c2
    obtain rfl:=Option.some.inj H
    go_wp2
    go_ret
    exact ⟨by first | rfl | (simp;done) | (simp [*];done),by repeat (first | exact Drawn0.refl _ | apply Drawn0.step)⟩
end
section
attribute [local go_sem] max2_int min2_int max_two min_two max_three min_three max_four min_four
def page_known.f (a0:Int):Option (Bool):=if a0=83 then (some true) else (if a0=76 then (some true) else (if a0=73 then (some true) else (if a0=66 then (some true) else (some false))))
theorem page_known.calls (a0:Int) (r:Bool) (w:World) (h:page_known.f a0=some r) :
  Calls Tryz.prog 188 #[.int .u8 a0] w fun e w'=>e = .returned (.bool r)∧Drawn0 w w':=by
 have H:(if a0=83 then (some true) else (if a0=76 then (some true) else (if a0=73 then (some true) else (if a0=66 then (some true) else (some false)))))=some r:=h
 clear h
 by_cases c2:a0=83
 ·rw [if_pos c2] at H
  have c2b0:(a0 == 83)=true:=beq_iff_eq.mpr c2
  have c2b1:(a0 != 83)=false:=bne_eq_false_iff_eq.mpr c2
  clear c2
  obtain rfl:=Option.some.inj H
  go_enter Tryz.func188,Tryz.ntmps188
  go_wp2
  go_ret
  exact ⟨by first | rfl | (simp;done) | (simp [*];done),by repeat (first | exact Drawn0.refl _ | apply Drawn0.step)⟩
 ·rw [if_neg c2] at H
  have c2b0:(a0 == 83)=false:=beq_eq_false_iff_ne.mpr c2
  have c2b1:(a0 != 83)=true:=bne_iff_ne.mpr c2
  by_cases c3:a0=76
  ·rw [if_pos c3] at H
   have c3b0:(a0 == 76)=true:=beq_iff_eq.mpr c3
   have c3b1:(a0 != 76)=false:=bne_eq_false_iff_eq.mpr c3
   clear c3
   obtain rfl:=Option.some.inj H
   go_enter Tryz.func188,Tryz.ntmps188
   go_wp2
   go_ret
   exact ⟨by first | rfl | (simp;done) | (simp [*];done),by repeat (first | exact Drawn0.refl _ | apply Drawn0.step)⟩
  ·rw [if_neg c3] at H
   have c3b0:(a0 == 76)=false:=beq_eq_false_iff_ne.mpr c3
   have c3b1:(a0 != 76)=true:=bne_iff_ne.mpr c3
   by_cases c4:a0=73
   ·rw [if_pos c4] at H
    have c4b0:(a0 == 73)=true:=beq_iff_eq.mpr c4
    have c4b1:(a0 != 73)=false:=bne_eq_false_iff_eq.mpr c4
    clear c4
    obtain rfl:=Option.some.inj H
    go_enter Tryz.func188,Tryz.ntmps188
    go_wp2
    go_ret
    exact ⟨by first | rfl | (simp;done) | (simp [*];done),by repeat (first | exact Drawn0.refl _ | apply Drawn0.step)⟩
   ·rw [if_neg c4] at H
    have c4b0:(a0 == 73)=false:=beq_eq_false_iff_ne.mpr c4
    have c4b1:(a0 != 73)=true:=bne_iff_ne.mpr c4
    by_cases c5:a0=66
    ·rw [if_pos c5] at H
     have c5b0:(a0 == 66)=true:=beq_iff_eq.mpr c5
     have c5b1:(a0 != 66)=false:=bne_eq_false_iff_eq.mpr c5
     clear c5
     obtain rfl:=Option.some.inj H
     go_enter Tryz.func188,Tryz.ntmps188
     go_wp2
     go_ret
     exact ⟨by first | rfl | (simp;done) | (simp [*];done),by repeat (first | exact Drawn0.refl _ | apply Drawn0.step)⟩
    ·rw [if_neg c5] at H
     have c5b0:(a0 == 66)=false:=beq_eq_false_iff_ne.mpr c5
     have c5b1:(a0 != 66)=true:=bne_iff_ne.mpr c5
     obtain rfl:=Option.some.inj H
     go_enter Tryz.func188,Tryz.ntmps188
     go_wp2
     go_ret
     exact ⟨by first | rfl | (simp;done) | (simp [*];done),by repeat (first | exact Drawn0.refl _ | apply Drawn0.step)⟩
end
end Go.Proofs.YtnhkikebfinejaaGreatDoor.X
