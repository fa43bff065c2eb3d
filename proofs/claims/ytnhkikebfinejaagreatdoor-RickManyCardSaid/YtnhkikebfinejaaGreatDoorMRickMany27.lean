/- Texts of this claim, laid together. No conditions. -/
import Derived.Test.YtnhkikebfinejaaGreatDoorMRickMany25
import Derived.Test.YtnhkikebfinejaaGreatDoorMRickMany9
import Derived.Test.YtnhkikebfinejaaGreatDoorMRickMany26
import Derived.Test.YtnhkikebfinejaaGreatDoorMRickMany3
import Derived.Deep.RegionHeld3
import Derived.Test.YtnhkikebfinejaaGreatDoorMRickMany1
set_option linter.unusedVariables false
set_option linter.unusedSimpArgs false
set_option maxRecDepth 100000
set_option maxHeartbeats 16000000
namespace Go.Proofs.YtnhkikebfinejaaGreatDoor.Z
open Go Go.RowKit Go.Proofs.YtnhkikebfinejaaGreatDoorW.PrintWords Go.Proofs.YtnhkikebfinejaaGreatDoorW.PrintLast Go.Proofs.YtnhkikebfinejaaGreatDoorW.PrintMore Go.Proofs.YtnhkikebfinejaaGreatDoor.S Go.Proofs.YtnhkikebfinejaaGreatDoor.X
open Go.Proofs.YtnhkikebfinejaaGreatDoor.B (bitsN packB bitsN_len)
open Go.Proofs.YtnhkikebfinejaaGreatDoor.W04 (WAt wat_new)
attribute [local go_sem ↓] Go.wp_at_zero Go.wp_at_succ
theorem c_one {W:World} {A:Option Addr} {k:IntKind} {x:Int} (h:Kd.C (Kd.int k) W A 1 [x]):∃ ad:Addr,A=some ad∧W.cell? ad=some (.int k x):=by
 obtain ⟨ad,e,hx⟩:=Kd.at_int h 0 (by omega) (by decide)
 refine ⟨ad,e,?_⟩
 replace hx:W.cell? (ad.add 0)=some (.int k x):=hx
 cases ad
 simpa [Addr.add] using hx
theorem twice_calls {w:World} {A:Option Addr} {c:Nat} (a:Int) (h0:0≤a) (h1:a<9223372036854775808) (hr:Kd.C (Kd.int .i64) w A 1 [a]) (hc:1≤c) :
  Calls Tryz.prog 144 #[.slice A 1 c] w (Gv w (packB (bitsN 64 a))):=by
 obtain ⟨ad,rfl,hx⟩:=c_one hr
 have e1:IntKind.u64.wrap a=a:=u64_w h0 (by omega)
 have HH:=Aside0.mk (And.intro h0 h1)
 clear hr hc h0 h1
 go_enter Tryz.func144,Tryz.ntmps144
 go_wp2
 obtain ⟨g,hg⟩:∃ g,w.heap.size=g:=⟨_,rfl⟩
 obtain ⟨W0,hW0⟩:∃ W,w.alloc (.cells #[.slice none 0 0,.int .i64 0] 289)=W:=⟨_,rfl⟩
 have HW:Aside0 (WAt w W0 g (.slice none 0 0) []):=⟨by rw [← hW0,← hg];exact wat_new w w (Below.refl _ _)⟩
 have HB:Aside0 (Below w.heap.size w W0):=⟨by rw [← hW0];exact (Below.refl _ _).alloc (Nat.le_refl _) _⟩
 have hx0:W0.cell? ad=some (.int .i64 a):=by rw [← hW0];exact cell_kept hx (World.grownBy_alloc w _ none) (fun r e=>by cases e)
 rw [hg,hW0]
 clear hW0 hg
 refine wp_loop_rounds 2 ?_
 rw [rounds_succ]
 go_wp2_with (go_at_call 191;(with_reducible refine (W04.put_calls g _ _ a 64 w _ HW.out HB.out HH.out.1 (by have:=HH.out;omega) (by decide)).mono ?_);rintro e w7 ⟨rfl,v7,hW,hB,hK,hV⟩;have HW7:=Aside0.mk hW;have HB7:=Aside0.mk hB;clear hW hB hK hV HW HB)
 rw [rounds_succ]
 go_wp2_with (go_at_call 193;(with_reducible refine (W04.bytes_calls g v7 _ w _ HW7.out (by simp only [List.nil_append,bitsN_len];decide)).mono ?_);rintro e w8 ⟨v0,rfl,hR,hB⟩;have HR8:=Aside0.mk hR;have HB8:=Aside0.mk hB;clear hR hB)
 go_ret
 exact ⟨v0,rfl,Kd.R_lower HR8.out HB7.out.size,below_step HB7.out HB8.out⟩
theorem xput_calls {w:World} {A:Option Addr} {c:Nat} (a:Int) (h0:0≤a) (h1:a<9223372036854775808) (hr:Kd.C (Kd.int .u64) w A 1 [a]) (hc:1≤c) :
  Calls Tryz.prog 150 #[.slice A 1 c] w (Gv0 w (packB (bitsN 64 a))):=by
 obtain ⟨ad,rfl,hx⟩:=c_one hr
 have HH:=Aside0.mk (And.intro h0 h1)
 clear hr hc h0 h1
 go_enter Tryz.func150,Tryz.ntmps150
 go_wp2
 obtain ⟨g,hg⟩:∃ g,w.heap.size=g:=⟨_,rfl⟩
 obtain ⟨W0,hW0⟩:∃ W,w.alloc (.cells #[.slice none 0 0,.int .i64 0] 289)=W:=⟨_,rfl⟩
 have HW:Aside0 (WAt w W0 g (.slice none 0 0) []):=⟨by rw [← hW0,← hg];exact wat_new w w (Below.refl _ _)⟩
 have HB:Aside0 (Below w.heap.size w W0):=⟨by rw [← hW0];exact (Below.refl _ _).alloc (Nat.le_refl _) _⟩
 have hx0:W0.cell? ad=some (.int .u64 a):=by rw [← hW0];exact cell_kept hx (World.grownBy_alloc w _ none) (fun r e=>by cases e)
 rw [hg,hW0]
 clear hW0 hg
 refine wp_loop_rounds 2 ?_
 rw [rounds_succ]
 go_wp2_with (go_at_call 191;(with_reducible refine (W04.put_calls g _ _ a 64 w _ HW.out HB.out HH.out.1 (by have:=HH.out;omega) (by decide)).mono ?_);rintro e w7 ⟨rfl,v7,hW,hB,hK,hV⟩;have HW7:=Aside0.mk hW;have HB7:=Aside0.mk hB;clear hW hB hK hV HW HB)
 rw [rounds_succ]
 go_wp2_with (go_at_call 193;(with_reducible refine (W04.bytes_calls g v7 _ w _ HW7.out (by simp only [List.nil_append,bitsN_len];decide)).mono ?_);rintro e w8 ⟨v0,rfl,hR,hB⟩;have HR8:=Aside0.mk hR;have HB8:=Aside0.mk hB;clear hR hB)
 go_ret2
 exact ⟨v0,rfl,Kd.R_lower HR8.out HB7.out.size,below_step HB7.out HB8.out⟩
theorem min_calls {w:World} {A:Option Addr} {c:Nat} (a:Int) (hr:Kd.C (Kd.int .u64) w A 1 [a]) :
  Calls Tryz.prog 198 #[.slice A 1 c] w fun r w'=>r = .returned (.int .u64 a)∧Below w.heap.size w w':=by
 obtain ⟨ad,rfl,hx⟩:=c_one hr
 clear hr
 go_enter Tryz.func198,Tryz.ntmps198
 go_wp2
 refine wp_loop_rounds 1 ?_
 rw [rounds_succ]
 go_wp2
 go_ret
 exact ⟨rfl,Below.refl _ _⟩
theorem max_calls {w:World} {A:Option Addr} {c:Nat} (a:Int) (hr:Kd.C (Kd.int .u64) w A 1 [a]) :
  Calls Tryz.prog 199 #[.slice A 1 c] w fun r w'=>r = .returned (.int .u64 a)∧Below w.heap.size w w':=by
 obtain ⟨ad,rfl,hx⟩:=c_one hr
 clear hr
 go_enter Tryz.func199,Tryz.ntmps199
 go_wp2
 refine wp_loop_rounds 1 ?_
 rw [rounds_succ]
 go_wp2
 go_ret
 exact ⟨rfl,Below.refl _ _⟩
theorem len64_calls {w:World}:Calls Tryz.prog 187 #[.int .u64 0] w fun r w'=>r = .returned (.int .i64 0)∧w=w':=by
 go_enter Tryz.func187,Tryz.ntmps187
 go_wp2
 go_ret
 exact ⟨by kernel_rfl,rfl⟩
theorem pput_calls {w:World} {A:Option Addr} {c:Nat} (a:Int) (h0:0≤a) (h1:a<9223372036854775808) (hr:Kd.C (Kd.int .u64) w A 1 [a]) (hc:1≤c) :
  Calls Tryz.prog 152 #[.slice A 1 c] w (Gv0 w (packB (bitsN 64 a++bitsN 8 0))):=by
 obtain ⟨ad,rfl,hx⟩:=c_one hr
 have HH:=Aside0.mk (And.intro h0 h1)
 have HMI:=Aside0.mk (min_calls (c:=c) a hr)
 have HMA:Aside0 (∀ W,Below w.heap.size w W→Calls Tryz.prog 199 #[.slice (some ad) 1 c] W fun r w'=>r = .returned (.int .u64 a)∧Below W.heap.size W w'):=⟨fun W hW=>max_calls (c:=c) a (Kd.C_below hr hW)⟩
 have HC:Aside0 (∀ W,Below w.heap.size w W→W.cell? ad=some (.int .u64 a)):=⟨fun W hW=>by
  obtain ⟨ad2,e,h⟩:=c_one (Kd.C_below hr hW)
  injection e with e
  rw [e];exact h⟩
 clear hr hc h0 h1 hx
 go_enter Tryz.func152,Tryz.ntmps152
 go_wp2_with (first
  | (go_at_call 198;(with_reducible refine HMI.out.mono ?_);rintro e w1 ⟨rfl,hb1⟩)
  | (go_at_call 199;(with_reducible refine (HMA.out _ hb1).mono ?_);rintro e w2 ⟨rfl,hb2⟩)
  | (go_at_call 187;(with_reducible refine len64_calls.mono ?_);rintro e w3 ⟨rfl,rfl⟩;refine hold ?_))
 unfold Hold
 go_wp2_with (go_at_call 191;refine hold ?_)
 unfold Hold
 have hb:Below w.heap.size w w2:=below_step hb1 hb2
 obtain ⟨g,hg⟩:∃ g,w2.heap.size=g:=⟨_,rfl⟩
 obtain ⟨W0,hW0⟩:∃ W,w2.alloc (.cells #[.slice none 0 0,.int .i64 0] 289)=W:=⟨_,rfl⟩
 have HW:Aside0 (WAt w W0 g (.slice none 0 0) []):=⟨by rw [← hW0,← hg];exact wat_new w w2 hb⟩
 have HB:Aside0 (Below w.heap.size w W0):=⟨by rw [← hW0];exact below_alloc hb _⟩
 have hx0:W0.cell? ad=some (.int .u64 a):=HC.out _ HB.out
 have HCB:Aside0 (∀ W,Below w.heap.size w W→W.cell? ad=some (.int .u64 a)):=HC
 rw [hg,hW0]
 clear hW0 hg hb hb1 hb2 HMI HMA
 (with_reducible refine (W04.put_calls g _ _ a 64 w _ HW.out HB.out HH.out.1 (by have:=HH.out;omega) (by decide)).mono ?_)
 rintro e w7 ⟨rfl,v7,hW,hB,hK,hV⟩
 have HW7:=Aside0.mk hW
 have HB7:=Aside0.mk hB
 clear hW hB hK hV HW HB hx0
 go_wp2_with (first
  | (go_at_call 191;(with_reducible refine (W04.put_calls g _ _ 0 8 w _ HW7.out HB7.out (by decide) (by decide) (by simp only [List.nil_append,bitsN_len];decide)).mono ?_);rintro e w8 ⟨rfl,v8,hW,hB,hK,hV⟩;have HW8:=Aside0.mk hW;have HB8:=Aside0.mk hB;have hx8:=HC.out _ hB;clear hW hB hK hV HW7 HB7))
 refine wp_loop_rounds 2 ?_
 rw [rounds_succ]
 go_wp2_with (go_at_call 191;(with_reducible refine (W04.put_calls g _ _ 0 0 w _ HW8.out HB8.out (by decide) (by decide) (by simp only [List.nil_append,List.length_append,bitsN_len];decide)).mono ?_);rintro e w9 ⟨rfl,v9,hW,hB,hK,hV⟩;have HW9:=Aside0.mk hW;have HB9:=Aside0.mk hB;clear hW hB hK hV HW8 HB8 hx8)
 rw [rounds_succ]
 go_wp2_with (go_at_call 193;(with_reducible refine (W04.bytes_calls g v9 _ w _ HW9.out (by simp only [List.nil_append,List.length_append,bitsN_len];decide)).mono ?_);rintro e w10 ⟨v0,rfl,hR,hB⟩;have HR10:=Aside0.mk hR;have HB10:=Aside0.mk hB;clear hR hB)
 go_ret2
 refine ⟨v0,rfl,?_,below_step HB9.out HB10.out⟩
 have:=Kd.R_lower HR10.out HB9.out.size
 replace this:Kd.R (Kd.int .u8) 5 w10 w.heap.size (fun _=>True) v0 (packB ((bitsN 64 a++bitsN 8 0)++[])):=this
 rw [List.append_nil] at this
 exact this
end Go.Proofs.YtnhkikebfinejaaGreatDoor.Z
namespace Go.Proofs.YtnhkikebfinejaaGreatDoor.X
open Go.RowKit Go.Proofs.YtnhkikebfinejaaGreatDoorW.PrintWords Go.Proofs.YtnhkikebfinejaaGreatDoorW.PrintLast Go.Proofs.YtnhkikebfinejaaGreatDoorW.PrintMore
attribute [local go_sem] max2_int min2_int max_two min_two max_three min_three max_four min_four
def varint_Zig.f (a0:Int):Option (Int):=some (Go.bits .xor .u64 (IntKind.u64.wrap ((IntKind.u64.wrap (a0))*2)) (IntKind.u64.wrap (a0 / 9223372036854775808)))
theorem varint_Zig.calls (a0:Int) (r:Int) (w:World) (h:varint_Zig.f a0=some r) :
  Calls Tryz.prog 148 #[.int .i64 a0] w fun e w'=>e = .returned (.int .u64 r)∧Drawn0 w w':=by
 have H:(some (Go.bits .xor .u64 (IntKind.u64.wrap ((IntKind.u64.wrap (a0))*2)) (IntKind.u64.wrap (a0 / 9223372036854775808))))=some r:=h
 clear h
 obtain rfl:=Option.some.inj H
 go_enter Tryz.func148,Tryz.ntmps148
 go_wp2
 go_ret
 exact ⟨by first | rfl | (simp;done) | (simp [*];done),by repeat (first | exact Drawn0.refl _ | apply Drawn0.step)⟩
end Go.Proofs.YtnhkikebfinejaaGreatDoor.X
namespace Go.Proofs.YtnhkikebfinejaaGreatDoor.Z
open Go Go.RowKit Go.Proofs.YtnhkikebfinejaaGreatDoorW.PrintWords Go.Proofs.YtnhkikebfinejaaGreatDoorW.PrintLast Go.Proofs.YtnhkikebfinejaaGreatDoorW.PrintMore Go.Proofs.YtnhkikebfinejaaGreatDoor.S Go.Proofs.YtnhkikebfinejaaGreatDoor.X
section
attribute [local go_sem ↓] Go.wp_at_zero Go.wp_at_succ
theorem or128:∀ n:Fin 128,Go.bits .or .u8 ((n.val:Int)+128) 128=(n.val:Int)+128:=by decide +kernel
theorem or_128 {n:Int} (h0:128≤n) (h1:n<256):Go.bits .or .u8 n 128=n:=by
 have:=or128 ⟨(n-128).toNat,by omega⟩
 simp only at this
 rw [show (((n-128).toNat:Nat):Int)+128=n by omega] at this
 exact this
def vint (n:Int):List Int:=if n<128 then [n] else [n,1]
theorem vput_calls {w:World} {A:Option Addr} {c:Nat} {l:List Int} (n:Int) (h0:0≤n) (h1:n<256) (hr:Kd.C (Kd.int .u8) w A l.length l) (hc:l.length≤c) (hl:l.length≤1000) :
  Calls Tryz.prog 147 #[.slice A l.length c,.int .u64 n] w (Gv w (l++vint n)):=by
 have HC:=Aside0.mk (bytes_Clone.calls A c l l w hr hc (by unfold bytes_Clone.f;rw [if_pos (by omega)]))
 have HL:=Aside0.mk hl
 clear hr hc hl
 obtain ⟨E,hE⟩:∃ E,l++vint n=E:=⟨_,rfl⟩
 have HE:=Aside0.mk hE
 rw [hE]
 clear hE
 have e4:n % 256=n:=by omega
 by_cases hn:n<128
 ·have d1:decide (128≤n)=false:=decide_eq_false (by omega)
  have HN:=Aside0.mk hn
  clear hn h0 h1
  go_enter Tryz.func147,Tryz.ntmps147
  go_wp2_with (go_at_call 39;(with_reducible refine HC.out.mono ?_);rintro e w2 ⟨v0,rfl,ho,hb⟩;refine hold ?_)
  unfold Hold
  obtain ⟨A2,c2,rfl⟩:=Kd.R_slice ho
  have HO:=Aside0.mk ho
  have HB:=Aside0.mk hb
  clear ho hb
  go_wp2
  refine wp_loop_rounds 1 ?_
  rw [rounds_succ]
  go_wp2_with ((with_reducible refine gate_builtin (b:=.append) (xs:=#[.tmp 18,.tmp 21]) rfl ?_);at_builtin;refine hold ?_)
  unfold Hold
  refine Kd.R_append (Kd.int .u8) (w0:=w) w.heap.size rfl (.tmp 18) (.tmp 21) 46 5 (.int .u8 0) 1 rfl Tryz.underlying46 info_u8 rfl (by decide) (by decide) _ l n [.int .u8 n] (fun _=>True) (fun _=>False) rfl rfl rfl (fun _ hk=>hk.elim) (fun _ _=>trivial) HO.out HB.out HB.out.size (by have:=HL.out;omega) ?_
  intro v9 w9 ho hb hg hat
  have HO9:=Aside0.mk ho
  have HB9:=Aside0.mk hb
  clear ho hb hg hat
  go_wp2
  go_ret
  refine ⟨_,rfl,?_,HB9.out⟩
  rw [← HE.out]
  unfold vint
  rw [if_pos HN.out]
  exact HO9.out
 ·have d1:decide (128≤n)=true:=decide_eq_true (by omega)
  have e5:=or_128 (n:=n) (by omega) h1
  have e6:n / 128=1:=by omega
  have HN:=Aside0.mk hn
  clear hn h0 h1
  go_enter Tryz.func147,Tryz.ntmps147
  go_wp2_with (go_at_call 39;(with_reducible refine HC.out.mono ?_);rintro e w2 ⟨v0,rfl,ho,hb⟩;refine hold ?_)
  unfold Hold
  obtain ⟨A2,c2,rfl⟩:=Kd.R_slice ho
  have HO:=Aside0.mk ho
  have HB:=Aside0.mk hb
  clear ho hb
  go_wp2
  refine wp_loop_rounds 2 ?_
  rw [rounds_succ]
  go_wp2_with ((with_reducible refine gate_builtin (b:=.append) (xs:=#[.tmp 12,.tmp 16]) rfl ?_);at_builtin;refine hold ?_)
  unfold Hold
  refine Kd.R_append (Kd.int .u8) (w0:=w) w.heap.size rfl (.tmp 12) (.tmp 16) 46 5 (.int .u8 0) 1 rfl Tryz.underlying46 info_u8 rfl (by decide) (by decide) _ l n [.int .u8 n] (fun _=>True) (fun _=>False) rfl rfl rfl (fun _ hk=>hk.elim) (fun _ _=>trivial) HO.out HB.out HB.out.size (by have:=HL.out;omega) ?_
  intro v9 w9 ho hb hg hat
  have HO9:=Aside0.mk ho
  have HB9:=Aside0.mk hb
  obtain ⟨A3,c3,rfl⟩:=Kd.R_slice ho
  clear ho hb hg hat
  go_wp2
  rw [rounds_succ]
  go_wp2_with ((with_reducible refine gate_builtin (b:=.append) (xs:=#[.tmp 18,.tmp 21]) rfl ?_);at_builtin;refine hold ?_)
  unfold Hold
  have HO9':Aside0 (Kd.R (Kd.int .u8) 5 w9 w.heap.size (fun _=>True) (.slice A3 (l.length+1) c3) (l++[n])):=⟨by have:=HO9.out;rwa [List.length_append] at this⟩
  refine Kd.R_append (Kd.int .u8) (w0:=w) w.heap.size rfl (.tmp 18) (.tmp 21) 46 5 (.int .u8 0) 1 rfl Tryz.underlying46 info_u8 rfl (by decide) (by decide) _ (l++[n]) 1 [.int .u8 1] (fun _=>True) (fun _=>False) rfl rfl rfl (fun _ hk=>hk.elim) (fun _ _=>trivial) HO9'.out HB9.out HB9.out.size (by have:=HL.out;rw [List.length_append];simp;omega) ?_
  intro v10 w10 ho hb hg hat
  have HO10:=Aside0.mk ho
  have HB10:=Aside0.mk hb
  clear ho hb hg hat
  go_wp2
  go_ret
  refine ⟨_,rfl,?_,HB10.out⟩
  rw [← HE.out]
  unfold vint
  rw [if_neg (by have:=HN.out;omega)]
  have:=HO10.out
  rw [List.append_assoc] at this
  exact this
theorem zig_calls {w:World} (a:Int) (h0:0≤a) (h1:a<128):Calls Tryz.prog 148 #[.int .i64 a] w fun r w'=>r = .returned (.int .u64 (2*a))∧Below w.heap.size w w':=by
 have key:∀ n:Fin 128,varint_Zig.f (n.val:Int)=some (2*(n.val:Int)):=by decide +kernel
 have:=key ⟨a.toNat,by omega⟩
 simp only at this
 rw [show ((a.toNat:Nat):Int)=a by omega] at this
 refine (varint_Zig.calls a (2*a) w this).mono ?_
 exact fun e w' h=>⟨h.1,Drawn0.below h.2⟩
end
section
attribute [local go_sem ↓] Go.wp_at_zero Go.wp_at_succ
theorem cell1 {W:World} {g:Nat} {x:Value} {t:TypeId} (h:W.heap[g]?=some (.cells #[x] t)):W.cell? ⟨g,0,none⟩=some x:=by
 have:=blk_cell h 0
 simpa using this
theorem rfn_calls {w:World} {g c:Nat} {ad:Addr} {v:Int} (hb:w.heap[g]?=some (.cells #[.slice (some ad) 1 c] 203)) (hx:w.cell? ad=some (.int .u64 v)) :
  Calls Tryz.prog 197 #[.int .u64 v,.pointer (some ⟨g,0,none⟩)] w fun r w'=>r = .returned (.bool false)∧w=w':=by
 have hc:=blk_cell hb 0
 simp only [List.getElem?_toArray,List.getElem?_cons_zero] at hc
 clear hb
 go_enter Tryz.func197,Tryz.ntmps197
 go_wp2
 go_ret
 exact ⟨by simp,rfl⟩
theorem rindex_calls {w:World} {g c:Nat} {ad:Addr} {v:Int} (hb:w.heap[g]?=some (.cells #[.slice (some ad) 1 c] 203)) (hx:w.cell? ad=some (.int .u64 v)) :
  Calls Tryz.prog 196 #[.slice (some ad) 1 c,.func (Fn.func 197) #[] #[.pointer (some ⟨g,0,none⟩)]] w fun r w'=>r = .returned (.int .i64 (-1))∧w=w':=by
 have HF:=Aside0.mk (rfn_calls hb hx)
 clear hb
 go_enter Tryz.func196,Tryz.ntmps196
 go_wp2
 refine wp_loop_rounds 2 ?_
 rw [rounds_succ]
 go_wp2_with (go_at_call 197;(with_reducible refine HF.out.mono ?_);rintro r w2 ⟨rfl,rfl⟩)
 rw [rounds_succ]
 go_wp2
 go_ret
 exact ⟨rfl,rfl⟩
theorem rput_calls {w:World} {A:Option Addr} {c:Nat} (v:Int) (h0:0≤v) (h1:v<128) (hr:Kd.C (Kd.int .u64) w A 1 [v]) (hc:1≤c) :
  Calls Tryz.prog 151 #[.slice A 1 c] w (Gv0 w [1,v]):=by
 obtain ⟨ad,rfl,hx⟩:=c_one hr
 obtain ⟨g,hg⟩:∃ g,w.heap.size=g:=⟨_,rfl⟩
 obtain ⟨W0,hW0⟩:∃ W,w.alloc (.cells #[.slice (some ad) 1 c] 203)=W:=⟨_,rfl⟩
 have hB:Below w.heap.size w W0:=by rw [← hW0];exact below_alloc (Below.refl _ _) _
 have hb0:W0.heap[g]?=some (.cells #[.slice (some ad) 1 c] 203):=by rw [← hW0];exact newb hg
 have HCC:Aside0 (∀ W,Below w.heap.size w W→W.cell? ad=some (.int .u64 v)):=⟨fun W hW=>by
  obtain ⟨ad2,e,h⟩:=c_one (Kd.C_below hr hW)
  injection e with e
  rw [e];exact h⟩
 have hx0:=HCC.out _ hB
 have HI:=Aside0.mk (rindex_calls hb0 hx0)
 have HG:=Aside0.mk hg
 have HB:=Aside0.mk hB
 have HB0:=Aside0.mk hb0
 have HV:=Aside0.mk (And.intro h0 h1)
 have hq:=blk_cell hb0 0
 have hf:=blk_frozen hb0 0
 simp only [List.getElem?_toArray,List.getElem?_cons_zero] at hq
 have hc1:(1≤(c:Int))=True:=eq_true (by omega)
 have HP1:Aside0 (∀ W,Calls Tryz.prog 147 #[.slice none 0 0,.int .u64 1] W (Gv W [1])):=⟨fun W=>vput_calls (l:=[]) 1 (by decide) (by decide) (Kd.R_reads' (Kd.R_nil (Kd.int .u8) 5 W 0 (fun _=>True))).2.2 (Nat.le_refl _) (by decide)⟩
 have HP2:Aside0 (∀ W b A c,Kd.R (Kd.int .u8) 5 W b (fun _=>True) (.slice A 1 c) [1]→Calls Tryz.prog 147 #[.slice A 1 c,.int .u64 v] W (Gv W [1,v])):=⟨fun W b A c h=>by
  have:=vput_calls (l:=[1]) v h0 (by omega) (Kd.R_reads' h).2.2 (Kd.R_reads' h).2.1 (by decide)
  unfold vint at this
  rw [if_pos h1] at this
  exact this⟩
 clear hr hc hx hb0 hB h0 h1
 go_enter Tryz.func151,Tryz.ntmps151
 go_wp2
 clear hg hW0
 refine wp_loop_rounds 2 ?_
 rw [rounds_succ]
 go_wp2_with (go_at_call 196;(with_reducible refine HI.out.mono ?_);rintro r w2 ⟨rfl,rfl⟩)
 have e1:IntKind.u64.wrap 1=1:=by decide
 have hS0:W0.drew.cell? ⟨g,0,none⟩=some (.slice (some ad) 1 c)∧W0.drew.cell? ad=some (.int .u64 v):=⟨hq,hx0⟩
 have hb0:Below w.heap.size w W0.drew:=below_drew HB.out
 have hg0:W0.drew.heap[g]?=some (.cells #[.slice (some ad) 1 c] 203):=HB0.out
 go_region_held3 (fun w'=>w'.cell? ⟨g,0,none⟩=some (.slice (some ad) 1 c)∧w'.cell? ad=some (.int .u64 v)) (first | exact hS0 | exact hS3 | exact hS4)
  (first
   | (go_at_call 147;(with_reducible refine (HP1.out _).mono ?_);rintro r w3 ⟨v3,rfl,ho3,hb3⟩;obtain ⟨A3,c3,rfl⟩:=Kd.R_slice ho3;have hb4:=below_step hb0 hb3;have hg3:=blkb hb3 hg0;have hS3:w3.cell? ⟨g,0,none⟩=some (.slice (some ad) 1 c)∧w3.cell? ad=some (.int .u64 v):=⟨cell1 hg3,HCC.out _ hb4⟩)
   | (go_at_call 147;(with_reducible refine (HP2.out _ _ A3 c3 ho3).mono ?_);rintro r w4 ⟨v4,rfl,ho4,hb5⟩;have hb6:=below_step hb4 hb5;have hg4:=blkb hb5 hg3;have hS4:w4.cell? ⟨g,0,none⟩=some (.slice (some ad) 1 c)∧w4.cell? ad=some (.int .u64 v):=⟨cell1 hg4,HCC.out _ hb6⟩))
 have hq4:=hS4.1
 have hf4:=blk_frozen hg4 0
 have hc4:=cell1 (blk_set hg4 0 (.slice (some ⟨ad.block,ad.off+1,none⟩) 0 (c-1)))
 have hc5:=cell1 (blk_set hg4 0 (.slice (some ad) 0 0))
 have HS4:=Aside0.mk (And.intro ho4 (And.intro hb6 (And.intro hb4 (And.intro hb5 hg4))))
 clear hS0 hS3 hS4 hb0 hg0 hb3 hb4 hg3 hb5 hg4 ho3 hb6 hx0 hq hf
 go_wp2
 all_goals
  rw [rounds_succ]
  go_wp2
  go_ret2
  exact ⟨v4,rfl,Kd.R_lower (Kd.R_set HS4.out.1 HS4.out.2.2.2.2 (by decide) _ _) HS4.out.2.2.1.size,HS4.out.2.1.setCell (p:=⟨g,0,none⟩) (by rw [HG.out];exact Nat.le_refl _) _⟩
end
end Go.Proofs.YtnhkikebfinejaaGreatDoor.Z
namespace Go.Proofs.YtnhkikebfinejaaGreatDoor.Z
open Go Go.RowKit Go.Proofs.YtnhkikebfinejaaGreatDoorW.PrintWords Go.Proofs.YtnhkikebfinejaaGreatDoorW.PrintLast Go.Proofs.YtnhkikebfinejaaGreatDoorW.PrintMore Go.Proofs.YtnhkikebfinejaaGreatDoor.S Go.Proofs.YtnhkikebfinejaaGreatDoor.X
open Go.Proofs.YtnhkikebfinejaaGreatDoor.B (bitsN packB bitsN_len)
attribute [local go_sem ↓] Go.wp_at_zero Go.wp_at_succ
theorem offsets_calls {w:World} {A:Option Addr} {c:Nat} (a:Int) (hr:Kd.C (Kd.int .i64) w A 1 [a]) :
  Calls Tryz.prog 194 #[.slice A 1 c] w fun r w'=>∃ v,r = .returned v∧Kd.R (Kd.int .u64) 30 w' w.heap.size (fun _=>True) v [0]∧Below w.heap.size w w':=by
 obtain ⟨ad,rfl,hx⟩:=c_one hr
 obtain ⟨u,hu⟩:∃ u,IntKind.u64.wrap a=u:=⟨_,rfl⟩
 have e2:IntKind.u64.wrap (u-u)=0:=by rw [Int.sub_self];decide
 clear hr
 go_enter Tryz.func194,Tryz.ntmps194
 go_wp2
 refine wp_loop_rounds 2 ?_
 rw [rounds_succ]
 go_wp2_with ((with_reducible refine gate_builtin (b:=.append) (xs:=#[.tmp 12,.tmp 20]) rfl ?_);at_builtin;refine hold ?_)
 unfold Hold
 refine Kd.R_append (Kd.int .u64) (w0:=w) w.heap.size rfl (.tmp 12) (.tmp 20) 203 30 (.int .u64 0) 8 rfl Tryz.underlying203 info30 rfl (by decide) (by decide) _ [] 0 [.int .u64 0] (fun _=>True) (fun _=>False) rfl rfl rfl (fun _ hk=>hk.elim) (fun _ _=>trivial) (Kd.R_nil _ _ _ _ _) (Below.refl _ _) (Nat.le_refl _) (by decide) ?_
 intro v9 w9 ho hb hg hat
 have HO9:=Aside0.mk ho
 have HB9:=Aside0.mk hb
 clear ho hb hg hat
 go_wp2
 rw [rounds_succ]
 go_wp2
 go_ret
 exact ⟨_,rfl,HO9.out,HB9.out⟩
theorem packed_calls {w:World} {A:Option Addr} {c:Nat} (a:Int) (h0:0≤a) (h1:a<9223372036854775808) (hr:Kd.C (Kd.int .i64) w A 1 [a]) :
  Calls Tryz.prog 145 #[.slice A 1 c] w (Gv w (low a 8++packB (bitsN 64 0++bitsN 8 0))):=by
 have HOF:=Aside0.mk (offsets_calls (c:=c) a hr)
 have HC:Aside0 (∀ W,Below w.heap.size w W → ∃ ad:Addr,A=some ad∧W.cell? ad=some (.int .i64 a)):=⟨fun W hW=>c_one (Kd.C_below hr hW)⟩
 have HA:=Aside0.mk (And.intro h0 h1)
 have e1:IntKind.u64.wrap a=a:=u64_w h0 (by omega)
 obtain ⟨P,hP⟩:∃ P,packB (bitsN 64 0++bitsN 8 0)=P:=⟨_,rfl⟩
 have hPP:∀ {W:World} {A:Option Addr} {c:Nat},Kd.C (Kd.int .u64) W A 1 [0]→1≤c→Calls Tryz.prog 152 #[.slice A 1 c] W (Gv0 W P):=fun h hc=>by
  rw [← hP]
  exact pput_calls 0 (by decide) (by decide) h hc
 have HP:=Aside0.mk @hPP
 have HPL:Aside0 (P.length=9):=⟨by rw [← hP];decide +kernel⟩
 obtain ⟨E,hE⟩:∃ E,low a 8=E:=⟨_,rfl⟩
 have HR:Aside0 (∀ W,Calls Tryz.prog 146 #[.slice none 0 0,.int .u64 a] W (Gv W E)):=⟨fun W=>by rw [← hE];exact traw_calls a HA.out.1⟩
 have HEL:Aside0 (E.length=8):=⟨by rw [← hE,low_len]⟩
 rw [hP,hE]
 obtain ⟨ad0,rfl,-⟩:=c_one hr
 clear hr h0 h1 hP hE hPP
 go_enter Tryz.func145,Tryz.ntmps145
 go_wp2_with (go_at_call 194;(with_reducible refine HOF.out.mono ?_);rintro r w1 ⟨v1,rfl,ho,hb⟩;refine hold ?_)
 unfold Hold
 obtain ⟨A1,c1,rfl⟩:=Kd.R_slice ho
 have HO1:=Aside0.mk ho
 have HB1:=Aside0.mk hb
 have HP1:=Aside0.mk (HP.out (Kd.R_reads' ho).2.2 (Kd.R_reads' ho).2.1)
 clear ho hb
 go_wp2_with (go_at_call 152;(with_reducible refine HP1.out.mono ?_);rintro r w2 ⟨v2,rfl,ho,hb⟩;refine hold ?_)
 unfold Hold
 obtain ⟨A2,c2,rfl⟩:=Kd.R_slice ho
 obtain ⟨p,hp⟩:∃ n,P.length=n:=⟨_,rfl⟩
 have HO2:=Aside0.mk (And.intro ho hp)
 have HB2:=Aside0.mk (below_step HB1.out hb)
 have hx2:w2.cell? ad0=some (.int .i64 a):=by
  obtain ⟨ad,e,h⟩:=HC.out _ HB2.out
  injection e with e
  rw [e];exact h
 rw [hp]
 clear ho hb hp
 go_wp2_with (go_at_call 146;(with_reducible refine (HR.out _).mono ?_);rintro r w3 ⟨v3,rfl,ho,hb⟩;refine hold ?_)
 unfold Hold
 have HO3:=Aside0.mk ho
 have HB3:=Aside0.mk hb
 have HC3:=Aside0.mk (Kd.C_below (Kd.R_reads' HO2.out.1).2.2 hb)
 clear ho hb hx2
 go_wp2_with ((with_reducible refine gate_builtin (b:=.append) (xs:=#[.tmp 15,.tmp 16]) rfl ?_);at_builtin;refine hold ?_)
 unfold Hold
 refine Kd.R_append_rows (Kd.int .u8) (w0:=w2) w2.heap.size rfl (.tmp 15) (.tmp 16) 46 5 (.int .u8 0) 1 rfl Tryz.underlying46 info_u8 rfl (by decide) (by decide) v3 E P A2 p c2 (fun _=>True) (fun _=>False) rfl rfl HO3.out (by have:=HC3.out;rw [HO2.out.2] at this;exact this) (fun _ _ h=>h) (fun _ h=>h.elim) (fun _ _=>trivial) HB3.out HB3.out.size (by have:=HEL.out;have:=HPL.out;have:=HO2.out.2;omega) ?_
 intro v9 w9 ho hb hg hat
 have HO9:=Aside0.mk ho
 have HB9:=Aside0.mk hb
 clear ho hb hg hat
 go_wp2
 go_ret
 exact ⟨_,rfl,Kd.R_lower HO9.out HB2.out.size,below_step HB2.out HB9.out⟩
def tB (way:Nat) (a:Int):List Int:=if way=0 then low a 8 else if way=1 then vint (2*a) else if way=2 then packB (bitsN 64 a) else low a 8++packB (bitsN 64 0++bitsN 8 0)
theorem tput_calls {w:World} {A:Option Addr} {c:Nat} (way:Nat) (hw:way<4) (a:Int) (h0:0≤a) (h1:a<128) (hr:Kd.C (Kd.int .i64) w A 1 [a]) (hc:1≤c) :
  Calls Tryz.prog 109 #[.slice A 1 c,.int .i64 (way:Int)] w (Gv0 w (tB way a)):=by
 obtain ⟨ad,rfl,hx⟩:=c_one hr
 have e1:IntKind.u64.wrap a=a:=u64_w h0 (by omega)
 match way,hw with
 | 0,_=>
  show Calls _ _ _ w (Gv0 w (low a 8))
  have HR:=Aside0.mk (traw_calls (w:=w) a h0)
  clear hr hc h0 h1
  go_enter Tryz.func109,Tryz.ntmps109
  go_wp2
  refine wp_loop_rounds 2 ?_
  rw [rounds_succ]
  go_wp2_with (go_at_call 146;(with_reducible refine HR.out.mono ?_);rintro r w1 ⟨v1,rfl,ho,hb⟩;have H1:=Aside0.mk (And.intro ho hb);clear ho hb)
  rw [rounds_succ]
  go_wp2
  go_ret2
  exact ⟨v1,rfl,H1.out.1,H1.out.2⟩
 | 1,_=>
  show Calls _ _ _ w (Gv0 w (vint (2*a)))
  have HZ:=Aside0.mk (zig_calls (w:=w) a h0 h1)
  have HV:Aside0 (∀ W,Calls Tryz.prog 147 #[.slice none 0 0,.int .u64 (2*a)] W (Gv W (vint (2*a)))):=⟨fun W=>vput_calls (l:=[]) (2*a) (by omega) (by omega) (Kd.R_reads' (Kd.R_nil (Kd.int .u8) 5 W 0 (fun _=>True))).2.2 (Nat.le_refl _) (by decide)⟩
  clear hr hc h0 h1
  go_enter Tryz.func109,Tryz.ntmps109
  go_wp2_with (first
   | (go_at_call 148;(with_reducible refine HZ.out.mono ?_);rintro r w1 ⟨rfl,hb1⟩)
   | (go_at_call 147;(with_reducible refine (HV.out _).mono ?_);rintro r w2 ⟨v2,rfl,ho,hb⟩;have H2:=Aside0.mk (And.intro ho (below_step hb1 hb));have HS:=Aside0.mk hb1.size;clear ho hb hb1))
  refine wp_loop_rounds 1 ?_
  rw [rounds_succ]
  go_wp2
  go_ret2
  exact ⟨v2,rfl,Kd.R_lower H2.out.1 HS.out,H2.out.2⟩
 | 2,_=>
  show Calls _ _ _ w (Gv0 w (packB (bitsN 64 a)))
  have HT:=Aside0.mk (twice_calls a h0 (by omega) hr hc)
  clear hr hc h0 h1
  go_enter Tryz.func109,Tryz.ntmps109
  go_wp2_with (go_at_call 144;(with_reducible refine HT.out.mono ?_);rintro r w1 ⟨v1,rfl,ho,hb⟩;have H1:=Aside0.mk (And.intro ho hb);clear ho hb)
  go_ret2
  exact ⟨v1,rfl,H1.out.1,H1.out.2⟩
 | 3,_=>
  show Calls _ _ _ w (Gv0 w (low a 8++packB (bitsN 64 0++bitsN 8 0)))
  have HT:=Aside0.mk (packed_calls (c:=c) a h0 (by omega) hr)
  obtain ⟨E,hE⟩:∃ E,low a 8++packB (bitsN 64 0++bitsN 8 0)=E:=⟨_,rfl⟩
  rw [hE] at HT ⊢
  clear hr hc h0 h1 hE
  go_enter Tryz.func109,Tryz.ntmps109
  go_wp2_with (go_at_call 145;(with_reducible refine HT.out.mono ?_);rintro r w1 ⟨v1,rfl,ho,hb⟩;have H1:=Aside0.mk (And.intro ho hb);clear ho hb)
  go_ret2
  exact ⟨v1,rfl,H1.out.1,H1.out.2⟩
def vB (way:Nat) (a:Int):List Int:=if way=0 then low a 8 else if way=1 then packB (bitsN 64 a) else if way=2 then [1,a] else packB (bitsN 64 a++bitsN 8 0)
theorem values_calls {w:World} {A:Option Addr} {c:Nat} (way:Nat) (hw:way<4) (a:Int) (h0:0≤a) (h1:a<128) (hr:Kd.C (Kd.int .u64) w A 1 [a]) (hc:1≤c) :
  Calls Tryz.prog 110 #[.slice A 1 c,.int .i64 (way:Int)] w (Gv w (vB way a)):=by
 match way,hw with
 | 0,_=>
  show Calls _ _ _ w (Gv w (low a 8))
  have HR:=Aside0.mk (craw_calls a h0 hr hc)
  clear hr hc h0 h1
  go_enter Tryz.func110,Tryz.ntmps110
  go_wp2_with (go_at_call 149;(with_reducible refine HR.out.mono ?_);rintro r w1 ⟨v1,rfl,ho,hb⟩;have H1:=Aside0.mk (And.intro ho hb);clear ho hb)
  go_ret
  exact ⟨v1,rfl,H1.out.1,H1.out.2⟩
 | 1,_=>
  show Calls _ _ _ w (Gv w (packB (bitsN 64 a)))
  have HR:=Aside0.mk (xput_calls a h0 (by omega) hr hc)
  clear hr hc h0 h1
  go_enter Tryz.func110,Tryz.ntmps110
  go_wp2_with (go_at_call 150;(with_reducible refine HR.out.mono ?_);rintro r w1 ⟨v1,rfl,ho,hb⟩;have H1:=Aside0.mk (And.intro ho hb);clear ho hb)
  go_ret
  exact ⟨v1,rfl,H1.out.1,H1.out.2⟩
 | 2,_=>
  show Calls _ _ _ w (Gv w [1,a])
  have HR:=Aside0.mk (rput_calls a h0 h1 hr hc)
  clear hr hc h0 h1
  go_enter Tryz.func110,Tryz.ntmps110
  go_wp2_with (go_at_call 151;(with_reducible refine HR.out.mono ?_);rintro r w1 ⟨v1,rfl,ho,hb⟩;have H1:=Aside0.mk (And.intro ho hb);clear ho hb)
  go_ret
  exact ⟨v1,rfl,H1.out.1,H1.out.2⟩
 | 3,_=>
  show Calls _ _ _ w (Gv w (packB (bitsN 64 a++bitsN 8 0)))
  have HR:=Aside0.mk (pput_calls a h0 (by omega) hr hc)
  clear hr hc h0 h1
  go_enter Tryz.func110,Tryz.ntmps110
  go_wp2_with (go_at_call 152;(with_reducible refine HR.out.mono ?_);rintro r w1 ⟨v1,rfl,ho,hb⟩;have H1:=Aside0.mk (And.intro ho hb);clear ho hb)
  go_ret
  exact ⟨v1,rfl,H1.out.1,H1.out.2⟩
end Go.Proofs.YtnhkikebfinejaaGreatDoor.Z
namespace Go.Proofs.YtnhkikebfinejaaGreatDoor.Z
open Go Go.RowKit Go.Proofs.YtnhkikebfinejaaGreatDoorW.PrintWords Go.Proofs.YtnhkikebfinejaaGreatDoorW.PrintLast Go.Proofs.YtnhkikebfinejaaGreatDoorW.PrintMore Go.Proofs.YtnhkikebfinejaaGreatDoor.S Go.Proofs.YtnhkikebfinejaaGreatDoor.X
attribute [local go_sem ↓] Go.wp_at_zero Go.wp_at_succ loadSm_eq storeSm_eq
theorem leaf_cutV {M:World→Option Addr→Nat→Value→Option Addr→Nat→Value→Prop} {G:Prop} (F:World→Value→Value→Prop) (h:(∀ W A c a B d b,F W a b→M W A c a B d b)→G) (k:∀ W A c a B d b,F W a b→M W A c a B d b):G:=h k
theorem lit3_R {w:World} (base g:Nat) (hg:w.heap.size=g) (a b c:Int) (hb:base≤w.heap.size):Kd.R (Kd.int .u8) 5 (w.alloc (.cells #[.int .u8 a,.int .u8 b,.int .u8 c] 5)) base (fun _=>True) (.slice (some ⟨g,0,none⟩) 3 3) [a,b,c]:=by
 subst hg
 exact Kd.R_of_own (own_lit_of w base 5 [a,b,c] hb (by simp)) (fun _ _=>trivial)
theorem cright_calls {w:World} {A:Option Addr} {c:Nat}:Calls Tryz.prog 108 #[.slice A 1 c] w fun r w'=>r = .returned (.int .i64 0)∧w=w':=by
 go_enter Tryz.func108,Tryz.ntmps108
 go_wp2
 refine wp_loop_rounds 1 ?_
 rw [rounds_succ]
 go_wp2
 go_ret
 exact ⟨rfl,rfl⟩
def chB (codec:Nat) (a:Int):List Int:=[(codec:Int),0,1]++tB (codec / 4) a++vB (codec % 4) a
theorem tB_len {way:Nat} {a:Int}:(tB way a).length≤17:=by
 unfold tB vint
 have h1:(B.packB (B.bitsN 64 a)).length≤17:=by rw [B.packB_len,B.bitsN_len];decide
 have h2:(B.packB (B.bitsN 64 0++B.bitsN 8 0)).length=9:=by decide +kernel
 split
 ·rw [low_len];decide
 ·split
  ·split<;>simp
  ·split
   ·exact h1
   ·rw [List.length_append,low_len,h2];decide
theorem vB_len {way:Nat} {a:Int}:(vB way a).length≤17:=by
 unfold vB
 have h1:(B.packB (B.bitsN 64 a)).length≤17:=by rw [B.packB_len,B.bitsN_len];decide
 have h2:(B.packB (B.bitsN 64 a++B.bitsN 8 0)).length≤17:=by rw [B.packB_len,List.length_append,B.bitsN_len,B.bitsN_len];decide
 split
 ·rw [low_len];decide
 ·split
  ·exact h1
  ·split
   ·simp
   ·exact h2
theorem sm_cells {W:World} {g:Nat} {a b:Int} (h:W.heap[g]?=some (Obj.cells #[.int .i64 a,.int .u64 b] 35)):W.cell? ⟨g,0,none⟩=some (.int .i64 a)∧W.cell? ⟨g,1,none⟩=some (.int .u64 b):=
 ⟨(blk_cell h 0).trans rfl,(blk_cell h 1).trans rfl⟩
theorem w64_nat {n:Nat} (h:n≤1000):wrap64 (n:Int)=(n:Int):=wrap64_id (by omega) (by omega)
structure EnR (w:World) (a:Int) (W:World) (v34 v39:Value):Prop where
 r:Kd.R (Kd.int .i64) 2 W w.heap.size (fun _=>True) v34 [a]
 s:Kd.R (Kd.int .u64) 30 W w.heap.size (fun _=>True) v39 [a]
 b:Below w.heap.size w W
theorem encode_calls [Inhabited Sanct] {w:World} {A:Option Addr} {c:Nat} (codec:Nat) (hcd:codec≤15) (a:Int) (h0:0≤a) (h1:a<128) (hr:RSm w A [⟨a,a⟩]) (hc:1≤c) :
  Calls Tryz.prog 68 #[.slice A 1 c,.int .i64 (codec:Int)] w (Gv0 w (chB codec a)):=by
 obtain ⟨g,o,rfl,hcc⟩:=hr.at_ (j:=0) (x:=⟨a,a⟩) rfl
 rw [Nat.zero_mul,Nat.add_zero] at hcc
 have hld:=ld_sm hcc
 have hst:=st_sm ⟨a,a⟩ w
 obtain ⟨W1,hW1⟩:∃ W,w.alloc (Obj.cells (smA ⟨a,a⟩) 35)=W:=⟨_,rfl⟩
 obtain ⟨gb,hgb⟩:∃ g,w.heap.size=g:=⟨_,rfl⟩
 have hb1:Below w.heap.size w W1:=by rw [← hW1];exact below_alloc (Below.refl _ _) _
 have hk1:W1.heap[gb]?=some (Obj.cells #[.int .i64 a,.int .u64 a] 35):=by rw [← hW1];exact newb hgb
 rw [hW1,hgb] at hst
 have HA:=Aside0.mk (And.intro h0 h1)
 obtain ⟨tw,htw⟩:∃ t,codec / 4=t:=⟨_,rfl⟩
 obtain ⟨vw,hvw⟩:∃ t,codec % 4=t:=⟨_,rfl⟩
 have e6:wrap64 (tw:Int)=(tw:Int):=w64_nat (by omega)
 have e7:wrap64 (vw:Int)=(vw:Int):=w64_nat (by omega)
 have HT:Aside0 (∀ W A c,Kd.C (Kd.int .i64) W A 1 [a]→1≤c→Calls Tryz.prog 109 #[.slice A 1 c,.int .i64 (tw:Int)] W (Gv0 W (tB tw a))):=⟨fun W A c h hc=>tput_calls tw (by omega) a h0 h1 h hc⟩
 have HV:Aside0 (∀ W A c,Kd.C (Kd.int .u64) W A 1 [a]→1≤c→Calls Tryz.prog 110 #[.slice A 1 c,.int .i64 (vw:Int)] W (Gv W (vB vw a))):=⟨fun W A c h hc=>values_calls vw (by omega) a h0 h1 h hc⟩
 obtain ⟨cz,hcz⟩:∃ z:Int,(codec:Int)=z:=⟨_,rfl⟩
 have hE:chB codec a=[cz,0,1]++tB tw a++vB vw a:=by unfold chB;rw [hcz,htw,hvw]
 obtain ⟨TB,hTB⟩:∃ l,tB tw a=l:=⟨_,rfl⟩
 obtain ⟨VB,hVB⟩:∃ l,vB vw a=l:=⟨_,rfl⟩
 have HTL:Aside0 (TB.length≤17):=⟨by rw [← hTB];exact tB_len⟩
 have HVL:Aside0 (VB.length≤17):=⟨by rw [← hVB];exact vB_len⟩
 rw [hE,hcz]
 rw [hTB] at HT ⊢
 rw [hVB] at HV ⊢
 obtain ⟨E,hE2⟩:∃ E,[cz,0,1]++TB++VB=E:=⟨_,rfl⟩
 have HE:=Aside0.mk hE2
 rw [hE2]
 have d1:decide (cz<0)=false:=decide_eq_false (by omega)
 have d2:decide (16≤cz)=false:=decide_eq_false (by omega)
 have e1:cz.tdiv 4=(tw:Int):=by rw [← hcz,← htw,Int.tdiv_eq_ediv_of_nonneg (by omega)];omega
 have e2:cz.tmod 4=(vw:Int):=by rw [← hcz,← hvw,Int.tmod_eq_emod_of_nonneg (by omega)];omega
 have e3:IntKind.u8.wrap cz=cz:=u8_w (by omega) (by omega)
 have HGB:=Aside0.mk hgb
 clear hr hcc hc h0 h1 hcd hE hcz htw hvw hTB hVB hE2
 go_enter Tryz.func68,Tryz.ntmps68
 go_wp2_with (go_at_call 108;(with_reducible refine cright_calls.mono ?_);rintro r w2 ⟨rfl,rfl⟩)
 refine wp_loop_rounds 2 ?_
 rw [rounds_succ]
 go_wp2
 have HB1:=Aside0.mk hb1
 have HK1:=Aside0.mk hk1
 clear hb1 hk1 hW1 hld hst hgb
 apply leaf_cutV (fun W x y=>EnR w a W x y)
 ·intro hkey
  refine start_ (n:=12) (S:=fun w'=>w'.cell? ⟨gb,0,none⟩=some (.int .i64 a)∧w'.cell? ⟨gb,1,none⟩=some (.int .u64 a)) (ds:=[]) (fbB 12 0) (by kernel_rfl) rfl rfl (sm_cells HK1.out) (fun hHeld=>?_)
  obtain ⟨wt,hwt⟩:∃ W,W1.drew=W:=⟨_,rfl⟩
  have HB0:Aside0 (Below w.heap.size w wt):=⟨by rw [← hwt];exact below_drew HB1.out⟩
  have HK0:Aside0 (wt.heap[gb]?=some (Obj.cells #[.int .i64 a,.int .u64 a] 35)):=⟨by rw [← hwt];exact HK1.out⟩
  rw [hwt] at hHeld ⊢
  clear hwt
  refine puR 0 30 (fbB 12 1) (h:=?_)
  refine puR 1 31 (fbB 12 3) (h:=?_)
  refine puR 5 35 (fbB 12 35) (h:=?_)
  refine puR 6 36 (fbB 12 99) (h:=?_)
  refine tkR 2 32 (fbB 12 103) hHeld (h:=?_)
  refine tkR 7 37 (fbB 12 231) hHeld (h:=?_)
  refine two_ (i:=3) (j:=8) (Ni:=some 33) (Nj:=some 38) (fbB 12 239) (fbB 12 487) rfl rfl rfl rfl (by kernel_rfl) (by simp) (by simp) (fun K hK=>?_) (fun K hK=>?_)
  refine Kd.R_lit_step (Kd.int .i64) (w0:=wt) (wt).heap.size 2 ?hg (N:=33) ?hd (xs:=([a]:List Int)) (inner:=[.int .i64 a]) (ok:=fun _=>True) (okp:=fun _=>True) ?hr ?hp (fun _ hk=>hk) trivial (Below.refl _ _) (Nat.le_refl _) (by simp) ?_;(case hd=>rfl);(case hg=>rfl);(case hr=>first | (go_simp;done) | (go_simp;rfl));(case hp=>exact (Reps.one (show Kd.M (Kd.int .i64) _ _ _ a [.int .i64 a] from rfl) (Reps.none _ _)))
  intro vL33 w1 ho hb hg hat
  have HB1:=Aside0.mk (below_step HB0.out hb)
  have HK1:=Aside0.mk (blkb hb HK0.out)
  have HL331:=Aside0.mk ho
  clear ho hb hg hat
  refine hK.out _ _ (sm_cells HK1.out) (fun hHeld=>?_)
  clear hK K
  refine nmR (h:=?_)
  refine two_ (i:=4) (j:=8) (Ni:=some 34) (Nj:=some 38) (fbB 12 255) (fbB 12 495) rfl rfl rfl rfl (by kernel_rfl) (by simp) (by simp) (fun K hK=>?_) (fun K hK=>?_)
  obtain ⟨A2,c2,e2⟩:=Kd.R_slice HL331.out
  subst e2
  refine Kd.R_append_rows_step (Kd.int .i64) (w0:=w1) (w1).heap.size (by rfl) (.tmp 30) (.tmp 33) 202 2 (.int .i64 0) 8 rfl Tryz.underlying202 info2 rfl (by decide) (by decide) (.slice none 0 0) [] [a] A2 1 c2 (fun _=>True) (fun _=>False) rfl rfl (Kd.R_nil _ _ _ _ _) (Kd.R_reads' HL331.out).2.2 (fun _ _ h=>h) (fun _ h=>h.elim) (fun _ _=>trivial) (Below.refl _ _) (Nat.le_refl _) (by decide) ?_
  intro vV34 w2 ho hb hg hat
  have HB2:=Aside0.mk (below_step HB1.out hb)
  have HK2:=Aside0.mk (blkb hb HK1.out)
  have HL332:=Aside0.mk (Kd.R_below HL331.out hb)
  have HV342:=Aside0.mk ho
  clear ho hb hg hat
  refine hK.out _ _ (sm_cells HK2.out) (fun hHeld=>?_)
  clear hK K
  refine nmR (h:=?_)
  refine one_ (i:=8) (N:=some 38) (fbB 12 511) rfl rfl (by kernel_rfl) (by simp) (fun K hK=>?_)
  refine Kd.R_lit_step (Kd.int .u64) (w0:=w2) (w2).heap.size 30 ?hg (N:=38) ?hd (xs:=([a]:List Int)) (inner:=[.int .u64 a]) (ok:=fun _=>True) (okp:=fun _=>True) ?hr ?hp (fun _ hk=>hk) trivial (Below.refl _ _) (Nat.le_refl _) (by simp) ?_;(case hd=>rfl);(case hg=>rfl);(case hr=>first | (go_simp;done) | (go_simp;rfl));(case hp=>exact (Reps.one (show Kd.M (Kd.int .u64) _ _ _ a [.int .u64 a] from rfl) (Reps.none _ _)))
  intro vL38 w3 ho hb hg hat
  have HB3:=Aside0.mk (below_step HB2.out hb)
  have HK3:=Aside0.mk (blkb hb HK2.out)
  have HL333:=Aside0.mk (Kd.R_below HL332.out hb)
  have HV343:=Aside0.mk (Kd.R_below HV342.out hb)
  have HL383:=Aside0.mk ho
  clear ho hb hg hat
  refine hK.out _ _ (sm_cells HK3.out) (fun hHeld=>?_)
  clear hK K
  refine nmR (h:=?_)
  refine one_ (i:=9) (N:=some 39) (fbB 12 1023) rfl rfl (by kernel_rfl) (by simp) (fun K hK=>?_)
  obtain ⟨A4,c4,e4⟩:=Kd.R_slice HL383.out
  subst e4
  refine Kd.R_append_rows_step (Kd.int .u64) (w0:=w3) (w3).heap.size (by rfl) (.tmp 35) (.tmp 38) 203 30 (.int .u64 0) 8 rfl Tryz.underlying203 info30 rfl (by decide) (by decide) (.slice none 0 0) [] [a] A4 1 c4 (fun _=>True) (fun _=>False) rfl rfl (Kd.R_nil _ _ _ _ _) (Kd.R_reads' HL383.out).2.2 (fun _ _ h=>h) (fun _ h=>h.elim) (fun _ _=>trivial) (Below.refl _ _) (Nat.le_refl _) (by decide) ?_
  intro vV39 w4 ho hb hg hat
  have HB4:=Aside0.mk (below_step HB3.out hb)
  have HK4:=Aside0.mk (blkb hb HK3.out)
  have HL334:=Aside0.mk (Kd.R_below HL333.out hb)
  have HV344:=Aside0.mk (Kd.R_below HV343.out hb)
  have HL384:=Aside0.mk (Kd.R_below HL383.out hb)
  have HV394:=Aside0.mk ho
  clear ho hb hg hat
  refine hK.out _ _ (sm_cells HK4.out) (fun hHeld=>?_)
  clear hK K
  refine nmR (h:=?_)
  refine puR 10 7 (fbB 12 2047) (h:=?_)
  refine puR 11 8 (fbB 12 4095) (h:=?_)
  have hL:EnR w a w4 vV34 vV39:=⟨Kd.R_lower HV344.out HB1.out.size,Kd.R_lower HV394.out HB3.out.size,HB4.out⟩
  replace hkey:=hkey w4 A2 c2 vV34 A4 c4 vV39 hL
  refine done_ (by kernel_rfl) ?_
  rotate_left
  refine Kd.R_lit_step (Kd.int .u64) (w0:=w1) (w1).heap.size 30 ?hg (N:=38) ?hd (xs:=([a]:List Int)) (inner:=[.int .u64 a]) (ok:=fun _=>True) (okp:=fun _=>True) ?hr ?hp (fun _ hk=>hk) trivial (Below.refl _ _) (Nat.le_refl _) (by simp) ?_;(case hd=>rfl);(case hg=>rfl);(case hr=>first | (go_simp;done) | (go_simp;rfl));(case hp=>exact (Reps.one (show Kd.M (Kd.int .u64) _ _ _ a [.int .u64 a] from rfl) (Reps.none _ _)))
  intro vL38 w2 ho hb hg hat
  have HB2:=Aside0.mk (below_step HB1.out hb)
  have HK2:=Aside0.mk (blkb hb HK1.out)
  have HL332:=Aside0.mk (Kd.R_below HL331.out hb)
  have HL382:=Aside0.mk ho
  clear ho hb hg hat
  refine hK.out _ _ (sm_cells HK2.out) (fun hHeld=>?_)
  clear hK K
  refine nmR (h:=?_)
  refine one_ (i:=4) (N:=some 34) (fbB 12 511) rfl rfl (by kernel_rfl) (by simp) (fun K hK=>?_)
  obtain ⟨A3,c3,e3⟩:=Kd.R_slice HL332.out
  subst e3
  refine Kd.R_append_rows_step (Kd.int .i64) (w0:=w2) (w2).heap.size (by rfl) (.tmp 30) (.tmp 33) 202 2 (.int .i64 0) 8 rfl Tryz.underlying202 info2 rfl (by decide) (by decide) (.slice none 0 0) [] [a] A3 1 c3 (fun _=>True) (fun _=>False) rfl rfl (Kd.R_nil _ _ _ _ _) (Kd.R_reads' HL332.out).2.2 (fun _ _ h=>h) (fun _ h=>h.elim) (fun _ _=>trivial) (Below.refl _ _) (Nat.le_refl _) (by decide) ?_
  intro vV34 w3 ho hb hg hat
  have HB3:=Aside0.mk (below_step HB2.out hb)
  have HK3:=Aside0.mk (blkb hb HK2.out)
  have HL333:=Aside0.mk (Kd.R_below HL332.out hb)
  have HL383:=Aside0.mk (Kd.R_below HL382.out hb)
  have HV343:=Aside0.mk ho
  clear ho hb hg hat
  refine hK.out _ _ (sm_cells HK3.out) (fun hHeld=>?_)
  clear hK K
  refine nmR (h:=?_)
  refine one_ (i:=9) (N:=some 39) (fbB 12 1023) rfl rfl (by kernel_rfl) (by simp) (fun K hK=>?_)
  obtain ⟨A4,c4,e4⟩:=Kd.R_slice HL383.out
  subst e4
  refine Kd.R_append_rows_step (Kd.int .u64) (w0:=w3) (w3).heap.size (by rfl) (.tmp 35) (.tmp 38) 203 30 (.int .u64 0) 8 rfl Tryz.underlying203 info30 rfl (by decide) (by decide) (.slice none 0 0) [] [a] A4 1 c4 (fun _=>True) (fun _=>False) rfl rfl (Kd.R_nil _ _ _ _ _) (Kd.R_reads' HL383.out).2.2 (fun _ _ h=>h) (fun _ h=>h.elim) (fun _ _=>trivial) (Below.refl _ _) (Nat.le_refl _) (by decide) ?_
  intro vV39 w4 ho hb hg hat
  have HB4:=Aside0.mk (below_step HB3.out hb)
  have HK4:=Aside0.mk (blkb hb HK3.out)
  have HL334:=Aside0.mk (Kd.R_below HL333.out hb)
  have HL384:=Aside0.mk (Kd.R_below HL383.out hb)
  have HV344:=Aside0.mk (Kd.R_below HV343.out hb)
  have HV394:=Aside0.mk ho
  clear ho hb hg hat
  refine hK.out _ _ (sm_cells HK4.out) (fun hHeld=>?_)
  clear hK K
  refine nmR (h:=?_)
  refine puR 10 7 (fbB 12 2047) (h:=?_)
  refine puR 11 8 (fbB 12 4095) (h:=?_)
  have hL:EnR w a w4 vV34 vV39:=⟨Kd.R_lower HV344.out HB2.out.size,Kd.R_lower HV394.out HB3.out.size,HB4.out⟩
  replace hkey:=hkey w4 A3 c3 vV34 A4 c4 vV39 hL
  refine done_ (by kernel_rfl) ?_
  rotate_left
  refine Kd.R_lit_step (Kd.int .u64) (w0:=wt) (wt).heap.size 30 ?hg (N:=38) ?hd (xs:=([a]:List Int)) (inner:=[.int .u64 a]) (ok:=fun _=>True) (okp:=fun _=>True) ?hr ?hp (fun _ hk=>hk) trivial (Below.refl _ _) (Nat.le_refl _) (by simp) ?_;(case hd=>rfl);(case hg=>rfl);(case hr=>first | (go_simp;done) | (go_simp;rfl));(case hp=>exact (Reps.one (show Kd.M (Kd.int .u64) _ _ _ a [.int .u64 a] from rfl) (Reps.none _ _)))
  intro vL38 w1 ho hb hg hat
  have HB1:=Aside0.mk (below_step HB0.out hb)
  have HK1:=Aside0.mk (blkb hb HK0.out)
  have HL381:=Aside0.mk ho
  clear ho hb hg hat
  refine hK.out _ _ (sm_cells HK1.out) (fun hHeld=>?_)
  clear hK K
  refine nmR (h:=?_)
  refine one_ (i:=3) (N:=some 33) (fbB 12 495) rfl rfl (by kernel_rfl) (by simp) (fun K hK=>?_)
  refine Kd.R_lit_step (Kd.int .i64) (w0:=w1) (w1).heap.size 2 ?hg (N:=33) ?hd (xs:=([a]:List Int)) (inner:=[.int .i64 a]) (ok:=fun _=>True) (okp:=fun _=>True) ?hr ?hp (fun _ hk=>hk) trivial (Below.refl _ _) (Nat.le_refl _) (by simp) ?_;(case hd=>rfl);(case hg=>rfl);(case hr=>first | (go_simp;done) | (go_simp;rfl));(case hp=>exact (Reps.one (show Kd.M (Kd.int .i64) _ _ _ a [.int .i64 a] from rfl) (Reps.none _ _)))
  intro vL33 w2 ho hb hg hat
  have HB2:=Aside0.mk (below_step HB1.out hb)
  have HK2:=Aside0.mk (blkb hb HK1.out)
  have HL382:=Aside0.mk (Kd.R_below HL381.out hb)
  have HL332:=Aside0.mk ho
  clear ho hb hg hat
  refine hK.out _ _ (sm_cells HK2.out) (fun hHeld=>?_)
  clear hK K
  refine nmR (h:=?_)
  refine one_ (i:=4) (N:=some 34) (fbB 12 511) rfl rfl (by kernel_rfl) (by simp) (fun K hK=>?_)
  obtain ⟨A3,c3,e3⟩:=Kd.R_slice HL332.out
  subst e3
  refine Kd.R_append_rows_step (Kd.int .i64) (w0:=w2) (w2).heap.size (by rfl) (.tmp 30) (.tmp 33) 202 2 (.int .i64 0) 8 rfl Tryz.underlying202 info2 rfl (by decide) (by decide) (.slice none 0 0) [] [a] A3 1 c3 (fun _=>True) (fun _=>False) rfl rfl (Kd.R_nil _ _ _ _ _) (Kd.R_reads' HL332.out).2.2 (fun _ _ h=>h) (fun _ h=>h.elim) (fun _ _=>trivial) (Below.refl _ _) (Nat.le_refl _) (by decide) ?_
  intro vV34 w3 ho hb hg hat
  have HB3:=Aside0.mk (below_step HB2.out hb)
  have HK3:=Aside0.mk (blkb hb HK2.out)
  have HL383:=Aside0.mk (Kd.R_below HL382.out hb)
  have HL333:=Aside0.mk (Kd.R_below HL332.out hb)
  have HV343:=Aside0.mk ho
  clear ho hb hg hat
  refine hK.out _ _ (sm_cells HK3.out) (fun hHeld=>?_)
  clear hK K
  refine nmR (h:=?_)
  refine one_ (i:=9) (N:=some 39) (fbB 12 1023) rfl rfl (by kernel_rfl) (by simp) (fun K hK=>?_)
  obtain ⟨A4,c4,e4⟩:=Kd.R_slice HL383.out
  subst e4
  refine Kd.R_append_rows_step (Kd.int .u64) (w0:=w3) (w3).heap.size (by rfl) (.tmp 35) (.tmp 38) 203 30 (.int .u64 0) 8 rfl Tryz.underlying203 info30 rfl (by decide) (by decide) (.slice none 0 0) [] [a] A4 1 c4 (fun _=>True) (fun _=>False) rfl rfl (Kd.R_nil _ _ _ _ _) (Kd.R_reads' HL383.out).2.2 (fun _ _ h=>h) (fun _ h=>h.elim) (fun _ _=>trivial) (Below.refl _ _) (Nat.le_refl _) (by decide) ?_
  intro vV39 w4 ho hb hg hat
  have HB4:=Aside0.mk (below_step HB3.out hb)
  have HK4:=Aside0.mk (blkb hb HK3.out)
  have HL384:=Aside0.mk (Kd.R_below HL383.out hb)
  have HL334:=Aside0.mk (Kd.R_below HL333.out hb)
  have HV344:=Aside0.mk (Kd.R_below HV343.out hb)
  have HV394:=Aside0.mk ho
  clear ho hb hg hat
  refine hK.out _ _ (sm_cells HK4.out) (fun hHeld=>?_)
  clear hK K
  refine nmR (h:=?_)
  refine puR 10 7 (fbB 12 2047) (h:=?_)
  refine puR 11 8 (fbB 12 4095) (h:=?_)
  have hL:EnR w a w4 vV34 vV39:=⟨Kd.R_lower HV344.out HB2.out.size,Kd.R_lower HV394.out HB3.out.size,HB4.out⟩
  replace hkey:=hkey w4 A3 c3 vV34 A4 c4 vV39 hL
  refine done_ (by kernel_rfl) ?_
  rotate_left
  all_goals
   clear hHeld
   exact hkey
 ·rintro W2 A33 c33 v34 A38 c38 v39 hL
  obtain ⟨A4,c4,rfl⟩:=Kd.R_slice hL.r
  obtain ⟨A9,c9,rfl⟩:=Kd.R_slice hL.s
  have HTC:=Aside0.mk (HT.out W2 A4 c4 (Kd.R_reads' hL.r).2.2 (Kd.R_reads' hL.r).2.1)
  have HL:=Aside0.mk hL
  clear hL
  go_wp2
  rw [rounds_succ]
  go_wp2_with (go_at_call 109;(with_reducible refine HTC.out.mono ?_);rintro r w3 ⟨v3,rfl,ho,hb⟩;refine hold ?_)
  unfold Hold
  obtain ⟨A3,c3,rfl⟩:=Kd.R_slice ho
  obtain ⟨n,hn⟩:∃ n,TB.length=n:=⟨_,rfl⟩
  have HN:=Aside0.mk hn
  rw [hn] at ho ⊢
  have HO3:=Aside0.mk ho
  have HB3:=Aside0.mk (below_step HL.out.b hb)
  have HS9:=Aside0.mk (Kd.R_below HL.out.s hb)
  obtain ⟨g3,hg3⟩:∃ q,w3.heap.size=q:=⟨_,rfl⟩
  have e4:IntKind.u8.wrap 0=0:=by decide
  have e5:IntKind.u8.wrap 1=1:=by decide
  clear ho hb hn
  go_wp2_with ((with_reducible refine gate_builtin (b:=.append) (xs:=#[.tmp 60,.tmp 61]) rfl ?_);at_builtin;refine hold ?_)
  unfold Hold
  have HC3:=Aside0.mk (Kd.C_below (Kd.R_reads' HO3.out).2.2 (below_alloc (Below.refl w3.heap.size w3) (.cells #[.int .u8 cz,.int .u8 0,.int .u8 1] 5)))
  refine Kd.R_append_rows (Kd.int .u8) (w0:=w3) w3.heap.size rfl (.tmp 60) (.tmp 61) 46 5 (.int .u8 0) 1 rfl Tryz.underlying46 info_u8 rfl (by decide) (by decide) (.slice (some ⟨g3,0,none⟩) 3 3) [cz,0,1] TB A3 n c3 (fun _=>True) (fun _=>False) rfl rfl (lit3_R w3.heap.size g3 hg3 cz 0 1 (Nat.le_refl _)) (by have:=HC3.out;rw [HN.out] at this;exact this) (fun _ _ h=>h) (fun _ h=>h.elim) (fun _ _=>trivial) (below_alloc (Below.refl _ _) _) (by simp) (by have:=HTL.out;have:=HN.out;simp;omega) ?_
  intro v5 w5 ho hb hg hat
  obtain ⟨L5,hL5⟩:∃ l,[cz,0,1]++TB=l:=⟨_,rfl⟩
  rw [hL5] at ho
  obtain ⟨A5,c5,rfl⟩:=Kd.R_slice ho
  obtain ⟨n5,hn5⟩:∃ n,L5.length=n:=⟨_,rfl⟩
  have HN5:Aside0 (L5.length=n5∧n5≤20∧[cz,0,1]++TB=L5):=⟨hn5,by rw [← hn5,← hL5];have:=HTL.out;simp;omega,hL5⟩
  rw [hn5] at ho ⊢
  have HO5:=Aside0.mk ho
  have HB5:=Aside0.mk (below_step HB3.out hb)
  have hs9:=Kd.R_below HS9.out hb
  have HVC:=Aside0.mk (HV.out w5 A9 c9 (Kd.R_reads' hs9).2.2 (Kd.R_reads' hs9).2.1)
  clear ho hb hg hat hs9 hn5 hL5 hg3
  go_wp2_with (go_at_call 110;(with_reducible refine HVC.out.mono ?_);rintro r w6 ⟨v6,rfl,ho,hb⟩;refine hold ?_)
  unfold Hold
  obtain ⟨A6,c6,rfl⟩:=Kd.R_slice ho
  obtain ⟨m,hm⟩:∃ n,VB.length=n:=⟨_,rfl⟩
  have HM:=Aside0.mk hm
  rw [hm] at ho ⊢
  have HO6:=Aside0.mk ho
  have HB6:=Aside0.mk (below_step HB5.out hb)
  have HO56:=Aside0.mk (Kd.R_below HO5.out hb)
  have HSZ:=Aside0.mk hb.size
  clear ho hb hm
  go_wp2_with ((with_reducible refine gate_builtin (b:=.append) (xs:=#[.tmp 63,.tmp 67]) rfl ?_);at_builtin;refine hold ?_)
  unfold Hold
  have hB3:w.heap.size≤w3.heap.size:=HB3.out.size
  refine Kd.R_append_rows (Kd.int .u8) (w0:=w) w.heap.size rfl (.tmp 63) (.tmp 67) 46 5 (.int .u8 0) 1 rfl Tryz.underlying46 info_u8 rfl (by decide) (by decide) (.slice A5 n5 c5) L5 VB A6 m c6 (fun _=>True) (fun _=>False) rfl rfl (Kd.R_lower HO56.out hB3) (by have:=(Kd.R_reads' HO6.out).2.2;rw [HM.out] at this;exact this) (fun _ _ h=>h) (fun _ h=>h.elim) (fun _ _=>trivial) HB6.out HB6.out.size (by have:=HN5.out;have:=HVL.out;have:=HM.out;omega) ?_
  intro v7 w7 ho hb hg hat
  have HO7:=Aside0.mk ho
  have HB7:=Aside0.mk hb
  clear ho hb hg hat
  go_wp2
  go_ret2
  refine ⟨v7,rfl,?_,HB7.out⟩
  rw [← HE.out,HN5.out.2.2]
  exact HO7.out
end Go.Proofs.YtnhkikebfinejaaGreatDoor.Z
namespace Go.Proofs.YtnhkikebfinejaaGreatDoor.X
open Go.RowKit Go.Proofs.YtnhkikebfinejaaGreatDoorW.PrintWords Go.Proofs.YtnhkikebfinejaaGreatDoorW.PrintLast Go.Proofs.YtnhkikebfinejaaGreatDoorW.PrintMore
attribute [local go_sem] max2_int min2_int max_two min_two max_three min_three max_four min_four
def varint_Zag.f (a0:Int):Option (Int):=some (Go.bits .xor .i64 (wrap64 (a0 / 2)) (wrap64 (-(wrap64 (Go.bits .and .u64 a0 1)))))
theorem varint_Zag.calls (a0:Int) (r:Int) (w:World) (h:varint_Zag.f a0=some r) :
  Calls Tryz.prog 248 #[.int .u64 a0] w fun e w'=>e = .returned (.int .i64 r)∧Drawn0 w w':=by
 have H:(some (Go.bits .xor .i64 (wrap64 (a0 / 2)) (wrap64 (-(wrap64 (Go.bits .and .u64 a0 1))))))=some r:=h
 clear h
 obtain rfl:=Option.some.inj H
 go_enter Tryz.func248,Tryz.ntmps248
 go_wp2
 go_ret
 exact ⟨by first | rfl | (simp;done) | (simp [*];done),by repeat (first | exact Drawn0.refl _ | apply Drawn0.step)⟩
end Go.Proofs.YtnhkikebfinejaaGreatDoor.X
namespace Go.Proofs.YtnhkikebfinejaaGreatDoor.Z
open Go Go.RowKit Go.Proofs.YtnhkikebfinejaaGreatDoorW.PrintWords Go.Proofs.YtnhkikebfinejaaGreatDoorW.PrintLast Go.Proofs.YtnhkikebfinejaaGreatDoorW.PrintMore Go.Proofs.YtnhkikebfinejaaGreatDoor.S Go.Proofs.YtnhkikebfinejaaGreatDoor.X
attribute [local go_sem ↓] Go.wp_at_zero Go.wp_at_succ
theorem c_at {W:World} {A:Option Addr} {k:IntKind} {bs:List Int} {n:Nat} (h:Kd.C (Kd.int k) W A n bs) (hn:bs.length=n) (h0:0<n):∃ ad:Addr,A=some ad ∧ ∀ i x,bs[i]?=some x→W.cell? (ad.add i)=some (.int k x):=by
 obtain ⟨ad,e,-⟩:=Kd.at_int (hn▸h) 0 (by omega) (by omega)
 refine ⟨ad,e,fun i x hx=>?_⟩
 have hi:i<bs.length:=(List.getElem?_eq_some_iff.1 hx).1
 obtain ⟨ad2,e2,h2⟩:=Kd.at_int (hn▸h) (i:Int) (by omega) (by omega)
 rw [e] at e2
 injection e2 with e2
 rw [← e2,Int.toNat_natCast,rd_get hi] at h2
 rw [h2]
 congr 2
 exact (List.getElem?_eq_some_iff.1 hx).2
theorem c_first {W:World} {ad:Addr} {v:Value} (h:W.cell? (ad.add 0)=some v):W.cell? ad=some v:=by
 cases ad
 simpa [Addr.add] using h
theorem andn {n:Int} (h0:0≤n) (h1:n<128):Go.bits .andNot .u8 n 128=n∧Go.bits .and .u8 n 128=0∧Go.bits .or .u64 0 n=n:=by
 have key:∀ n:Fin 128,Go.bits .andNot .u8 (n.val:Int) 128=(n.val:Int)∧Go.bits .and .u8 (n.val:Int) 128=0∧Go.bits .or .u64 0 (n.val:Int)=(n.val:Int):=by decide +kernel
 have:=key ⟨n.toNat,by omega⟩
 simp only at this
 rwa [show ((n.toNat:Nat):Int)=n by omega] at this
theorem andm {n:Int} (h0:128≤n) (h1:n<256):Go.bits .andNot .u8 n 128=n-128∧Go.bits .and .u8 n 128=128∧Go.bits .or .u64 0 (n-128)=n-128∧Go.bits .or .u64 (n-128) 128=n:=by
 have key:∀ n:Fin 128,Go.bits .andNot .u8 ((n.val:Int)+128) 128=(n.val:Int)∧Go.bits .and .u8 ((n.val:Int)+128) 128=128∧Go.bits .or .u64 0 (n.val:Int)=(n.val:Int)∧Go.bits .or .u64 (n.val:Int) 128=(n.val:Int)+128:=by decide +kernel
 have:=key ⟨(n-128).toNat,by omega⟩
 simp only at this
 rw [show (((n-128).toNat:Nat):Int)=n-128 by omega,show n-128+128=n by omega] at this
 exact this
theorem vget_calls {w:World} {A:Option Addr} {m c:Nat} {rest:List Int} (n:Int) (h0:0≤n) (h1:n<256) (hr:Kd.C (Kd.int .u8) w A m (vint n++rest)) (hm:(vint n++rest).length=m) (hm2:m≤1000) :
  Calls Tryz.prog 247 #[.slice A m c] w fun r w'=>r = .returned (.tuple #[.int .u64 n,.int .i64 ((vint n).length:Int),.int .i64 0])∧w=w':=by
 obtain ⟨ad,rfl,hx⟩:=c_at hr hm (by rw [← hm];unfold vint;split<;>simp)
 by_cases hn:n<128
 ·have hl:vint n=[n]:=by unfold vint;rw [if_pos hn]
  rw [hl] at hx hm ⊢
  have hx0:=c_first (hx 0 n rfl)
  obtain ⟨e1,e2,e3⟩:=andn h0 hn
  have d1:(0<(m:Int))=True:=eq_true (by rw [← hm];simp)
  have d5:decide (0<m)=true:=decide_eq_true (by rw [← hm];simp)
  have e4:IntKind.u64.wrap n=n:=u64_w h0 (by omega)
  clear hr hm hx hl hm2 h0 h1 hn
  go_enter Tryz.func247,Tryz.ntmps247
  go_wp2
  refine wp_loop_rounds 1 ?_
  rw [rounds_succ]
  go_wp2
  all_goals first
   | (exfalso;simp_all;done)
   | (go_ret3;refine ⟨?_,rfl⟩;first | rfl | simp_all)
 ·have hl:vint n=[n,1]:=by unfold vint;rw [if_neg hn]
  rw [hl] at hx hm ⊢
  have hx0:=c_first (hx 0 n rfl)
  have hx1:w.cell? ⟨ad.block,ad.off+1,none⟩=some (.int .u8 1):=by simpa [Addr.add] using hx 1 1 rfl
  obtain ⟨e1,e2,e3,e5⟩:=andm (n:=n) (by omega) h1
  have d1:(1<(m:Int))=True:=eq_true (by rw [← hm];simp;omega)
  have d3:(0<(m:Int))=True:=eq_true (by rw [← hm];simp;omega)
  have d5:decide (0<m)=true:=decide_eq_true (by rw [← hm];simp)
  have d4:decide (1<(m:Int))=true:=decide_eq_true (by rw [← hm];simp;omega)
  have e4:IntKind.u64.wrap (n-128)=n-128:=u64_w (by omega) (by omega)
  have e6:Go.bits .andNot .u8 1 128=1:=by decide
  have e7:Go.bits .and .u8 1 128=0:=by decide
  have e8:decide (1<n)=true:=decide_eq_true (by omega)
  have e9:(n == 0)=false:=beq_eq_false_iff_ne.2 (by omega)
  clear hr hm hx hl hm2 h0 h1 hn
  go_enter Tryz.func247,Tryz.ntmps247
  go_wp2
  refine wp_loop_rounds 2 ?_
  rw [rounds_succ]
  go_wp2
  rw [rounds_succ]
  go_wp2
  all_goals first
   | (exfalso;simp_all;done)
   | (go_ret3;exact ⟨rfl,rfl⟩)
theorem zag_calls {w:World} (a:Int) (h0:0≤a) (h1:a<128):Calls Tryz.prog 248 #[.int .u64 (2*a)] w fun r w'=>r = .returned (.int .i64 a)∧Below w.heap.size w w':=by
 have key:∀ n:Fin 128,varint_Zag.f (2*(n.val:Int))=some (n.val:Int):=by decide +kernel
 have:=key ⟨a.toNat,by omega⟩
 simp only at this
 rw [show ((a.toNat:Nat):Int)=a by omega] at this
 exact (varint_Zag.calls (2*a) a w this).mono (fun e w' h=>⟨h.1,Drawn0.below h.2⟩)
theorem low8 {a:Int} (h0:0≤a) (h1:a<128):low a 8=[0,0,0,0,0,0,0,a]:=by
 have key:∀ n:Fin 128,low (n.val:Int) 8=[0,0,0,0,0,0,0,(n.val:Int)]:=by decide +kernel
 have:=key ⟨a.toNat,by omega⟩
 simp only at this
 rwa [show ((a.toNat:Nat):Int)=a by omega] at this
theorem packB8 {a:Int} (h0:0≤a) (h1:a<128):B.packB (B.bitsN 64 a)=[0,0,0,0,0,0,0,a]:=by
 have key:∀ n:Fin 128,B.packB (B.bitsN 64 (n.val:Int))=[0,0,0,0,0,0,0,(n.val:Int)]:=by decide +kernel
 have:=key ⟨a.toNat,by omega⟩
 simp only at this
 rwa [show ((a.toNat:Nat):Int)=a by omega] at this
theorem packB9 {a:Int} (h0:0≤a) (h1:a<128):B.packB (B.bitsN 64 a++B.bitsN 8 0)=[0,0,0,0,0,0,0,a,0]:=by
 have key:∀ n:Fin 128,B.packB (B.bitsN 64 (n.val:Int)++B.bitsN 8 0)=[0,0,0,0,0,0,0,(n.val:Int),0]:=by decide +kernel
 have:=key ⟨a.toNat,by omega⟩
 simp only at this
 rwa [show ((a.toNat:Nat):Int)=a by omega] at this
end Go.Proofs.YtnhkikebfinejaaGreatDoor.Z
