/- Texts of this claim, laid together (wip/merge.py): XRicklaw04Bitsplaces, PureBitsPlaces. No conditions. -/
import Derived.Test.YtmlbppfcpejlpaaMBitsPlaces1
import Derived.Deep.RegionHeld3
import Derived.Deep.DrawnRows
-- Printed by this session's own program (wip/xprint.py) over the translation; its external functions are hand-written. Lean checks it.
namespace Go.Proofs.Ytmlbppfcpejlpaa.X
open Go.RowKit Go.Proofs.YtmlbppfcpejlpaaW.PrintWords Go.Proofs.YtmlbppfcpejlpaaW.PrintLast Go.Proofs.YtmlbppfcpejlpaaW.PrintMore
attribute [local go_sem] max2_int min2_int max_two min_two max_three min_three max_four min_four   -- for this text's walks alone
set_option linter.unusedVariables false
set_option linter.unusedSimpArgs false

/-! ### ricklaw04_BitsPlaces: function 9 -/
open Go.Proofs.Ytmlbppfcpejlpaa.S Go.Proofs.Ytmlbppfcpejlpaa.B Go.Proofs.Ytmlbppfcpejlpaa.W04 Go.Proofs.Ytmlbppfcpejlpaa.Q04 Go.Proofs.Ytmlbppfcpejlpaa.Q06
attribute [local go_sem ↓] Go.wp_at_zero Go.wp_at_succ
def ricklaw04_BitsPlaces.f (a0 : Int) (a1 : Int) : Option (Bool) := some true
/-- The bits that are put. -/
def ricklaw04_BitsPlaces.row (A : Nat) (b : Int) : List Int := List.replicate A 0 ++ bitsN (cl 1) 1 ++ bitsN (cl b) 0
def ricklaw04_BitsPlaces.Rel1 (w : World) (g : Nat) (i : Nat) (wr : World) : Prop := ∃ v', WAt w wr g v' (List.replicate i 0) ∧ Below w.heap.size w wr
def ricklaw04_BitsPlaces.Rel2 (w4 : World) (B g : Nat) (v : Value) (L : List Int) (i : Nat) (wr : World) : Prop :=
  IsS81 w4 wr g (packB L) (i : Int) false ∧ Below w4.heap.size w4 wr ∧ Kd.R (Kd.int .u8) 5 wr B (fun _ => True) v (packB L)
theorem ricklaw04_BitsPlaces.put0 (i : Nat) : List.replicate i (0 : Int) ++ bitsN (cl 1) 0 = List.replicate (i + 1) 0 := by
  rw [List.replicate_succ']; rfl
theorem ricklaw04_BitsPlaces.row_bits (A : Nat) (b : Int) : Bits (ricklaw04_BitsPlaces.row A b) :=
  (Bits.append (fun x hx => .inl (List.eq_of_mem_replicate hx)) (bitsN_bits _ _)).append (bitsN_bits _ _)
theorem ricklaw04_BitsPlaces.starts (A : Nat) (b : Int) : Starts (packB (ricklaw04_BitsPlaces.row A b)) 0 (ricklaw04_BitsPlaces.row A b) := by
  have := Starts.of (ricklaw04_BitsPlaces.row_bits A b) []
  rwa [List.append_nil] at this
theorem ricklaw04_BitsPlaces.small (A : Nat) (b : Int) (hA : A < 300) : (packB (ricklaw04_BitsPlaces.row A b)).length = (A + 1 + cl b + 7) / 8 ∧ (packB (ricklaw04_BitsPlaces.row A b)).length < 1000 := by
  have h : (packB (ricklaw04_BitsPlaces.row A b)).length = (A + 1 + cl b + 7) / 8 := by
    rw [packB_len]; unfold ricklaw04_BitsPlaces.row
    rw [List.length_append, List.length_append, List.length_replicate, bitsN_len, bitsN_len, show cl 1 = 1 by decide]
  have := cl_le b
  exact ⟨h, by omega⟩
theorem ricklaw04_BitsPlaces.take0 (A : Nat) (b : Int) (hA : A < 300) (i : Nat) (hi : i < A) : bits_Reader_Take.f 65 (packB (ricklaw04_BitsPlaces.row A b)) (i : Int) false 1 = some (0, ((i + 1 : Nat) : Int), false) := by
  have hs := ricklaw04_BitsPlaces.starts A b
  have hb := packB_bs (ricklaw04_BitsPlaces.row_bits A b)
  have hl := (ricklaw04_BitsPlaces.small A b hA).2
  generalize packB (ricklaw04_BitsPlaces.row A b) = p at *
  unfold ricklaw04_BitsPlaces.row at hs
  rw [show List.replicate A (0 : Int) = List.replicate i 0 ++ (bitsN 1 0 ++ List.replicate (A - i - 1) 0) by
    rw [show bitsN 1 0 = List.replicate 1 (0 : Int) by decide, List.replicate_append_replicate, List.replicate_append_replicate, show i + (1 + (A - i - 1)) = A by omega], List.append_assoc, List.append_assoc, List.append_assoc] at hs
  have h1 := hs.next
  rw [List.length_replicate, Nat.zero_add] at h1
  exact (h1.take hb (by omega) (by decide) (m := 1) rfl (by decide) 65 (by decide)).1
theorem ricklaw04_BitsPlaces.take1 (A : Nat) (b : Int) (hA : A < 300) : bits_Reader_Take.f 65 (packB (ricklaw04_BitsPlaces.row A b)) (A : Int) false 1 = some (1, ((A + 1 : Nat) : Int), false) ∧ Starts (packB (ricklaw04_BitsPlaces.row A b)) (A + 1) (bitsN (cl b) 0) := by
  have hs := ricklaw04_BitsPlaces.starts A b
  have hb := packB_bs (ricklaw04_BitsPlaces.row_bits A b)
  have hl := (ricklaw04_BitsPlaces.small A b hA).2
  generalize packB (ricklaw04_BitsPlaces.row A b) = p at *
  unfold ricklaw04_BitsPlaces.row at hs
  rw [List.append_assoc, show cl 1 = 1 by decide] at hs
  have h1 := hs.next
  rw [List.length_replicate, Nat.zero_add] at h1
  exact h1.take hb (by omega) (by decide) (m := 1) rfl (by decide) 65 (by decide)
theorem ricklaw04_BitsPlaces.take2 (A : Nat) (b nv : Int) (hA : A < 300) (hn : ((cl b : Nat) : Int) = nv) : ∃ e : Int, bits_Reader_Take.f 65 (packB (ricklaw04_BitsPlaces.row A b)) ((A + 1 : Nat) : Int) false nv = some (0, e, false) := by
  have hs := (ricklaw04_BitsPlaces.take1 A b hA).2
  have hb := packB_bs (ricklaw04_BitsPlaces.row_bits A b)
  have hl := (ricklaw04_BitsPlaces.small A b hA).2
  generalize packB (ricklaw04_BitsPlaces.row A b) = p at *
  rw [← List.append_nil (bitsN (cl b) 0)] at hs
  obtain ⟨h, _⟩ := hs.take hb (by omega) (cl_le b) (m := nv) hn.symm (Int.le_refl 0) 65 (by decide)
  rw [Int.zero_emod] at h
  exact ⟨_, h⟩
theorem ricklaw04_BitsPlaces.getD (A : Nat) (b : Int) (j : Nat) : (ricklaw04_BitsPlaces.row A b).getD j 0 = if j = A then 1 else 0 := by
  have hz : bitsN (cl b) 0 = List.replicate (cl b) 0 := by
    generalize cl b = n
    induction n with
    | zero => rfl
    | succ n ih => rw [bitsN, ih, Int.zero_ediv]; rfl
  unfold ricklaw04_BitsPlaces.row
  rw [hz, show bitsN (cl 1) 1 = [1] by decide, List.getD_eq_getElem?_getD]
  by_cases h : j = A
  · subst h; simp
  · rw [if_neg h]
    rcases Nat.lt_or_ge j A with h1 | h1
    · rw [List.append_assoc, List.getElem?_append_left (by simpa using h1)]; simp [h1]
    · rw [List.getElem?_append_right (by simp; omega)]
      simp only [List.length_append, List.length_replicate, List.length_cons, List.length_nil]
      rw [List.getElem?_replicate]; split <;> rfl
theorem ricklaw04_BitsPlaces.byte (A : Nat) (b : Int) (hA : A < 300) : rd (packB (ricklaw04_BitsPlaces.row A b)) ((A / 8 : Nat) : Int) = 2 ^ (7 - A % 8) := by
  have hl := (ricklaw04_BitsPlaces.small A b hA).1
  have hl2 : A / 8 < ((ricklaw04_BitsPlaces.row A b).length + 7) / 8 := by rw [← packB_len]; omega
  unfold packB
  rw [rd_rows _ hl2]
  unfold byteAt
  simp only [ricklaw04_BitsPlaces.getD]
  obtain ⟨q, r, hr, rfl⟩ : ∃ q r, r < 8 ∧ A = 8 * q + r := ⟨A / 8, A % 8, by omega, by omega⟩
  have e1 : (8 * q + r) / 8 = q := by omega
  have e2 : (8 * q + r) % 8 = r := by omega
  rw [e1, e2]
  rcases pow_r hr with rfl | rfl | rfl | rfl | rfl | rfl | rfl | rfl <;> simp
theorem ricklaw04_BitsPlaces.cell {w : World} {B : Nat} {ok : Nat → Prop} {ad : Addr} {n c : Nat} {xs : List Int} (h : Kd.R (Kd.int .u8) 5 w B ok (.slice (some ad) n c) xs) {i x : Int} (h0 : 0 ≤ i) (h1 : i < (xs.length : Int)) (hx : rd xs i = x) : w.cell? (ad.add i.toNat) = some (.int .u8 x) := by
  obtain ⟨ad', e, hx'⟩ := Kd.at_int (Kd.R_reads' h).2.2 i h0 h1
  cases e
  rw [← hx]; exact hx'
set_option maxHeartbeats 8000000 in
set_option maxRecDepth 100000 in
theorem ricklaw04_BitsPlaces.calls (a0 : Int) (a1 : Int) (r : Bool) (w : World) (h : ricklaw04_BitsPlaces.f a0 a1 = some r) :
    Calls Try.prog 9 #[.int .i64 a0, .int .i64 a1] w fun e w' => e = .returned (.bool r) ∧ Below w.heap.size w w' := by
  obtain rfl := Option.some.inj h
  clear h
  obtain ⟨ua, hua⟩ : ∃ u, IntKind.u64.wrap a0 = u := ⟨_, rfl⟩
  obtain ⟨ub, hub⟩ : ∃ u, IntKind.u64.wrap a1 = u := ⟨_, rfl⟩
  have ua0 : 0 ≤ ua := by rw [← hua, wrap_u64]; omega
  have ub0 : 0 ≤ ub := by rw [← hub, wrap_u64]; omega
  have ua1 : ua < 18446744073709551616 := by rw [← hua, wrap_u64]; omega
  have ub1 : ub < 18446744073709551616 := by rw [← hub, wrap_u64]; omega
  obtain ⟨av, hav⟩ : ∃ u, ua % 300 = u := ⟨_, rfl⟩
  obtain ⟨bv, hbv⟩ : ∃ u, ub % 70 = u := ⟨_, rfl⟩
  have av0 : 0 ≤ av := by omega
  have av1 : av < 300 := by omega
  have bv0 : 0 ≤ bv := by omega
  have bv1 : bv < 70 := by omega
  obtain ⟨A, hA⟩ : ∃ A : Nat, (A : Int) = av := ⟨av.toNat, by omega⟩
  have HA := Aside0.mk hA
  clear hA
  go_enter Try.func9, Try.ntmps9
  go_wp2
  clear hua hub hav hbv ua0 ub0 ua1 ub1
  have HR : Aside0 (ricklaw04_BitsPlaces.Rel1 w w.heap.size 0 (w.alloc (Obj.cells #[Value.slice none 0 0, Value.int IntKind.i64 0] 48))) := ⟨⟨_, wat_new w w (Below.refl _ _), (Below.refl _ _).alloc (Nat.le_refl _) _⟩⟩
  go_loopw [8] (fun v8 wr => ∃ (i : Nat) (ii : Int), v8 = .int .i64 ii ∧ Aside0 (ii = (i : Int)) ∧ Aside0 (i ≤ A) ∧ Aside0 (ricklaw04_BitsPlaces.Rel1 w w.heap.size i wr)) (fun v8 _ => (av - intOf v8).toNat)
  case atStart => exact ⟨0, _, rfl, ⟨rfl⟩, ⟨Nat.zero_le _⟩, HR⟩
  case round =>
    clear HR
    obtain ⟨i, ii, rfl, HI, HIL, HR⟩ := hrel
    obtain ⟨v1, hW, hB⟩ := HR.out
    have HW := Aside0.mk hW
    have HB := Aside0.mk hB
    clear HR hW hB
    by_cases hlt : i < A
    · have hi0 : 0 ≤ ii := by have := HI.out; omega
      have hi1 : ii ≤ 300 := by have := HI.out; have := HA.out; omega
      have hi2 : decide (ii < av) = true := by have := HI.out; have := HA.out; simp; omega
      have hl1 : (List.replicate i (0 : Int)).length < 1000000000 := by rw [List.length_replicate]; have := HA.out; omega
      go_wp2_with (go_at_call 25; (with_reducible refine (put_calls w.heap.size v1 _ 0 1 w _ HW.out HB.out (by decide) (by decide) hl1).mono ?_); rintro e w2 ⟨rfl, v2, hW, hB, hK, hV⟩; rw [ricklaw04_BitsPlaces.put0] at hW; have HW2 := Aside0.mk hW; have HB2 := Aside0.mk hB; clear hW hB hK hV HW HB)
      go_roundw
      case rel => exact ⟨i + 1, _, rfl, ⟨by have := HI.out; omega⟩, ⟨hlt⟩, ⟨_, HW2.out, HB2.out⟩⟩
      case measure => simp [intOf]; have := HI.out; have := HA.out; omega
    · have hi2 : decide (ii < av) = false := by have := HI.out; have := HA.out; have := HIL.out; simp; omega
      obtain rfl : i = A := by have := HIL.out; omega
      have hl1 : (List.replicate i (0 : Int)).length < 1000000000 := by rw [List.length_replicate]; have := HA.out; omega
      have hl2 : (List.replicate i (0 : Int) ++ bitsN (cl 1) 1).length < 1000000000 := by rw [List.length_append, bitsN_len, List.length_replicate]; have := HA.out; have := cl_le 1; omega
      have hl3 : (ricklaw04_BitsPlaces.row i bv).length < 1000000000 := by unfold ricklaw04_BitsPlaces.row; rw [List.length_append, bitsN_len, List.length_append, bitsN_len, List.length_replicate]; have := HA.out; have := cl_le 1; have := cl_le bv; omega
      have hl4 : (ricklaw04_BitsPlaces.row i bv).length < 1000000000000 := by omega
      have hl5 : (packB (ricklaw04_BitsPlaces.row i bv)).length < 140737488355328 := by rw [packB_len]; omega
      have HL1 := Aside0.mk hl1
      have HL2 := Aside0.mk hl2
      have HL4 := Aside0.mk hl4
      have HL5 := Aside0.mk hl5
      clear hl1 hl2 hl3 hl4 hl5 hlt
      go_wp2_with (first
        | (go_at_call 25; (with_reducible refine (put_calls w.heap.size v1 _ 1 1 w _ HW.out HB.out (by decide) (by decide) HL1.out).mono ?_); rintro e w2 ⟨rfl, v2, hW, hB, hK, hV⟩; have HW2 := Aside0.mk hW; have HB2 := Aside0.mk hB; clear hW hB hK hV HW HB)
        | (go_at_call 25; (with_reducible refine (put_calls w.heap.size v2 _ 0 bv w _ HW2.out HB2.out (by decide) (by decide) HL2.out).mono ?_); rintro e w3 ⟨rfl, v3, hW, hB, hK, hV⟩; have HW3 : Aside0 (WAt w w3 w.heap.size v3 (ricklaw04_BitsPlaces.row i bv)) := ⟨hW⟩; have HB3 := Aside0.mk hB; clear hW hB hK hV HW2 HB2)
        | (go_at_call 27; (with_reducible refine (bytes_calls w.heap.size v3 _ w _ HW3.out HL4.out).mono ?_); rintro e w4 ⟨v4, rfl, hR, hB⟩; obtain ⟨A4, c4, rfl, hc4, hr4⟩ := Kd.R_reads hR; have HO4 := Aside0.mk hR; have HR4 := Aside0.mk hr4; have HC4 := Aside0.mk hc4; have HB4 := Aside0.mk (below_step HB3.out hB); clear hR hB hr4 hc4 HW3)
        | (go_at_call 33; (with_reducible refine (new_calls A4 c4 _ _ HR4.out HC4.out HL5.out).mono ?_); rintro e w6 ⟨g, w5, rfl, hb1, hs1, hb2⟩; have HS6 := Aside0.mk hs1; have HB5 := Aside0.mk (below_step HB4.out hb1); have HB6 := Aside0.mk hb2; have HO6 := Aside0.mk (Kd.R_below HO4.out (below_step hb1 hb2)); clear hb1 hs1 hb2 HO4 HB4 HR4 HC4))
      have HR2 : Aside0 (ricklaw04_BitsPlaces.Rel2 w5 w3.heap.size g (.slice A4 (packB (ricklaw04_BitsPlaces.row i bv)).length c4) (ricklaw04_BitsPlaces.row i bv) 0 w6) := ⟨⟨HS6.out, HB6.out, HO6.out⟩⟩
      clear HS6 HB6 HO6
      go_loopw [11] (fun v11 wr => ∃ (j : Nat) (jj : Int), v11 = .int .i64 jj ∧ Aside0 (jj = (j : Int)) ∧ Aside0 (j ≤ i) ∧ Aside0 (ricklaw04_BitsPlaces.Rel2 w5 w3.heap.size g (.slice A4 (packB (ricklaw04_BitsPlaces.row i bv)).length c4) (ricklaw04_BitsPlaces.row i bv) j wr)) (fun v11 _ => (av - intOf v11).toNat)
      case atStart => exact ⟨0, _, rfl, ⟨rfl⟩, ⟨Nat.zero_le _⟩, HR2⟩
      case round =>
        clear HR2
        obtain ⟨j, jj, rfl, HJ, HJL, HR2⟩ := hrel
        obtain ⟨hs, hb, ho⟩ := HR2.out
        have HS := Aside0.mk hs
        have HB := Aside0.mk hb
        have HO := Aside0.mk ho
        clear HR2 hs hb ho hi2
        by_cases hlt : j < i
        · have hj0 : 0 ≤ jj := by have := HJ.out; omega
          have hj1 : jj ≤ 300 := by have := HJ.out; have := HA.out; omega
          have hj2 : decide (jj < av) = true := by have := HJ.out; have := HA.out; simp; omega
          have HT := Aside0.mk (ricklaw04_BitsPlaces.take0 i bv (by have := HA.out; omega) j hlt)
          go_wp2_with (go_at_call 28; (with_reducible refine (bits_Reader_Take.calls 65 g _ _ false 1 _ _ false w5 _ HS.out HB.out HT.out).mono ?_); rintro e w7 ⟨rfl, hs, hb2, hk⟩; have HS7 := Aside0.mk hs; have HB7 := Aside0.mk hb2; have HO7 := Aside0.mk (Kd.R_mono (ok' := fun _ => True) (Kd.R_keep (HS.out.apart HO.out (by decide)) hk (fun _ h => h.2)) (fun _ _ => trivial)); clear hs hb2 hk HS HB HO)
          go_roundw
          case rel => exact ⟨j + 1, _, rfl, ⟨by have := HJ.out; omega⟩, ⟨hlt⟩, ⟨HS7.out, HB7.out, HO7.out⟩⟩
          case measure => simp [intOf]; have := HJ.out; have := HA.out; omega
        · have hj2 : decide (jj < av) = false := by have := HJ.out; have := HA.out; have := HJL.out; simp; omega
          obtain rfl : j = i := by have := HJL.out; omega
          have hA3 : j < 300 := by have := HA.out; omega
          obtain ⟨nv, hnv⟩ : ∃ nv : Int, (if 64 < bv then 64 else bv) = nv := ⟨_, rfl⟩
          have hcl : ((cl bv : Nat) : Int) = nv := by
            have e : cl bv = nv.toNat := by unfold cl mn mx; rw [show (if bv < 0 then (0 : Int) else bv) = bv from if_neg (by omega), hnv]
            have : 0 ≤ nv := by rw [← hnv]; split <;> omega
            omega
          have nv0 : 0 ≤ nv := by omega
          have nv1 : nv ≤ 64 := by have := cl_le bv; omega
          have HT1 := Aside0.mk (ricklaw04_BitsPlaces.take1 j bv hA3).1
          obtain ⟨ev, ht2⟩ := ricklaw04_BitsPlaces.take2 j bv nv hA3 hcl
          have HT2 := Aside0.mk ht2
          obtain ⟨qi, hqi⟩ : ∃ q : Int, q = ((j / 8 : Nat) : Int) := ⟨_, rfl⟩
          obtain ⟨kv, hkv⟩ : ∃ q : Int, q = 7 - av % 8 := ⟨_, rfl⟩
          obtain ⟨xv, hxv⟩ : ∃ q : Int, q = 2 ^ kv.toNat := ⟨_, rfl⟩
          have hby := ricklaw04_BitsPlaces.byte j bv hA3
          rw [← hqi, show (2 : Int) ^ (7 - j % 8) = xv by rw [hxv]; congr 1; have := HA.out; omega] at hby
          have hsm := (ricklaw04_BitsPlaces.small j bv hA3).1
          obtain ⟨p, hp⟩ : ∃ p, p = packB (ricklaw04_BitsPlaces.row j bv) := ⟨_, rfl⟩
          rw [← hp] at HS HO HT1 HT2 hby hsm ⊢
          have HBY := Aside0.mk hby
          obtain ⟨ln, hln⟩ : ∃ ln, ln = p.length := ⟨_, rfl⟩
          have HLN := Aside0.mk hln
          rw [← hln] at HO ⊢ hsm
          obtain ⟨ad, had, hx⟩ := Kd.at_int (Kd.R_reads' HO.out).2.2 qi (by omega) (by rw [← hln, hsm]; omega)
          cases had
          rw [hby] at hx
          have HX := Aside0.mk hx
          obtain ⟨s1, hs1⟩ : ∃ q : Int, q = av + 1 := ⟨_, rfl⟩
          obtain ⟨s2, hs2⟩ : ∃ q : Int, q = s1 + nv := ⟨_, rfl⟩
          obtain ⟨s3, hs3⟩ : ∃ q : Int, q = s2 + 7 := ⟨_, rfl⟩
          obtain ⟨s4, hs4⟩ : ∃ q : Int, q = s3 / 8 := ⟨_, rfl⟩
          have hlen : (ln : Int) = s4 := by have := HA.out; omega
          have HLEN := Aside0.mk hlen
          have q0 : 0 ≤ qi := by omega
          have q1 : qi < (ln : Int) := by have := HA.out; omega
          have k0 : 0 ≤ kv := by omega
          have k1 : kv ≤ 7 := by omega
          clear hsm hcl hby hln ht2 hlen HJ HJL
          go_wp2
          clear hnv
          have HBd := Aside0.mk (below_drew1 HB.out)
          have HSd := Aside0.mk HS.out.drew
          have HOd := Aside0.mk (Kd.R_drew HO.out)
          have hxd : wr.drew.cell? (ad.add qi.toNat) = some (.int .u8 xv) := hx
          have HQ1 : Aside0 (qi < (p.length : Int)) := ⟨by rw [← HLN.out]; exact q1⟩
          have z1 : IntKind.i64.wrap (av + 1) = s1 := by rw [IntKind.wrap_i64]; omega
          have z2 : IntKind.i64.wrap (s1 + nv) = s2 := by rw [IntKind.wrap_i64]; omega
          have z3 : IntKind.i64.wrap (s2 + 7) = s3 := by rw [IntKind.wrap_i64]; omega
          have z4 : s3.tdiv 8 = s4 := by rw [Int.tdiv_eq_ediv_of_nonneg (by omega)]; omega
          have z5 : IntKind.i64.wrap s4 = s4 := by rw [IntKind.wrap_i64]; omega
          have z6 : ((ln : Int) == s4) = true := by rw [beq_iff_eq]; exact HLEN.out
          have z7 : av.tdiv 8 = qi := by rw [Int.tdiv_eq_ediv_of_nonneg (by omega)]; have := HA.out; omega
          have z8 : IntKind.i64.wrap qi = qi := by rw [IntKind.wrap_i64]; omega
          obtain ⟨rm, hrm⟩ : ∃ q : Int, q = av % 8 := ⟨_, rfl⟩
          have z9 : av.tmod 8 = rm := by rw [Int.tmod_eq_emod_of_nonneg (by omega)]; omega
          have z10 : IntKind.i64.wrap (7 - rm) = kv := by rw [IntKind.wrap_i64]; omega
          have z11 : IntKind.i64.wrap rm = rm := by rw [IntKind.wrap_i64]; omega
          have z12 : IntKind.u8.wrap (2 ^ kv.toNat) = xv := by
            rw [hxv]
            have : kv = 0 ∨ kv = 1 ∨ kv = 2 ∨ kv = 3 ∨ kv = 4 ∨ kv = 5 ∨ kv = 6 ∨ kv = 7 := by omega
            rcases this with e | e | e | e | e | e | e | e <;> (rw [e]; decide)
          clear HB HS HO hx HX hs1 hs2 hs3 hs4 hqi hkv hxv hrm
          go_region_held3 (fun w' => w'.cell? (ad.add qi.toNat) = some (.int .u8 xv)) (first | exact hxd | assumption)
            (first
              | (go_at_call 26; refine (ricklaw04_puts.calls true _ rfl).mono ?_; rintro e w7 ⟨rfl, hb⟩; have HB7 := Aside0.mk (below_step HBd.out hb); have HS7 := Aside0.mk (HSd.out.below hb); have HO7 := Aside0.mk (Kd.R_below HOd.out hb); have hx7 := ricklaw04_BitsPlaces.cell HO7.out q0 HQ1.out HBY.out; clear hb HBd HSd HOd hxd)
              | (go_at_call 28; (with_reducible refine (bits_Reader_Take.calls 65 g _ _ false 1 _ _ false w5 _ HS7.out HB7.out HT1.out).mono ?_); rintro e w8 ⟨rfl, hs, hb2, hk⟩; have HS8 := Aside0.mk hs; have HB8 := Aside0.mk hb2; have HO8 := Aside0.mk (Kd.R_mono (ok' := fun _ => True) (Kd.R_keep (HS7.out.apart HO7.out (by decide)) hk (fun _ h => h.2)) (fun _ _ => trivial)); have hx8 := ricklaw04_BitsPlaces.cell HO8.out q0 HQ1.out HBY.out; clear hs hb2 hk HS7 HB7 HO7 hx7)
              | (go_at_call 28; (with_reducible refine (bits_Reader_Take.calls 65 g _ _ false nv _ _ false w5 _ HS8.out HB8.out HT2.out).mono ?_); rintro e w9 ⟨rfl, hs, hb2, hk⟩; have HS9 := Aside0.mk hs; have HB9 := Aside0.mk hb2; have HO9 := Aside0.mk (Kd.R_mono (ok' := fun _ => True) (Kd.R_keep (HS8.out.apart HO8.out (by decide)) hk (fun _ h => h.2)) (fun _ _ => trivial)); have hx9 := ricklaw04_BitsPlaces.cell HO9.out q0 HQ1.out HBY.out; clear hs hb2 hk HS8 HB8 HO8 hx8)
              | (go_at_call 29; (with_reducible refine (bits_Reader_Bad.calls g _ _ false false _ false w5 _ HS9.out HB9.out rfl).mono ?_); rintro e w10 ⟨rfl, hs, hb2, hk⟩; have HB10 := Aside0.mk hb2; have HO10 := Aside0.mk (Kd.R_mono (ok' := fun _ => True) (Kd.R_keep (HS9.out.apart HO9.out (by decide)) hk (fun _ h => h.2)) (fun _ _ => trivial)); have hx10 := ricklaw04_BitsPlaces.cell HO10.out q0 HQ1.out HBY.out; clear hs hb2 hk HS9 HB9 HO9 hx9))
          all_goals
            go_wp2
            go_ret
            exact ⟨rfl, below_step HB5.out HB10.out⟩

/-- THE ONE PURE STATEMENT of ricklaw04_BitsPlaces: yours. -/
def ricklaw04_BitsPlaces.Pure : Prop := ∀ (a0 : Int) (a1 : Int), (Lit.int .i64 a0).wf = true → (Lit.int .i64 a1).wf = true → ricklaw04_BitsPlaces.f a0 a1 = some true
theorem ricklaw04_BitsPlaces.walk (P : ricklaw04_BitsPlaces.Pure) (a0 : Int) (a1 : Int) (w : World) (w0 : (Lit.int .i64 a0).wf = true) (w1 : (Lit.int .i64 a1).wf = true) :
    Calls Try.prog 9 #[.int .i64 a0, .int .i64 a1] w fun e w' => e = .returned (.bool true) ∧ Below w.heap.size w w' := by
  have h := P a0 a1 w0 w1
  refine (ricklaw04_BitsPlaces.calls a0 a1 true w h).mono ?_
  rintro e w' ⟨rfl, hd⟩
  exact ⟨rfl, hd⟩

end Go.Proofs.Ytmlbppfcpejlpaa.X

/- BitsPlaces: a single bit that is put behind so many noughts stands in its place, and is taken from there. No conditions. -/
namespace Go.Proofs.Ytmlbppfcpejlpaa.Pure
open Go Go.RowKit Go.Proofs.Ytmlbppfcpejlpaa.X

theorem BitsPlaces : ricklaw04_BitsPlaces.Pure := fun _ _ _ _ => rfl
end Go.Proofs.Ytmlbppfcpejlpaa.Pure
