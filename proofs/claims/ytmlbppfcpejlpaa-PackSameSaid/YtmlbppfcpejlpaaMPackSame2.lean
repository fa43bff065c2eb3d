/- Texts of this claim, laid together (wip/merge.py): XPackGet, XRicklaw06Puts, XRicklaw06Packsame, Q06c, XRickref06Raw, XRickref06Put, Q06d, XRickref06Same, Q06e, PurePackSame. No conditions. -/
import Derived.Test.YtmlbppfcpejlpaaMPackSame1
-- Printed by this session's own program (wip/xprint.py) over the translation; its external functions are hand-written. Lean checks it.
namespace Go.Proofs.Ytmlbppfcpejlpaa.X
open Go.RowKit Go.Proofs.YtmlbppfcpejlpaaW.PrintWords Go.Proofs.YtmlbppfcpejlpaaW.PrintLast Go.Proofs.YtmlbppfcpejlpaaW.PrintMore
attribute [local go_sem] max2_int min2_int max_two min_two max_three min_three max_four min_four   -- for this text's walks alone
set_option linter.unusedVariables false
set_option linter.unusedSimpArgs false

/-! ### pack_Get: function 44 -/
open Go.Proofs.Ytmlbppfcpejlpaa.S Go.Proofs.Ytmlbppfcpejlpaa.B Go.Proofs.Ytmlbppfcpejlpaa.W04 Go.Proofs.Ytmlbppfcpejlpaa.Q06
/-- The numbers that bits tell from place 72 on, w bits each, above lo. -/
def pack_Get.outs (b : List Int) (lo : Int) (w i : Nat) : List Int := (List.range i).map (fun j => IntKind.u64.wrap (lo + gv b (72 + j * w) w))
def pack_Get.f (l0 : List Int) (a1 : Int) : Option (List Int × Int × Int) :=
  if a1 < 0 ∨ 200 < a1 then some ([], 0, 1) else if a1 = 0 then some ([], 0, 0) else if l0.length < 9 then some ([], 0, 4) else if 64 < rd l0 8 then some ([], 0, 3)
  else if okB l0 = true then (if 8 * l0.length < 72 + a1.toNat * (rd l0 8).toNat then some ([], 0, 4)
    else (pack_Put.f (pack_Get.outs l0 (gv l0 0 64) (rd l0 8).toNat a1.toNat)).bind fun p => (bytes_HasPrefix.f l0 p.1).bind fun t => if t = true then some (pack_Get.outs l0 (gv l0 0 64) (rd l0 8).toNat a1.toNat, (p.1.length : Int), 0) else some ([], 0, 3))
  else none
def pack_Get.Three (B : Nat) (xs : List Int) (n m : Int) (w : World) (e : Ending) (w' : World) : Prop :=
  ∃ v0_ : Value, e = .returned (.tuple #[v0_, .int .i64 n, .int .i64 m]) ∧ Kd.R (Kd.int .u64) 23 w' B (fun _ => True) v0_ xs ∧ Below w.heap.size w w'
theorem pack_Get.calls_early (A0 : Option Addr) (c0 : Nat) (l0 : List Int) (a1 m : Int) (w : World) (hr0 : Kd.C (Kd.int .u8) w A0 l0.length l0)
    (hn : ((a1 < 0 ∨ 200 < a1) ∧ m = 1) ∨ (a1 = 0 ∧ m = 0) ∨ (0 < a1 ∧ a1 ≤ 200 ∧ l0.length < 9 ∧ m = 4) ∨ (0 < a1 ∧ a1 ≤ 200 ∧ 9 ≤ l0.length ∧ 64 < rd l0 8 ∧ m = 3)) :
    Calls Try.prog 44 #[.slice A0 l0.length c0, .int .i64 a1] w (pack_Get.Three w.heap.size [] 0 m w) := by
  have HR0 := Aside0.mk hr0
  clear hr0
  rcases hn with ⟨hn, rfl⟩ | ⟨rfl, rfl⟩ | ⟨h1, h2, h3, rfl⟩ | ⟨h1, h2, h3, h4, rfl⟩
  · rcases hn with hn | hn
    · have t1 : decide (a1 < 0) = true := by simpa using hn
      go_enter Try.func44, Try.ntmps44
      go_wp2
      go_ret3
      exact ⟨_, rfl, Kd.R_nil _ _ _ _ _, Below.refl _ _⟩
    · have t1 : decide (a1 < 0) = false := by simp; omega
      have t2 : decide (200 < a1) = true := by simpa using hn
      go_enter Try.func44, Try.ntmps44
      go_wp2
      go_ret3
      exact ⟨_, rfl, Kd.R_nil _ _ _ _ _, Below.refl _ _⟩
  · go_enter Try.func44, Try.ntmps44
    go_wp2
    go_ret3
    exact ⟨_, rfl, Kd.R_nil _ _ _ _ _, Below.refl _ _⟩
  · have t1 : decide (a1 < 0) = false := by simp; omega
    have t2 : decide (200 < a1) = false := by simp; omega
    have t3 : (a1 == 0) = false := by rw [beq_eq_false_iff_ne]; omega
    have t4 : decide ((l0.length : Int) < 9) = true := by simp; omega
    have t5 : decide (l0.length < 9) = true := by simpa using h3
    go_enter Try.func44, Try.ntmps44
    go_wp2
    go_ret3
    exact ⟨_, rfl, Kd.R_nil _ _ _ _ _, Below.refl _ _⟩
  · have t1 : decide (a1 < 0) = false := by simp; omega
    have t2 : decide (200 < a1) = false := by simp; omega
    have t3 : (a1 == 0) = false := by rw [beq_eq_false_iff_ne]; omega
    have t4 : decide ((l0.length : Int) < 9) = false := by simp; omega
    have t5 : decide (l0.length < 9) = false := by simp; omega
    have t6 : decide (64 < rd l0 8) = true := by simpa using h4
    have t7 : ((8 : Int) < (l0.length : Int)) = True := eq_true (by omega)
    have t8 : (8 < l0.length) = True := eq_true (by omega)
    have t9 : decide (8 < l0.length) = true := by simp; omega
    obtain ⟨ad, e, hx⟩ := Kd.at_int HR0.out 8 (by omega) (by omega)
    cases e
    have hx' : w.cell? ⟨ad.block, ad.off + 8, none⟩ = some (.int .u8 (rd l0 8)) := by simpa [Addr.add] using hx
    go_enter Try.func44, Try.ntmps44
    go_wp2
    go_ret3
    exact ⟨_, rfl, Kd.R_nil _ _ _ _ _, Below.refl _ _⟩
theorem pack_Get.outs_len (b : List Int) (lo : Int) (w i : Nat) : (pack_Get.outs b lo w i).length = i := by simp [pack_Get.outs]
theorem pack_Get.outs_succ (b : List Int) (lo : Int) (w i : Nat) : pack_Get.outs b lo w (i + 1) = pack_Get.outs b lo w i ++ [IntKind.u64.wrap (lo + gv b (72 + i * w) w)] := by
  simp [pack_Get.outs, List.range_succ]
theorem pack_Get.outs_ok (b : List Int) (lo : Int) (w i : Nat) : pack_Put.ok (pack_Get.outs b lo w i) = true := by
  refine List.all_eq_true.2 (fun x hx => ?_)
  obtain ⟨j, _, rfl⟩ := List.mem_map.1 hx
  rw [wrap_u64]
  simp; omega
/-- A round's head: i numbers are taken; the reader is right, or it is bad, and then there were too few bits. -/
def pack_Get.Rel (w1 : World) (g : Nat) (b : List Int) (lo : Int) (wn n : Nat) (i : Nat) (vo : Value) (wr : World) : Prop :=
  ∃ (a : Nat) (bad : Bool) (out : List Int), IsS81 w1 wr g b (a : Int) bad ∧ Below w1.heap.size w1 wr ∧ Kd.R (Kd.int .u64) 23 wr w1.heap.size (fun _ => True) vo out ∧ out.length = i ∧ a ≤ 8 * b.length ∧
    ((bad = false ∧ a = 72 + i * wn ∧ out = pack_Get.outs b lo wn i) ∨ (bad = true ∧ 8 * b.length < 72 + n * wn))
set_option maxHeartbeats 8000000 in
set_option maxRecDepth 100000 in
theorem pack_Get.calls_main (A0 : Option Addr) (c0 : Nat) (l0 : List Int) (n : Nat) (r1 : List Int) (r2 r3 : Int) (w : World) (hr0 : Kd.C (Kd.int .u8) w A0 l0.length l0) (hc0 : l0.length ≤ c0) (h1 : 0 < n) (h2 : n ≤ 200) (h9 : 9 ≤ l0.length) (h64 : rd l0 8 ≤ 64) (hb : Bs l0) (hl : l0.length < 1000000000)
    (h : (if 8 * l0.length < 72 + n * (rd l0 8).toNat then some ([], 0, 4) else (pack_Put.f (pack_Get.outs l0 (gv l0 0 64) (rd l0 8).toNat n)).bind fun p => (bytes_HasPrefix.f l0 p.1).bind fun t => if t = true then some (pack_Get.outs l0 (gv l0 0 64) (rd l0 8).toNat n, (p.1.length : Int), 0) else some ([], 0, 3)) = some (r1, r2, r3)) :
    Calls Try.prog 44 #[.slice A0 l0.length c0, .int .i64 (n : Int)] w (pack_Get.Three w.heap.size r1 r2 r3 w) := by
  have hrd : rd l0 8 = l0[8] := rd_get (i := 8) (by omega)
  obtain ⟨q0, q1⟩ := hb _ (List.getElem_mem (show 8 < l0.length by omega))
  have hwv : gv l0 64 8 = rd l0 8 := by rw [hrd]; exact gv_byte hb (q := 8) (by omega)
  rw [← hrd] at q0 q1
  have hlo := gv_range64 l0 0 (n := 64) (by omega)
  have T1 := Aside0.mk (take_good (m := 64) (at0 := 0) hb (by omega) (by omega) (by omega) (by simp; omega))
  have T2 := Aside0.mk (take_good (m := 8) (at0 := 64) hb (by omega) (by omega) (by omega) (by simp; omega))
  obtain ⟨lo, hlo1⟩ : ∃ lo, lo = gv l0 0 64 := ⟨_, rfl⟩
  obtain ⟨wv, hwv1⟩ : ∃ wv, wv = rd l0 8 := ⟨_, rfl⟩
  obtain ⟨nn, hnn⟩ : ∃ nn : Int, nn = (n : Int) := ⟨_, rfl⟩
  simp only [show (64 : Int).toNat = 64 from rfl, show (8 : Int).toNat = 8 from rfl, Nat.zero_add, Nat.reduceAdd] at T1 T2
  rw [← hlo1] at T1 h hlo
  rw [hwv] at T2
  rw [← hwv1] at T2 h q0 q1 h64
  replace T1 : Aside0 (bits_Reader_Take.f 65 l0 0 false 64 = some (lo, 64, false)) := ⟨T1.out⟩
  replace T2 : Aside0 (bits_Reader_Take.f 65 l0 64 false 8 = some (wv, 72, false)) := ⟨T2.out⟩
  have H := Aside0.mk h
  have HR0 := Aside0.mk hr0
  have HC0 := Aside0.mk hc0
  have HBS := Aside0.mk hb
  have t1 : decide (nn < 0) = false := by simp; omega
  have t2 : decide (200 < nn) = false := by simp; omega
  have t3 : (nn == 0) = false := by rw [beq_eq_false_iff_ne]; omega
  have t4 : decide ((l0.length : Int) < 9) = false := by simp; omega
  have t5 : decide (l0.length < 9) = false := by simp; omega
  have t6 : decide (64 < wv) = false := by simp; omega
  have t7 : ((8 : Int) < (l0.length : Int)) = True := eq_true (by omega)
  have t8 : (8 < l0.length) = True := eq_true (by omega)
  have t9 : decide (8 < l0.length) = true := by simp; omega
  have hwv2 : IntKind.i64.wrap wv = wv := by rw [IntKind.wrap_i64]; omega
  obtain ⟨ad, e, hx⟩ := Kd.at_int hr0 8 (by omega) (by omega)
  rw [← hwv1] at hx
  cases e
  have hx' : w.cell? ⟨ad.block, ad.off + 8, none⟩ = some (.int .u8 wv) := by simpa [Addr.add] using hx
  rw [← hnn]
  have HNN := Aside0.mk hnn
  clear hr0 hc0 hx hlo1 hwv1 hnn h hrd hwv hb
  go_enter Try.func44, Try.ntmps44
  go_wp2_with (first
    | (go_at_call 33; (with_reducible refine (new_calls _ _ l0 _ HR0.out HC0.out (by omega)).mono ?_); rintro e w2 ⟨g, w1, rfl, hb1, hs, hb2⟩; have HS0 := Aside0.mk hs; have HB1 := Aside0.mk hb1; have HB2 := Aside0.mk hb2; clear hb1 hs hb2)
    | (go_at_call 28; (with_reducible refine (bits_Reader_Take.calls 65 g l0 0 false 64 lo 64 false w1 w2 HS0.out HB2.out T1.out).mono ?_); rintro e w3 ⟨rfl, hs, hb2, hk⟩; have HS1 := Aside0.mk hs; have HB3 := Aside0.mk hb2; clear hs hb2 hk HS0 HB2)
    | (go_at_call 28; (with_reducible refine (bits_Reader_Take.calls 65 g l0 64 false 8 wv 72 false w1 w3 HS1.out HB3.out T2.out).mono ?_); rintro e w4 ⟨rfl, hs, hb2, hk⟩; have HS2 := Aside0.mk hs; have HB4 := Aside0.mk hb2; clear hs hb2 hk HS1 HB3))
  have HW : Aside0 (wv.toNat ≤ 64) := ⟨by omega⟩
  have HR : Aside0 (pack_Get.Rel w1 g l0 lo wv.toNat n 0 (.slice none 0 0) w4) := ⟨⟨72, false, [], HS2.out, HB4.out, Kd.R_nil _ _ _ _ _, rfl, by omega, .inl ⟨rfl, by omega, rfl⟩⟩⟩
  clear HS2 HB4 T1 T2 hx'
  go_loopw [10, 40] (fun v10 v40 wr => ∃ (i : Nat) (ii : Int), v40 = .int .i64 ii ∧ Aside0 (ii = (i : Int)) ∧ Aside0 (i ≤ n) ∧ Aside0 (pack_Get.Rel w1 g l0 lo wv.toNat n i v10 wr)) (fun _ v40 _ => (nn - intOf v40).toNat)
  case atStart => exact ⟨0, _, rfl, ⟨rfl⟩, ⟨Nat.zero_le _⟩, HR⟩
  case round =>
    clear HR t1 t2 t3 t4 t5 t6 t7 t8 t9 hwv2
    obtain ⟨i, ii, rfl, HI, HIL, HR⟩ := hrel
    obtain ⟨a, bad, out, hs, hbl, ho, hlen, ha, hst⟩ := HR.out
    have HS := Aside0.mk hs
    have HB := Aside0.mk hbl
    have HO := Aside0.mk ho
    have HST := Aside0.mk hst
    have HLEN := Aside0.mk hlen
    clear HR hs hbl ho hst hlen
    have hin := HI.out
    by_cases hlt : i < n
    · have hi0 : 0 ≤ ii := by omega
      have hi1 : ii ≤ 200 := by omega
      have hi2 : decide (ii < nn) = true := by have := HNN.out; simp; omega
      obtain ⟨tv, a1, bad1, hT, tv0, tv1, ha1, hst1⟩ := take_any (at0 := a) (bad := bad) (m := wv) HBS.out (by omega) ha q0 h64
      obtain ⟨ai, hai⟩ : ∃ ai : Int, ai = (a : Int) := ⟨_, rfl⟩
      obtain ⟨ai1, hai1⟩ : ∃ ai1 : Int, ai1 = (a1 : Int) := ⟨_, rfl⟩
      obtain ⟨sv, hsv⟩ : ∃ sv : Int, sv = IntKind.u64.wrap (lo + tv) := ⟨_, rfl⟩
      have hsv1 : IntKind.u64.wrap (lo + tv) = sv := hsv.symm
      rw [← hai] at hT HS
      rw [← hai1] at hT
      have HT := Aside0.mk hT
      have HA := Aside0.mk hai
      have HA1 := Aside0.mk hai1
      have HSV := Aside0.mk hsv
      have HST1 := Aside0.mk hst1
      clear hT hai hai1 hsv hst1 hin
      go_wp2_with (first
        | (go_at_call 28; (with_reducible refine (bits_Reader_Take.calls 65 g l0 ai bad wv tv ai1 bad1 w1 wr HS.out HB.out HT.out).mono ?_); rintro e w5 ⟨rfl, hs, hb2, hk⟩; have HS5 := Aside0.mk hs; have HB5 := Aside0.mk hb2; have HO5 := Aside0.mk (Kd.R_mono (ok' := fun _ => True) (Kd.R_keep (HS.out.apart HO.out (by decide)) hk (fun _ h => h.2)) (fun _ _ => trivial)); clear hs hb2 hk HS HB HO)
        | ((with_reducible refine gate_builtin (b := .append) (xs := #[.tmp 42, .tmp 48]) rfl ?_); at_builtin; refine Kd.R_append (Kd.int .u64) (w0 := w1) w1.heap.size rfl (.tmp 42) (.tmp 48) 34 23 (.int .u64 0) 8 rfl Try.underlying34 info23 rfl (by decide) (by omega) u10 out sv [.int .u64 sv] (fun _ => True) (fun _ => False) rfl rfl ?aP (fun _ hk => hk.elim) ?aF ?aO ?aB ?aS ?aL ?_; (case aP => exact rfl); (case aB => exact HB5.out); (case aF => exact (fun _ _ => trivial)); (case aO => exact HO5.out); (case aS => exact (below_size HB5.out)); (case aL => have := HLEN.out; omega); intro v6 w6 ho hb hg hat; have HO6 := Aside0.mk ho; have HB6 := Aside0.mk hb; have HS6 := Aside0.mk (HS5.out.grown hg (HS5.out.own_ne HO5.out (by decide))); clear ho hb hg hat HS5 HB5 HO5))
      go_roundw
      case rel => exact ⟨i + 1, _, rfl, ⟨by have := HI.out; omega⟩, ⟨hlt⟩, ⟨a1, bad1, out ++ [sv], by have := HS6.out; rw [HA1.out] at this; exact this, HB6.out, HO6.out, by have := HLEN.out; simp; omega, ha1, by
          have hw := HW.out
          rcases HST1.out with ⟨b1, b2, b3, b4⟩ | ⟨b1, b2, b3, b4, b5⟩ | ⟨b1, b2, b3, b4, b5⟩
          · rcases HST.out with ⟨s1, s2, s3⟩ | ⟨s1, s2⟩
            · rw [s1] at b1; cases b1
            · exact .inr ⟨b2, s2⟩
          · rcases HST.out with ⟨s1, s2, s3⟩ | ⟨s1, s2⟩
            · refine .inl ⟨b2, ?_, ?_⟩
              · rw [b4, s2, Nat.succ_mul]; omega
              · rw [pack_Get.outs_succ, HSV.out, b5, s3, s2]
            · rw [s1] at b1; cases b1
          · rcases HST.out with ⟨s1, s2, s3⟩ | ⟨s1, s2⟩
            · refine .inr ⟨b2, ?_⟩
              have : (i + 1) * wv.toNat ≤ n * wv.toNat := Nat.mul_le_mul_right _ hlt
              rw [Nat.succ_mul] at this
              omega
            · rw [s1] at b1; cases b1⟩⟩
      case measure => simp [intOf]; have := HI.out; have := HNN.out; omega
    · have hi2 : decide (ii < nn) = false := by have := HNN.out; simp; omega
      have hil : i = n := by have := HIL.out; omega
      subst hil
      obtain ⟨ai, hai⟩ : ∃ ai : Int, ai = (a : Int) := ⟨_, rfl⟩
      rw [← hai] at HS
      clear hai hin
      cases bad with
      | true =>
        have hsh : 8 * l0.length < 72 + i * wv.toNat := by
          rcases HST.out with ⟨s1, _⟩ | ⟨_, s2⟩
          · cases s1
          · exact s2
        have hH := H.out
        rw [if_pos hsh] at hH
        injection hH with hH; injection hH with e1 e2; injection e2 with e2 e3; subst e1; subst e2; subst e3
        clear hsh H
        have HBD : Aside0 (bits_Reader_Bad.f l0 ai true = some (true, ai, true)) := ⟨rfl⟩
        go_wp2_with (go_at_call 29; (with_reducible refine (bits_Reader_Bad.calls g l0 ai true true ai true w1 wr HS.out HB.out HBD.out).mono ?_); rintro e w5 ⟨rfl, hs, hb2, hk⟩; have HB5 := Aside0.mk hb2; clear hs hb2 hk)
        go_ret3
        exact ⟨_, rfl, Kd.R_nil _ _ _ _ _, below_step HB1.out HB5.out⟩
      | false =>
        have hst := HST.out
        obtain ⟨s2, s3⟩ : a = 72 + i * wv.toNat ∧ out = pack_Get.outs l0 lo wv.toNat i := by
          rcases hst with ⟨_, s2, s3⟩ | ⟨s1, _⟩
          · exact ⟨s2, s3⟩
          · cases s1
        have hH := H.out
        rw [if_neg (by omega), ← s3] at hH
        have hlen := HLEN.out
        have hok : pack_Put.ok out = true := by rw [s3]; exact pack_Get.outs_ok _ _ _ _
        obtain ⟨ag, hag⟩ : ∃ ag, ag = packB (pack_Put.bits out) := ⟨_, rfl⟩
        have hput : pack_Put.f out = some (ag, 0) := by
          unfold pack_Put.f
          rw [if_neg (by omega), if_neg (by omega), if_pos hok, hag]
        rw [hput, Option.bind_some] at hH
        obtain ⟨t, hp, hH⟩ := Option.bind_eq_some_iff.1 hH
        replace hp : bytes_HasPrefix.f l0 ag = some t := hp
        replace hH : (if t = true then some (out, (ag.length : Int), (0 : Int)) else some ([], 0, 3)) = some (r1, r2, r3) := hH
        obtain ⟨A, c, rfl, hc, hr⟩ := Kd.R_reads HO.out
        have HRO := Aside0.mk hr
        have HCO := Aside0.mk hc
        have HPUT := Aside0.mk hput
        have HHP := Aside0.mk hp
        have HH := Aside0.mk hH
        have HBD : Aside0 (bits_Reader_Bad.f l0 ai false = some (false, ai, false)) := ⟨rfl⟩
        clear hst s2 s3 hH hlen hok hag hput hp hc hr HST HLEN H ha
        cases t <;> (
        go_wp2_with (first
          | (go_at_call 29; (with_reducible refine (bits_Reader_Bad.calls g l0 ai false false ai false w1 wr HS.out HB.out HBD.out).mono ?_); rintro e w5 ⟨rfl, hs, hb2, hk⟩; have HB5 := Aside0.mk hb2; have HO5 := Aside0.mk (Kd.R_mono (ok' := fun _ => True) (Kd.R_keep (HS.out.apart HO.out (by decide)) hk (fun _ h => h.2)) (fun _ _ => trivial)); clear hs hb2 hk HS HB HO HRO)
          | (go_at_call 41; (with_reducible refine (pack_Put.calls _ _ out ag 0 _ (Kd.R_reads' HO5.out).2.2 HCO.out HPUT.out).mono ?_); rintro e w6 ⟨v6, rfl, hR, hB⟩; obtain ⟨A2, c2, rfl, hc2, hr2⟩ := Kd.R_reads hR; have HC6 := Aside0.mk hc2; have HR6 := Aside0.mk hr2; have HO6 := Aside0.mk (Kd.R_below HO5.out hB); have HB6 := Aside0.mk (below_step HB1.out (below_step HB5.out hB)); clear hR hB hc2 hr2 HO5 HB5)
          | (go_at_call 60; (with_reducible refine (bytes_HasPrefix.calls _ _ l0 _ _ ag _ _ (Kd.C_below HR0.out HB6.out) HC0.out HR6.out HC6.out HHP.out).mono ?_); rintro e w7 ⟨rfl, hdr⟩; have HO7 := Aside0.mk (Kd.R_below HO6.out (Drawn0.below hdr)); have HB7 := Aside0.mk (below_step HB6.out (Drawn0.below hdr)); clear hdr HO6 HB6))
        go_ret3)
        · have e := HH.out
          simp only [Bool.false_eq_true, if_false] at e
          injection e with e; injection e with e1 e2; injection e2 with e2 e3; subst e1; subst e2; subst e3
          exact ⟨_, rfl, Kd.R_nil _ _ _ _ _, HB7.out⟩
        · have e := HH.out
          simp only [if_true] at e
          injection e with e; injection e with e1 e2; injection e2 with e2 e3; subst e2; subst e3
          rw [← e1]
          exact ⟨_, rfl, Kd.R_lower HO7.out HB1.out.size, HB7.out⟩
theorem pack_Get.calls (A0 : Option Addr) (c0 : Nat) (l0 : List Int) (a1 : Int) (r1 : List Int) (r2 : Int) (r3 : Int) (w : World) (hr0 : Kd.C (Kd.int .u8) w A0 l0.length l0) (hc0 : l0.length ≤ c0) (h : pack_Get.f l0 a1 = some (r1, r2, r3)) :
    Calls Try.prog 44 #[.slice A0 l0.length c0, .int .i64 a1] w fun e w' => ∃ v0_ : Value, e = .returned (.tuple #[v0_, .int .i64 r2, .int .i64 r3]) ∧ Kd.R (Kd.int .u64) 23 w' w.heap.size (fun _ => True) v0_ r1 ∧ Below w.heap.size w w' := by
  unfold pack_Get.f at h
  by_cases h1 : a1 < 0 ∨ 200 < a1
  · rw [if_pos h1] at h; injection h with h; injection h with e1 e2; injection e2 with e2 e3; subst e1; subst e2; subst e3
    exact pack_Get.calls_early A0 c0 l0 a1 1 w hr0 (.inl ⟨h1, rfl⟩)
  rw [if_neg h1] at h
  by_cases h2 : a1 = 0
  · rw [if_pos h2] at h; injection h with h; injection h with e1 e2; injection e2 with e2 e3; subst e1; subst e2; subst e3
    exact pack_Get.calls_early A0 c0 l0 a1 0 w hr0 (.inr (.inl ⟨h2, rfl⟩))
  rw [if_neg h2] at h
  by_cases h3 : l0.length < 9
  · rw [if_pos h3] at h; injection h with h; injection h with e1 e2; injection e2 with e2 e3; subst e1; subst e2; subst e3
    exact pack_Get.calls_early A0 c0 l0 a1 4 w hr0 (.inr (.inr (.inl ⟨by omega, by omega, h3, rfl⟩)))
  rw [if_neg h3] at h
  by_cases h4 : 64 < rd l0 8
  · rw [if_pos h4] at h; injection h with h; injection h with e1 e2; injection e2 with e2 e3; subst e1; subst e2; subst e3
    exact pack_Get.calls_early A0 c0 l0 a1 3 w hr0 (.inr (.inr (.inr ⟨by omega, by omega, by omega, h4, rfl⟩)))
  rw [if_neg h4] at h
  by_cases h5 : okB l0 = true
  · rw [if_pos h5] at h
    obtain ⟨k1, k2⟩ := okB_bs h5
    obtain ⟨n, rfl⟩ := Int.eq_ofNat_of_zero_le (show 0 ≤ a1 by omega)
    rw [Int.toNat_natCast] at h
    exact pack_Get.calls_main A0 c0 l0 n r1 r2 r3 w hr0 hc0 (by omega) (by omega) (by omega) (by omega) k1 k2 h
  · rw [if_neg h5] at h; cases h

end Go.Proofs.Ytmlbppfcpejlpaa.X

-- Printed by this session's own program (wip/xprint.py) over the translation; its external functions are hand-written. Lean checks it.
namespace Go.Proofs.Ytmlbppfcpejlpaa.X
open Go.RowKit Go.Proofs.YtmlbppfcpejlpaaW.PrintWords Go.Proofs.YtmlbppfcpejlpaaW.PrintLast Go.Proofs.YtmlbppfcpejlpaaW.PrintMore
attribute [local go_sem] max2_int min2_int max_two min_two max_three min_three max_four min_four   -- for this text's walks alone
set_option linter.unusedVariables false
set_option linter.unusedSimpArgs false

/-! ### ricklaw06_puts: function 43 -/
def ricklaw06_puts.f  : Option (Bool) := (pack_Put.f (([7, 7] : List Int))).bind fun bt322 => ((pack_Get.f bt322.1 2).bind fun bt326 => (if bt322.2 = 0 then (if bt326.2.2 = 0 then (if (bt322.1.length : Int) = 9 then (if 7 < (bt322.1.length : Int) then (if (rd bt322.1 7) = 7 then (if 8 < (bt322.1.length : Int) then (if (rd bt322.1 8) = 0 then (if bt326.2.1 = 9 then (if (bt326.1.length : Int) = 2 then (if 1 < (bt326.1.length : Int) then (some ((rd bt326.1 1) == 7)) else (none)) else (some false)) else (some false)) else (some false)) else (none)) else (some false)) else (none)) else (some false)) else (some false)) else (some false)))
set_option maxHeartbeats 8000000 in
set_option maxRecDepth 100000 in
theorem ricklaw06_puts.calls  (r : Bool) (w : World) (h : ricklaw06_puts.f  = some r) :
    Calls Try.prog 43 #[] w fun e w' => e = .returned (.bool r) ∧ Below w.heap.size w w' := by
  have HB := Aside0.mk (Below.refl w.heap.size w)
  have H : ((pack_Put.f (([7, 7] : List Int))).bind fun bt322 => ((pack_Get.f bt322.1 2).bind fun bt326 => (if bt322.2 = 0 then (if bt326.2.2 = 0 then (if (bt322.1.length : Int) = 9 then (if 7 < (bt322.1.length : Int) then (if (rd bt322.1 7) = 7 then (if 8 < (bt322.1.length : Int) then (if (rd bt322.1 8) = 0 then (if bt326.2.1 = 9 then (if (bt326.1.length : Int) = 2 then (if 1 < (bt326.1.length : Int) then (some ((rd bt326.1 1) == 7)) else (none)) else (some false)) else (some false)) else (some false)) else (none)) else (some false)) else (none)) else (some false)) else (some false)) else (some false)))) = some r := h
  clear h
  obtain ⟨y319, hy319⟩ : ∃ y_ : List Int, y_ = (([7, 7] : List Int)) := ⟨_, rfl⟩
  replace H : ((pack_Put.f y319).bind fun bt322 => ((pack_Get.f bt322.1 2).bind fun bt326 => (if bt322.2 = 0 then (if bt326.2.2 = 0 then (if (bt322.1.length : Int) = 9 then (if 7 < (bt322.1.length : Int) then (if (rd bt322.1 7) = 7 then (if 8 < (bt322.1.length : Int) then (if (rd bt322.1 8) = 0 then (if bt326.2.1 = 9 then (if (bt326.1.length : Int) = 2 then (if 1 < (bt326.1.length : Int) then (some ((rd bt326.1 1) == 7)) else (none)) else (some false)) else (some false)) else (some false)) else (none)) else (some false)) else (none)) else (some false)) else (some false)) else (some false)))) = some r := by first | (rw [hy319]; with_reducible exact H) | (have H2_ := (Option.bind_some _ _).symm.trans H; rw [hy319]; with_reducible exact H2_) | (have H2_ := (Option.bind_some _ _).symm.trans H; with_reducible exact H2_) | with_reducible exact H | (rw [hy319]; exact H) | exact H
  have Ny319 := Aside0.mk hy319
  clear hy319
  replace H := Option.bind_eq_some_iff.mp H
  obtain ⟨⟨t322, t323⟩, A10, H⟩ := H
  replace H : ((pack_Get.f t322 2).bind fun bt326 => (if t323 = 0 then (if bt326.2.2 = 0 then (if (t322.length : Int) = 9 then (if 7 < (t322.length : Int) then (if (rd t322 7) = 7 then (if 8 < (t322.length : Int) then (if (rd t322 8) = 0 then (if bt326.2.1 = 9 then (if (bt326.1.length : Int) = 2 then (if 1 < (bt326.1.length : Int) then (some ((rd bt326.1 1) == 7)) else (none)) else (some false)) else (some false)) else (some false)) else (none)) else (some false)) else (none)) else (some false)) else (some false)) else (some false))) = some r := H
  have A1 := Aside0.mk A10
  clear A10
  replace H := Option.bind_eq_some_iff.mp H
  obtain ⟨⟨t326, t327, t328⟩, A20, H⟩ := H
  replace H : (if t323 = 0 then (if t328 = 0 then (if (t322.length : Int) = 9 then (if 7 < (t322.length : Int) then (if (rd t322 7) = 7 then (if 8 < (t322.length : Int) then (if (rd t322 8) = 0 then (if t327 = 9 then (if (t326.length : Int) = 2 then (if 1 < (t326.length : Int) then (some ((rd t326 1) == 7)) else (none)) else (some false)) else (some false)) else (some false)) else (none)) else (some false)) else (none)) else (some false)) else (some false)) else (some false)) = some r := H
  have A2 := Aside0.mk A20
  clear A20
  by_cases c3 : t323 = 0
  · rw [if_pos c3] at H
    have c3b0 : (t323 == 0) = true := beq_iff_eq.mpr c3
    have c3b1 : (t323 != 0) = false := bne_eq_false_iff_eq.mpr c3
    clear c3
    by_cases c4 : t328 = 0
    · rw [if_pos c4] at H
      have c4b0 : (t328 == 0) = true := beq_iff_eq.mpr c4
      have c4b1 : (t328 != 0) = false := bne_eq_false_iff_eq.mpr c4
      clear c4
      by_cases c5 : (t322.length : Int) = 9
      · rw [if_pos c5] at H
        have c5b0 : ((t322.length : Int) == 9) = true := beq_iff_eq.mpr c5
        have c5b1 : ((t322.length : Int) != 9) = false := bne_eq_false_iff_eq.mpr c5
        clear c5
        by_cases c6 : 7 < (t322.length : Int)
        · rw [if_pos c6] at H
          have c6b0 : decide (7 < (t322.length : Int)) = true := decide_eq_true c6
          have c6b1 : decide (7 < t322.length) = true := decide_eq_true (by omega)
          clear c6
          by_cases c7 : (rd t322 7) = 7
          · rw [if_pos c7] at H
            have c7b0 : ((rd t322 7) == 7) = true := beq_iff_eq.mpr c7
            have c7b1 : ((rd t322 7) != 7) = false := bne_eq_false_iff_eq.mpr c7
            clear c7
            by_cases c8 : 8 < (t322.length : Int)
            · rw [if_pos c8] at H
              have c8b0 : decide (8 < (t322.length : Int)) = true := decide_eq_true c8
              have c8b1 : decide (8 < t322.length) = true := decide_eq_true (by omega)
              clear c8
              by_cases c9 : (rd t322 8) = 0
              · rw [if_pos c9] at H
                have c9b0 : ((rd t322 8) == 0) = true := beq_iff_eq.mpr c9
                have c9b1 : ((rd t322 8) != 0) = false := bne_eq_false_iff_eq.mpr c9
                clear c9
                by_cases c10 : t327 = 9
                · rw [if_pos c10] at H
                  have c10b0 : (t327 == 9) = true := beq_iff_eq.mpr c10
                  have c10b1 : (t327 != 9) = false := bne_eq_false_iff_eq.mpr c10
                  clear c10
                  by_cases c11 : (t326.length : Int) = 2
                  · rw [if_pos c11] at H
                    have c11b0 : ((t326.length : Int) == 2) = true := beq_iff_eq.mpr c11
                    have c11b1 : ((t326.length : Int) != 2) = false := bne_eq_false_iff_eq.mpr c11
                    clear c11
                    by_cases c12 : 1 < (t326.length : Int)
                    · rw [if_pos c12] at H
                      have c12b0 : decide (1 < (t326.length : Int)) = true := decide_eq_true c12
                      have c12b1 : decide (1 < t326.length) = true := decide_eq_true (by omega)
                      clear c12
                      obtain rfl := Option.some.inj H
                      go_enter Try.func43, Try.ntmps43
                      go_wp2_with (first | ((with_reducible refine gate_dst (N := 7) rfl ?_); (try (refine gate_guard (by rfl) ?_; dsimp only)); refine Kd.R_lit (Kd.int .u64) _ 23 ?hg (N := 7) ?hd (xs := ([7, 7] : List Int)) (inner := [.int .u64 7, .int .u64 7]) (ok := fun _ => True) (okp := fun _ => True) ?hr ?hp (fun _ hk => hk) trivial (Below.refl _ _) (Nat.le_refl _) (by simp) ?_; (case hd => rfl); (case hg => rfl); (case hr => first | (go_simp; done) | (go_simp; rfl)); (case hp => exact (Reps.one (show Kd.M (Kd.int .u64) _ _ _ 7 [.int .u64 7] from rfl) (Reps.one (show Kd.M (Kd.int .u64) _ _ _ 7 [.int .u64 7] from rfl) (Reps.none _ _)))); intro v320 w13 ho14 hb hg_ hnew_; clear hg_ hnew_; (first | rw [← Ny319.out] at ho14 | (simp only [Int.reduceToNat] at ho14; rw [← Ny319.out] at ho14)); have n0_ := Aside0.mk (Kd.R_lower ho14 (below_size (by repeat (first | (with_reducible first | exact HB.out | apply below_alloc | apply pw_below_drewN | apply below_drew1) | exact HB.out)))); have n1_ := Aside0.mk (below_step (by repeat (first | (with_reducible first | exact HB.out | apply below_alloc | apply pw_below_drewN | apply below_drew1) | exact HB.out)) hb); clear HB; have HO321 := n0_; have HB := n1_; clear n0_ n1_; clear hb ho14; obtain ⟨Ao15, co15, eo15⟩ := Kd.R_slice HO321.out; subst eo15) | ((with_reducible refine gate_callee (f := 41) rfl ?_); refine goesL_ (some 8) rfl rfl Try.func41 (by kernel_rfl) rfl #[.slice Ao15 y319.length co15] rfl (by (try simp only [List.map_toArray, List.map_cons, List.map_nil]); first | done | rfl | (simp only [List.length_drop, List.length_take]; rfl)) ?_; (with_reducible refine (pack_Put.calls _ _ y319 t322 t323 _ ?side1 ?side2 A1.out).mono ?_); (case side1 => repeat (first | exact (Kd.R_reads' HO321.out).2.2 | (with_reducible refine Kd.C_alloc ?_ _) | (with_reducible refine Kd.C_drewN ?_ _) | (with_reducible refine Kd.C_drew ?_))); (case side2 => exact (Kd.R_reads' HO321.out).2.1); rintro e w16 ⟨v324, rfl, ho0, hb⟩; refine ⟨_, rfl, ?_⟩; have n0_ := Aside0.mk (Kd.R_below (by (with_reducible repeat (first | apply Kd.R_alloc | apply Kd.R_drewN | apply Kd.R_drew)); exact HO321.out) hb); have n1_ := Aside0.mk (Kd.R_lower ho0 (below_size (by repeat (first | (with_reducible first | exact HB.out | apply below_alloc | apply pw_below_drewN | apply below_drew1) | exact HB.out)))); have n2_ := Aside0.mk (below_step (by repeat (first | (with_reducible first | exact HB.out | apply below_alloc | apply pw_below_drewN | apply below_drew1) | exact HB.out)) hb); clear HO321; clear HB; have HO321 := n0_; have HO325 := n1_; have HB := n2_; clear n0_ n1_ n2_; (try clear hb); (try clear hb2); (try clear hk); (try clear hi); (try clear ho0); obtain ⟨Ao17, co17, eo17⟩ := Kd.R_slice HO325.out; subst eo17) | ((with_reducible refine gate_callee (f := 44) rfl ?_); refine goesL_ (some 13) rfl rfl Try.func44 (by kernel_rfl) rfl #[.slice Ao17 t322.length co17, .int .i64 2] rfl (by (try simp only [List.map_toArray, List.map_cons, List.map_nil]); first | done | rfl | (simp only [List.length_drop, List.length_take]; rfl)) ?_; (with_reducible refine (pack_Get.calls _ _ t322 2 t326 t327 t328 _ ?side1 ?side2 A2.out).mono ?_); (case side1 => repeat (first | exact (Kd.R_reads' HO325.out).2.2 | (with_reducible refine Kd.C_alloc ?_ _) | (with_reducible refine Kd.C_drewN ?_ _) | (with_reducible refine Kd.C_drew ?_))); (case side2 => exact (Kd.R_reads' HO325.out).2.1); rintro e w18 ⟨v329, rfl, ho0, hb⟩; refine ⟨_, rfl, ?_⟩; have n0_ := Aside0.mk (Kd.R_elder' (by (with_reducible repeat (first | apply Kd.R_alloc | apply Kd.R_drewN | apply Kd.R_drew)); exact HO321.out) (Kd.R_base ho0) hb); have n1_ := Aside0.mk (Kd.R_below (by (with_reducible repeat (first | apply Kd.R_alloc | apply Kd.R_drewN | apply Kd.R_drew)); exact HO325.out) hb); have n2_ := Aside0.mk (Kd.R_lower (Kd.R_new' ho0 (Kd.R_lt (by (with_reducible repeat (first | apply Kd.R_alloc | apply Kd.R_drewN | apply Kd.R_drew)); exact HO321.out))) (below_size (by repeat (first | (with_reducible first | exact HB.out | apply below_alloc | apply pw_below_drewN | apply below_drew1) | exact HB.out)))); have n3_ := Aside0.mk (below_step (by repeat (first | (with_reducible first | exact HB.out | apply below_alloc | apply pw_below_drewN | apply below_drew1) | exact HB.out)) hb); clear HO321; clear HO325; clear HB; have HO321 := n0_; have HO325 := n1_; have HO330 := n2_; have HB := n3_; clear n0_ n1_ n2_ n3_; (try clear hb); (try clear hb2); (try clear hk); (try clear hi); (try clear ho0); have p331 : 0 ≤ (7 : Int) := (by omega); have q331 : 7 < (t322.length : Int) := of_decide_eq_true (by first | (with_reducible assumption) | assumption); obtain ⟨ad331, e331, hx331_0⟩ := Kd.at_int (Kd.R_reads' HO325.out).2.2 7 p331 q331; cases e331; (try simp only [show (7 : Int).toNat = 7 from rfl, Nat.reduceMul, Nat.reduceEqDiff, Go.Addr.add, ↓reduceIte] at hx331_0); have qi331 : (7 < t322.length) = True := eq_true (by omega); (try rw [show ((7 : Int)).toNat = 7 from rfl] at hx331_0); replace p331 := eq_true p331; replace q331 := eq_true q331; have p332 : 0 ≤ (8 : Int) := (by omega); have q332 : 8 < (t322.length : Int) := of_decide_eq_true (by first | (with_reducible assumption) | assumption); obtain ⟨ad332, e332, hx332_0⟩ := Kd.at_int (Kd.R_reads' HO325.out).2.2 8 p332 q332; obtain rfl : ad331 = ad332 := (by injection e332); (try simp only [show (8 : Int).toNat = 8 from rfl, Nat.reduceMul, Nat.reduceEqDiff, Go.Addr.add, ↓reduceIte] at hx332_0); have qi332 : (8 < t322.length) = True := eq_true (by omega); (try rw [show ((8 : Int)).toNat = 8 from rfl] at hx332_0); replace p332 := eq_true p332; replace q332 := eq_true q332; obtain ⟨Ao19, co19, eo19⟩ := Kd.R_slice HO330.out; subst eo19; have p333 : 0 ≤ (1 : Int) := (by omega); have q333 : 1 < (t326.length : Int) := of_decide_eq_true (by first | (with_reducible assumption) | assumption); obtain ⟨ad333, e333, hx333_0⟩ := Kd.at_int (Kd.R_reads' HO330.out).2.2 1 p333 q333; cases e333; (try simp only [show (1 : Int).toNat = 1 from rfl, Nat.reduceMul, Nat.reduceEqDiff, Go.Addr.add, ↓reduceIte] at hx333_0); have qi333 : (1 < t326.length) = True := eq_true (by omega); (try rw [show ((1 : Int)).toNat = 1 from rfl] at hx333_0); replace p333 := eq_true p333; replace q333 := eq_true q333))
                      go_ret
                      exact ⟨by first | rfl | (simp [errW_none, errW_some] <;> rfl) | (simp [*, errW_none, errW_some] <;> rfl), by repeat (first | (with_reducible first | exact HB.out | apply below_alloc | apply pw_below_drewN | apply below_drew1) | exact HB.out)⟩
                    · rw [if_neg c12] at H
                      exact absurd H (by simp)
                  · rw [if_neg c11] at H
                    have c11b0 : ((t326.length : Int) == 2) = false := beq_eq_false_iff_ne.mpr c11
                    have c11b1 : ((t326.length : Int) != 2) = true := bne_iff_ne.mpr c11
                    obtain rfl := Option.some.inj H
                    go_enter Try.func43, Try.ntmps43
                    go_wp2_with (first | ((with_reducible refine gate_dst (N := 7) rfl ?_); (try (refine gate_guard (by rfl) ?_; dsimp only)); refine Kd.R_lit (Kd.int .u64) _ 23 ?hg (N := 7) ?hd (xs := ([7, 7] : List Int)) (inner := [.int .u64 7, .int .u64 7]) (ok := fun _ => True) (okp := fun _ => True) ?hr ?hp (fun _ hk => hk) trivial (Below.refl _ _) (Nat.le_refl _) (by simp) ?_; (case hd => rfl); (case hg => rfl); (case hr => first | (go_simp; done) | (go_simp; rfl)); (case hp => exact (Reps.one (show Kd.M (Kd.int .u64) _ _ _ 7 [.int .u64 7] from rfl) (Reps.one (show Kd.M (Kd.int .u64) _ _ _ 7 [.int .u64 7] from rfl) (Reps.none _ _)))); intro v320 w20 ho21 hb hg_ hnew_; clear hg_ hnew_; (first | rw [← Ny319.out] at ho21 | (simp only [Int.reduceToNat] at ho21; rw [← Ny319.out] at ho21)); have n0_ := Aside0.mk (Kd.R_lower ho21 (below_size (by repeat (first | (with_reducible first | exact HB.out | apply below_alloc | apply pw_below_drewN | apply below_drew1) | exact HB.out)))); have n1_ := Aside0.mk (below_step (by repeat (first | (with_reducible first | exact HB.out | apply below_alloc | apply pw_below_drewN | apply below_drew1) | exact HB.out)) hb); clear HB; have HO321 := n0_; have HB := n1_; clear n0_ n1_; clear hb ho21; obtain ⟨Ao22, co22, eo22⟩ := Kd.R_slice HO321.out; subst eo22) | ((with_reducible refine gate_callee (f := 41) rfl ?_); refine goesL_ (some 8) rfl rfl Try.func41 (by kernel_rfl) rfl #[.slice Ao22 y319.length co22] rfl (by (try simp only [List.map_toArray, List.map_cons, List.map_nil]); first | done | rfl | (simp only [List.length_drop, List.length_take]; rfl)) ?_; (with_reducible refine (pack_Put.calls _ _ y319 t322 t323 _ ?side1 ?side2 A1.out).mono ?_); (case side1 => repeat (first | exact (Kd.R_reads' HO321.out).2.2 | (with_reducible refine Kd.C_alloc ?_ _) | (with_reducible refine Kd.C_drewN ?_ _) | (with_reducible refine Kd.C_drew ?_))); (case side2 => exact (Kd.R_reads' HO321.out).2.1); rintro e w23 ⟨v324, rfl, ho0, hb⟩; refine ⟨_, rfl, ?_⟩; have n0_ := Aside0.mk (Kd.R_below (by (with_reducible repeat (first | apply Kd.R_alloc | apply Kd.R_drewN | apply Kd.R_drew)); exact HO321.out) hb); have n1_ := Aside0.mk (Kd.R_lower ho0 (below_size (by repeat (first | (with_reducible first | exact HB.out | apply below_alloc | apply pw_below_drewN | apply below_drew1) | exact HB.out)))); have n2_ := Aside0.mk (below_step (by repeat (first | (with_reducible first | exact HB.out | apply below_alloc | apply pw_below_drewN | apply below_drew1) | exact HB.out)) hb); clear HO321; clear HB; have HO321 := n0_; have HO325 := n1_; have HB := n2_; clear n0_ n1_ n2_; (try clear hb); (try clear hb2); (try clear hk); (try clear hi); (try clear ho0); obtain ⟨Ao24, co24, eo24⟩ := Kd.R_slice HO325.out; subst eo24) | ((with_reducible refine gate_callee (f := 44) rfl ?_); refine goesL_ (some 13) rfl rfl Try.func44 (by kernel_rfl) rfl #[.slice Ao24 t322.length co24, .int .i64 2] rfl (by (try simp only [List.map_toArray, List.map_cons, List.map_nil]); first | done | rfl | (simp only [List.length_drop, List.length_take]; rfl)) ?_; (with_reducible refine (pack_Get.calls _ _ t322 2 t326 t327 t328 _ ?side1 ?side2 A2.out).mono ?_); (case side1 => repeat (first | exact (Kd.R_reads' HO325.out).2.2 | (with_reducible refine Kd.C_alloc ?_ _) | (with_reducible refine Kd.C_drewN ?_ _) | (with_reducible refine Kd.C_drew ?_))); (case side2 => exact (Kd.R_reads' HO325.out).2.1); rintro e w25 ⟨v329, rfl, ho0, hb⟩; refine ⟨_, rfl, ?_⟩; have n0_ := Aside0.mk (Kd.R_elder' (by (with_reducible repeat (first | apply Kd.R_alloc | apply Kd.R_drewN | apply Kd.R_drew)); exact HO321.out) (Kd.R_base ho0) hb); have n1_ := Aside0.mk (Kd.R_below (by (with_reducible repeat (first | apply Kd.R_alloc | apply Kd.R_drewN | apply Kd.R_drew)); exact HO325.out) hb); have n2_ := Aside0.mk (Kd.R_lower (Kd.R_new' ho0 (Kd.R_lt (by (with_reducible repeat (first | apply Kd.R_alloc | apply Kd.R_drewN | apply Kd.R_drew)); exact HO321.out))) (below_size (by repeat (first | (with_reducible first | exact HB.out | apply below_alloc | apply pw_below_drewN | apply below_drew1) | exact HB.out)))); have n3_ := Aside0.mk (below_step (by repeat (first | (with_reducible first | exact HB.out | apply below_alloc | apply pw_below_drewN | apply below_drew1) | exact HB.out)) hb); clear HO321; clear HO325; clear HB; have HO321 := n0_; have HO325 := n1_; have HO330 := n2_; have HB := n3_; clear n0_ n1_ n2_ n3_; (try clear hb); (try clear hb2); (try clear hk); (try clear hi); (try clear ho0); have p331 : 0 ≤ (7 : Int) := (by omega); have q331 : 7 < (t322.length : Int) := of_decide_eq_true (by first | (with_reducible assumption) | assumption); obtain ⟨ad331, e331, hx331_0⟩ := Kd.at_int (Kd.R_reads' HO325.out).2.2 7 p331 q331; cases e331; (try simp only [show (7 : Int).toNat = 7 from rfl, Nat.reduceMul, Nat.reduceEqDiff, Go.Addr.add, ↓reduceIte] at hx331_0); have qi331 : (7 < t322.length) = True := eq_true (by omega); (try rw [show ((7 : Int)).toNat = 7 from rfl] at hx331_0); replace p331 := eq_true p331; replace q331 := eq_true q331; have p332 : 0 ≤ (8 : Int) := (by omega); have q332 : 8 < (t322.length : Int) := of_decide_eq_true (by first | (with_reducible assumption) | assumption); obtain ⟨ad332, e332, hx332_0⟩ := Kd.at_int (Kd.R_reads' HO325.out).2.2 8 p332 q332; obtain rfl : ad331 = ad332 := (by injection e332); (try simp only [show (8 : Int).toNat = 8 from rfl, Nat.reduceMul, Nat.reduceEqDiff, Go.Addr.add, ↓reduceIte] at hx332_0); have qi332 : (8 < t322.length) = True := eq_true (by omega); (try rw [show ((8 : Int)).toNat = 8 from rfl] at hx332_0); replace p332 := eq_true p332; replace q332 := eq_true q332; obtain ⟨Ao26, co26, eo26⟩ := Kd.R_slice HO330.out; subst eo26))
                    go_ret
                    exact ⟨by first | rfl | (simp [errW_none, errW_some] <;> rfl) | (simp [*, errW_none, errW_some] <;> rfl), by repeat (first | (with_reducible first | exact HB.out | apply below_alloc | apply pw_below_drewN | apply below_drew1) | exact HB.out)⟩
                · rw [if_neg c10] at H
                  have c10b0 : (t327 == 9) = false := beq_eq_false_iff_ne.mpr c10
                  have c10b1 : (t327 != 9) = true := bne_iff_ne.mpr c10
                  obtain rfl := Option.some.inj H
                  go_enter Try.func43, Try.ntmps43
                  go_wp2_with (first | ((with_reducible refine gate_dst (N := 7) rfl ?_); (try (refine gate_guard (by rfl) ?_; dsimp only)); refine Kd.R_lit (Kd.int .u64) _ 23 ?hg (N := 7) ?hd (xs := ([7, 7] : List Int)) (inner := [.int .u64 7, .int .u64 7]) (ok := fun _ => True) (okp := fun _ => True) ?hr ?hp (fun _ hk => hk) trivial (Below.refl _ _) (Nat.le_refl _) (by simp) ?_; (case hd => rfl); (case hg => rfl); (case hr => first | (go_simp; done) | (go_simp; rfl)); (case hp => exact (Reps.one (show Kd.M (Kd.int .u64) _ _ _ 7 [.int .u64 7] from rfl) (Reps.one (show Kd.M (Kd.int .u64) _ _ _ 7 [.int .u64 7] from rfl) (Reps.none _ _)))); intro v320 w27 ho28 hb hg_ hnew_; clear hg_ hnew_; (first | rw [← Ny319.out] at ho28 | (simp only [Int.reduceToNat] at ho28; rw [← Ny319.out] at ho28)); have n0_ := Aside0.mk (Kd.R_lower ho28 (below_size (by repeat (first | (with_reducible first | exact HB.out | apply below_alloc | apply pw_below_drewN | apply below_drew1) | exact HB.out)))); have n1_ := Aside0.mk (below_step (by repeat (first | (with_reducible first | exact HB.out | apply below_alloc | apply pw_below_drewN | apply below_drew1) | exact HB.out)) hb); clear HB; have HO321 := n0_; have HB := n1_; clear n0_ n1_; clear hb ho28; obtain ⟨Ao29, co29, eo29⟩ := Kd.R_slice HO321.out; subst eo29) | ((with_reducible refine gate_callee (f := 41) rfl ?_); refine goesL_ (some 8) rfl rfl Try.func41 (by kernel_rfl) rfl #[.slice Ao29 y319.length co29] rfl (by (try simp only [List.map_toArray, List.map_cons, List.map_nil]); first | done | rfl | (simp only [List.length_drop, List.length_take]; rfl)) ?_; (with_reducible refine (pack_Put.calls _ _ y319 t322 t323 _ ?side1 ?side2 A1.out).mono ?_); (case side1 => repeat (first | exact (Kd.R_reads' HO321.out).2.2 | (with_reducible refine Kd.C_alloc ?_ _) | (with_reducible refine Kd.C_drewN ?_ _) | (with_reducible refine Kd.C_drew ?_))); (case side2 => exact (Kd.R_reads' HO321.out).2.1); rintro e w30 ⟨v324, rfl, ho0, hb⟩; refine ⟨_, rfl, ?_⟩; have n0_ := Aside0.mk (Kd.R_below (by (with_reducible repeat (first | apply Kd.R_alloc | apply Kd.R_drewN | apply Kd.R_drew)); exact HO321.out) hb); have n1_ := Aside0.mk (Kd.R_lower ho0 (below_size (by repeat (first | (with_reducible first | exact HB.out | apply below_alloc | apply pw_below_drewN | apply below_drew1) | exact HB.out)))); have n2_ := Aside0.mk (below_step (by repeat (first | (with_reducible first | exact HB.out | apply below_alloc | apply pw_below_drewN | apply below_drew1) | exact HB.out)) hb); clear HO321; clear HB; have HO321 := n0_; have HO325 := n1_; have HB := n2_; clear n0_ n1_ n2_; (try clear hb); (try clear hb2); (try clear hk); (try clear hi); (try clear ho0); obtain ⟨Ao31, co31, eo31⟩ := Kd.R_slice HO325.out; subst eo31) | ((with_reducible refine gate_callee (f := 44) rfl ?_); refine goesL_ (some 13) rfl rfl Try.func44 (by kernel_rfl) rfl #[.slice Ao31 t322.length co31, .int .i64 2] rfl (by (try simp only [List.map_toArray, List.map_cons, List.map_nil]); first | done | rfl | (simp only [List.length_drop, List.length_take]; rfl)) ?_; (with_reducible refine (pack_Get.calls _ _ t322 2 t326 t327 t328 _ ?side1 ?side2 A2.out).mono ?_); (case side1 => repeat (first | exact (Kd.R_reads' HO325.out).2.2 | (with_reducible refine Kd.C_alloc ?_ _) | (with_reducible refine Kd.C_drewN ?_ _) | (with_reducible refine Kd.C_drew ?_))); (case side2 => exact (Kd.R_reads' HO325.out).2.1); rintro e w32 ⟨v329, rfl, ho0, hb⟩; refine ⟨_, rfl, ?_⟩; have n0_ := Aside0.mk (Kd.R_elder' (by (with_reducible repeat (first | apply Kd.R_alloc | apply Kd.R_drewN | apply Kd.R_drew)); exact HO321.out) (Kd.R_base ho0) hb); have n1_ := Aside0.mk (Kd.R_below (by (with_reducible repeat (first | apply Kd.R_alloc | apply Kd.R_drewN | apply Kd.R_drew)); exact HO325.out) hb); have n2_ := Aside0.mk (Kd.R_lower (Kd.R_new' ho0 (Kd.R_lt (by (with_reducible repeat (first | apply Kd.R_alloc | apply Kd.R_drewN | apply Kd.R_drew)); exact HO321.out))) (below_size (by repeat (first | (with_reducible first | exact HB.out | apply below_alloc | apply pw_below_drewN | apply below_drew1) | exact HB.out)))); have n3_ := Aside0.mk (below_step (by repeat (first | (with_reducible first | exact HB.out | apply below_alloc | apply pw_below_drewN | apply below_drew1) | exact HB.out)) hb); clear HO321; clear HO325; clear HB; have HO321 := n0_; have HO325 := n1_; have HO330 := n2_; have HB := n3_; clear n0_ n1_ n2_ n3_; (try clear hb); (try clear hb2); (try clear hk); (try clear hi); (try clear ho0); have p331 : 0 ≤ (7 : Int) := (by omega); have q331 : 7 < (t322.length : Int) := of_decide_eq_true (by first | (with_reducible assumption) | assumption); obtain ⟨ad331, e331, hx331_0⟩ := Kd.at_int (Kd.R_reads' HO325.out).2.2 7 p331 q331; cases e331; (try simp only [show (7 : Int).toNat = 7 from rfl, Nat.reduceMul, Nat.reduceEqDiff, Go.Addr.add, ↓reduceIte] at hx331_0); have qi331 : (7 < t322.length) = True := eq_true (by omega); (try rw [show ((7 : Int)).toNat = 7 from rfl] at hx331_0); replace p331 := eq_true p331; replace q331 := eq_true q331; have p332 : 0 ≤ (8 : Int) := (by omega); have q332 : 8 < (t322.length : Int) := of_decide_eq_true (by first | (with_reducible assumption) | assumption); obtain ⟨ad332, e332, hx332_0⟩ := Kd.at_int (Kd.R_reads' HO325.out).2.2 8 p332 q332; obtain rfl : ad331 = ad332 := (by injection e332); (try simp only [show (8 : Int).toNat = 8 from rfl, Nat.reduceMul, Nat.reduceEqDiff, Go.Addr.add, ↓reduceIte] at hx332_0); have qi332 : (8 < t322.length) = True := eq_true (by omega); (try rw [show ((8 : Int)).toNat = 8 from rfl] at hx332_0); replace p332 := eq_true p332; replace q332 := eq_true q332))
                  go_ret
                  exact ⟨by first | rfl | (simp [errW_none, errW_some] <;> rfl) | (simp [*, errW_none, errW_some] <;> rfl), by repeat (first | (with_reducible first | exact HB.out | apply below_alloc | apply pw_below_drewN | apply below_drew1) | exact HB.out)⟩
              · rw [if_neg c9] at H
                have c9b0 : ((rd t322 8) == 0) = false := beq_eq_false_iff_ne.mpr c9
                have c9b1 : ((rd t322 8) != 0) = true := bne_iff_ne.mpr c9
                obtain rfl := Option.some.inj H
                go_enter Try.func43, Try.ntmps43
                go_wp2_with (first | ((with_reducible refine gate_dst (N := 7) rfl ?_); (try (refine gate_guard (by rfl) ?_; dsimp only)); refine Kd.R_lit (Kd.int .u64) _ 23 ?hg (N := 7) ?hd (xs := ([7, 7] : List Int)) (inner := [.int .u64 7, .int .u64 7]) (ok := fun _ => True) (okp := fun _ => True) ?hr ?hp (fun _ hk => hk) trivial (Below.refl _ _) (Nat.le_refl _) (by simp) ?_; (case hd => rfl); (case hg => rfl); (case hr => first | (go_simp; done) | (go_simp; rfl)); (case hp => exact (Reps.one (show Kd.M (Kd.int .u64) _ _ _ 7 [.int .u64 7] from rfl) (Reps.one (show Kd.M (Kd.int .u64) _ _ _ 7 [.int .u64 7] from rfl) (Reps.none _ _)))); intro v320 w33 ho34 hb hg_ hnew_; clear hg_ hnew_; (first | rw [← Ny319.out] at ho34 | (simp only [Int.reduceToNat] at ho34; rw [← Ny319.out] at ho34)); have n0_ := Aside0.mk (Kd.R_lower ho34 (below_size (by repeat (first | (with_reducible first | exact HB.out | apply below_alloc | apply pw_below_drewN | apply below_drew1) | exact HB.out)))); have n1_ := Aside0.mk (below_step (by repeat (first | (with_reducible first | exact HB.out | apply below_alloc | apply pw_below_drewN | apply below_drew1) | exact HB.out)) hb); clear HB; have HO321 := n0_; have HB := n1_; clear n0_ n1_; clear hb ho34; obtain ⟨Ao35, co35, eo35⟩ := Kd.R_slice HO321.out; subst eo35) | ((with_reducible refine gate_callee (f := 41) rfl ?_); refine goesL_ (some 8) rfl rfl Try.func41 (by kernel_rfl) rfl #[.slice Ao35 y319.length co35] rfl (by (try simp only [List.map_toArray, List.map_cons, List.map_nil]); first | done | rfl | (simp only [List.length_drop, List.length_take]; rfl)) ?_; (with_reducible refine (pack_Put.calls _ _ y319 t322 t323 _ ?side1 ?side2 A1.out).mono ?_); (case side1 => repeat (first | exact (Kd.R_reads' HO321.out).2.2 | (with_reducible refine Kd.C_alloc ?_ _) | (with_reducible refine Kd.C_drewN ?_ _) | (with_reducible refine Kd.C_drew ?_))); (case side2 => exact (Kd.R_reads' HO321.out).2.1); rintro e w36 ⟨v324, rfl, ho0, hb⟩; refine ⟨_, rfl, ?_⟩; have n0_ := Aside0.mk (Kd.R_below (by (with_reducible repeat (first | apply Kd.R_alloc | apply Kd.R_drewN | apply Kd.R_drew)); exact HO321.out) hb); have n1_ := Aside0.mk (Kd.R_lower ho0 (below_size (by repeat (first | (with_reducible first | exact HB.out | apply below_alloc | apply pw_below_drewN | apply below_drew1) | exact HB.out)))); have n2_ := Aside0.mk (below_step (by repeat (first | (with_reducible first | exact HB.out | apply below_alloc | apply pw_below_drewN | apply below_drew1) | exact HB.out)) hb); clear HO321; clear HB; have HO321 := n0_; have HO325 := n1_; have HB := n2_; clear n0_ n1_ n2_; (try clear hb); (try clear hb2); (try clear hk); (try clear hi); (try clear ho0); obtain ⟨Ao37, co37, eo37⟩ := Kd.R_slice HO325.out; subst eo37) | ((with_reducible refine gate_callee (f := 44) rfl ?_); refine goesL_ (some 13) rfl rfl Try.func44 (by kernel_rfl) rfl #[.slice Ao37 t322.length co37, .int .i64 2] rfl (by (try simp only [List.map_toArray, List.map_cons, List.map_nil]); first | done | rfl | (simp only [List.length_drop, List.length_take]; rfl)) ?_; (with_reducible refine (pack_Get.calls _ _ t322 2 t326 t327 t328 _ ?side1 ?side2 A2.out).mono ?_); (case side1 => repeat (first | exact (Kd.R_reads' HO325.out).2.2 | (with_reducible refine Kd.C_alloc ?_ _) | (with_reducible refine Kd.C_drewN ?_ _) | (with_reducible refine Kd.C_drew ?_))); (case side2 => exact (Kd.R_reads' HO325.out).2.1); rintro e w38 ⟨v329, rfl, ho0, hb⟩; refine ⟨_, rfl, ?_⟩; have n0_ := Aside0.mk (Kd.R_elder' (by (with_reducible repeat (first | apply Kd.R_alloc | apply Kd.R_drewN | apply Kd.R_drew)); exact HO321.out) (Kd.R_base ho0) hb); have n1_ := Aside0.mk (Kd.R_below (by (with_reducible repeat (first | apply Kd.R_alloc | apply Kd.R_drewN | apply Kd.R_drew)); exact HO325.out) hb); have n2_ := Aside0.mk (Kd.R_lower (Kd.R_new' ho0 (Kd.R_lt (by (with_reducible repeat (first | apply Kd.R_alloc | apply Kd.R_drewN | apply Kd.R_drew)); exact HO321.out))) (below_size (by repeat (first | (with_reducible first | exact HB.out | apply below_alloc | apply pw_below_drewN | apply below_drew1) | exact HB.out)))); have n3_ := Aside0.mk (below_step (by repeat (first | (with_reducible first | exact HB.out | apply below_alloc | apply pw_below_drewN | apply below_drew1) | exact HB.out)) hb); clear HO321; clear HO325; clear HB; have HO321 := n0_; have HO325 := n1_; have HO330 := n2_; have HB := n3_; clear n0_ n1_ n2_ n3_; (try clear hb); (try clear hb2); (try clear hk); (try clear hi); (try clear ho0); have p331 : 0 ≤ (7 : Int) := (by omega); have q331 : 7 < (t322.length : Int) := of_decide_eq_true (by first | (with_reducible assumption) | assumption); obtain ⟨ad331, e331, hx331_0⟩ := Kd.at_int (Kd.R_reads' HO325.out).2.2 7 p331 q331; cases e331; (try simp only [show (7 : Int).toNat = 7 from rfl, Nat.reduceMul, Nat.reduceEqDiff, Go.Addr.add, ↓reduceIte] at hx331_0); have qi331 : (7 < t322.length) = True := eq_true (by omega); (try rw [show ((7 : Int)).toNat = 7 from rfl] at hx331_0); replace p331 := eq_true p331; replace q331 := eq_true q331; have p332 : 0 ≤ (8 : Int) := (by omega); have q332 : 8 < (t322.length : Int) := of_decide_eq_true (by first | (with_reducible assumption) | assumption); obtain ⟨ad332, e332, hx332_0⟩ := Kd.at_int (Kd.R_reads' HO325.out).2.2 8 p332 q332; obtain rfl : ad331 = ad332 := (by injection e332); (try simp only [show (8 : Int).toNat = 8 from rfl, Nat.reduceMul, Nat.reduceEqDiff, Go.Addr.add, ↓reduceIte] at hx332_0); have qi332 : (8 < t322.length) = True := eq_true (by omega); (try rw [show ((8 : Int)).toNat = 8 from rfl] at hx332_0); replace p332 := eq_true p332; replace q332 := eq_true q332))
                go_ret
                exact ⟨by first | rfl | (simp [errW_none, errW_some] <;> rfl) | (simp [*, errW_none, errW_some] <;> rfl), by repeat (first | (with_reducible first | exact HB.out | apply below_alloc | apply pw_below_drewN | apply below_drew1) | exact HB.out)⟩
            · rw [if_neg c8] at H
              exact absurd H (by simp)
          · rw [if_neg c7] at H
            have c7b0 : ((rd t322 7) == 7) = false := beq_eq_false_iff_ne.mpr c7
            have c7b1 : ((rd t322 7) != 7) = true := bne_iff_ne.mpr c7
            obtain rfl := Option.some.inj H
            go_enter Try.func43, Try.ntmps43
            go_wp2_with (first | ((with_reducible refine gate_dst (N := 7) rfl ?_); (try (refine gate_guard (by rfl) ?_; dsimp only)); refine Kd.R_lit (Kd.int .u64) _ 23 ?hg (N := 7) ?hd (xs := ([7, 7] : List Int)) (inner := [.int .u64 7, .int .u64 7]) (ok := fun _ => True) (okp := fun _ => True) ?hr ?hp (fun _ hk => hk) trivial (Below.refl _ _) (Nat.le_refl _) (by simp) ?_; (case hd => rfl); (case hg => rfl); (case hr => first | (go_simp; done) | (go_simp; rfl)); (case hp => exact (Reps.one (show Kd.M (Kd.int .u64) _ _ _ 7 [.int .u64 7] from rfl) (Reps.one (show Kd.M (Kd.int .u64) _ _ _ 7 [.int .u64 7] from rfl) (Reps.none _ _)))); intro v320 w39 ho40 hb hg_ hnew_; clear hg_ hnew_; (first | rw [← Ny319.out] at ho40 | (simp only [Int.reduceToNat] at ho40; rw [← Ny319.out] at ho40)); have n0_ := Aside0.mk (Kd.R_lower ho40 (below_size (by repeat (first | (with_reducible first | exact HB.out | apply below_alloc | apply pw_below_drewN | apply below_drew1) | exact HB.out)))); have n1_ := Aside0.mk (below_step (by repeat (first | (with_reducible first | exact HB.out | apply below_alloc | apply pw_below_drewN | apply below_drew1) | exact HB.out)) hb); clear HB; have HO321 := n0_; have HB := n1_; clear n0_ n1_; clear hb ho40; obtain ⟨Ao41, co41, eo41⟩ := Kd.R_slice HO321.out; subst eo41) | ((with_reducible refine gate_callee (f := 41) rfl ?_); refine goesL_ (some 8) rfl rfl Try.func41 (by kernel_rfl) rfl #[.slice Ao41 y319.length co41] rfl (by (try simp only [List.map_toArray, List.map_cons, List.map_nil]); first | done | rfl | (simp only [List.length_drop, List.length_take]; rfl)) ?_; (with_reducible refine (pack_Put.calls _ _ y319 t322 t323 _ ?side1 ?side2 A1.out).mono ?_); (case side1 => repeat (first | exact (Kd.R_reads' HO321.out).2.2 | (with_reducible refine Kd.C_alloc ?_ _) | (with_reducible refine Kd.C_drewN ?_ _) | (with_reducible refine Kd.C_drew ?_))); (case side2 => exact (Kd.R_reads' HO321.out).2.1); rintro e w42 ⟨v324, rfl, ho0, hb⟩; refine ⟨_, rfl, ?_⟩; have n0_ := Aside0.mk (Kd.R_below (by (with_reducible repeat (first | apply Kd.R_alloc | apply Kd.R_drewN | apply Kd.R_drew)); exact HO321.out) hb); have n1_ := Aside0.mk (Kd.R_lower ho0 (below_size (by repeat (first | (with_reducible first | exact HB.out | apply below_alloc | apply pw_below_drewN | apply below_drew1) | exact HB.out)))); have n2_ := Aside0.mk (below_step (by repeat (first | (with_reducible first | exact HB.out | apply below_alloc | apply pw_below_drewN | apply below_drew1) | exact HB.out)) hb); clear HO321; clear HB; have HO321 := n0_; have HO325 := n1_; have HB := n2_; clear n0_ n1_ n2_; (try clear hb); (try clear hb2); (try clear hk); (try clear hi); (try clear ho0); obtain ⟨Ao43, co43, eo43⟩ := Kd.R_slice HO325.out; subst eo43) | ((with_reducible refine gate_callee (f := 44) rfl ?_); refine goesL_ (some 13) rfl rfl Try.func44 (by kernel_rfl) rfl #[.slice Ao43 t322.length co43, .int .i64 2] rfl (by (try simp only [List.map_toArray, List.map_cons, List.map_nil]); first | done | rfl | (simp only [List.length_drop, List.length_take]; rfl)) ?_; (with_reducible refine (pack_Get.calls _ _ t322 2 t326 t327 t328 _ ?side1 ?side2 A2.out).mono ?_); (case side1 => repeat (first | exact (Kd.R_reads' HO325.out).2.2 | (with_reducible refine Kd.C_alloc ?_ _) | (with_reducible refine Kd.C_drewN ?_ _) | (with_reducible refine Kd.C_drew ?_))); (case side2 => exact (Kd.R_reads' HO325.out).2.1); rintro e w44 ⟨v329, rfl, ho0, hb⟩; refine ⟨_, rfl, ?_⟩; have n0_ := Aside0.mk (Kd.R_elder' (by (with_reducible repeat (first | apply Kd.R_alloc | apply Kd.R_drewN | apply Kd.R_drew)); exact HO321.out) (Kd.R_base ho0) hb); have n1_ := Aside0.mk (Kd.R_below (by (with_reducible repeat (first | apply Kd.R_alloc | apply Kd.R_drewN | apply Kd.R_drew)); exact HO325.out) hb); have n2_ := Aside0.mk (Kd.R_lower (Kd.R_new' ho0 (Kd.R_lt (by (with_reducible repeat (first | apply Kd.R_alloc | apply Kd.R_drewN | apply Kd.R_drew)); exact HO321.out))) (below_size (by repeat (first | (with_reducible first | exact HB.out | apply below_alloc | apply pw_below_drewN | apply below_drew1) | exact HB.out)))); have n3_ := Aside0.mk (below_step (by repeat (first | (with_reducible first | exact HB.out | apply below_alloc | apply pw_below_drewN | apply below_drew1) | exact HB.out)) hb); clear HO321; clear HO325; clear HB; have HO321 := n0_; have HO325 := n1_; have HO330 := n2_; have HB := n3_; clear n0_ n1_ n2_ n3_; (try clear hb); (try clear hb2); (try clear hk); (try clear hi); (try clear ho0); have p331 : 0 ≤ (7 : Int) := (by omega); have q331 : 7 < (t322.length : Int) := of_decide_eq_true (by first | (with_reducible assumption) | assumption); obtain ⟨ad331, e331, hx331_0⟩ := Kd.at_int (Kd.R_reads' HO325.out).2.2 7 p331 q331; cases e331; (try simp only [show (7 : Int).toNat = 7 from rfl, Nat.reduceMul, Nat.reduceEqDiff, Go.Addr.add, ↓reduceIte] at hx331_0); have qi331 : (7 < t322.length) = True := eq_true (by omega); (try rw [show ((7 : Int)).toNat = 7 from rfl] at hx331_0); replace p331 := eq_true p331; replace q331 := eq_true q331))
            go_ret
            exact ⟨by first | rfl | (simp [errW_none, errW_some] <;> rfl) | (simp [*, errW_none, errW_some] <;> rfl), by repeat (first | (with_reducible first | exact HB.out | apply below_alloc | apply pw_below_drewN | apply below_drew1) | exact HB.out)⟩
        · rw [if_neg c6] at H
          exact absurd H (by simp)
      · rw [if_neg c5] at H
        have c5b0 : ((t322.length : Int) == 9) = false := beq_eq_false_iff_ne.mpr c5
        have c5b1 : ((t322.length : Int) != 9) = true := bne_iff_ne.mpr c5
        obtain rfl := Option.some.inj H
        go_enter Try.func43, Try.ntmps43
        go_wp2_with (first | ((with_reducible refine gate_dst (N := 7) rfl ?_); (try (refine gate_guard (by rfl) ?_; dsimp only)); refine Kd.R_lit (Kd.int .u64) _ 23 ?hg (N := 7) ?hd (xs := ([7, 7] : List Int)) (inner := [.int .u64 7, .int .u64 7]) (ok := fun _ => True) (okp := fun _ => True) ?hr ?hp (fun _ hk => hk) trivial (Below.refl _ _) (Nat.le_refl _) (by simp) ?_; (case hd => rfl); (case hg => rfl); (case hr => first | (go_simp; done) | (go_simp; rfl)); (case hp => exact (Reps.one (show Kd.M (Kd.int .u64) _ _ _ 7 [.int .u64 7] from rfl) (Reps.one (show Kd.M (Kd.int .u64) _ _ _ 7 [.int .u64 7] from rfl) (Reps.none _ _)))); intro v320 w45 ho46 hb hg_ hnew_; clear hg_ hnew_; (first | rw [← Ny319.out] at ho46 | (simp only [Int.reduceToNat] at ho46; rw [← Ny319.out] at ho46)); have n0_ := Aside0.mk (Kd.R_lower ho46 (below_size (by repeat (first | (with_reducible first | exact HB.out | apply below_alloc | apply pw_below_drewN | apply below_drew1) | exact HB.out)))); have n1_ := Aside0.mk (below_step (by repeat (first | (with_reducible first | exact HB.out | apply below_alloc | apply pw_below_drewN | apply below_drew1) | exact HB.out)) hb); clear HB; have HO321 := n0_; have HB := n1_; clear n0_ n1_; clear hb ho46; obtain ⟨Ao47, co47, eo47⟩ := Kd.R_slice HO321.out; subst eo47) | ((with_reducible refine gate_callee (f := 41) rfl ?_); refine goesL_ (some 8) rfl rfl Try.func41 (by kernel_rfl) rfl #[.slice Ao47 y319.length co47] rfl (by (try simp only [List.map_toArray, List.map_cons, List.map_nil]); first | done | rfl | (simp only [List.length_drop, List.length_take]; rfl)) ?_; (with_reducible refine (pack_Put.calls _ _ y319 t322 t323 _ ?side1 ?side2 A1.out).mono ?_); (case side1 => repeat (first | exact (Kd.R_reads' HO321.out).2.2 | (with_reducible refine Kd.C_alloc ?_ _) | (with_reducible refine Kd.C_drewN ?_ _) | (with_reducible refine Kd.C_drew ?_))); (case side2 => exact (Kd.R_reads' HO321.out).2.1); rintro e w48 ⟨v324, rfl, ho0, hb⟩; refine ⟨_, rfl, ?_⟩; have n0_ := Aside0.mk (Kd.R_below (by (with_reducible repeat (first | apply Kd.R_alloc | apply Kd.R_drewN | apply Kd.R_drew)); exact HO321.out) hb); have n1_ := Aside0.mk (Kd.R_lower ho0 (below_size (by repeat (first | (with_reducible first | exact HB.out | apply below_alloc | apply pw_below_drewN | apply below_drew1) | exact HB.out)))); have n2_ := Aside0.mk (below_step (by repeat (first | (with_reducible first | exact HB.out | apply below_alloc | apply pw_below_drewN | apply below_drew1) | exact HB.out)) hb); clear HO321; clear HB; have HO321 := n0_; have HO325 := n1_; have HB := n2_; clear n0_ n1_ n2_; (try clear hb); (try clear hb2); (try clear hk); (try clear hi); (try clear ho0); obtain ⟨Ao49, co49, eo49⟩ := Kd.R_slice HO325.out; subst eo49) | ((with_reducible refine gate_callee (f := 44) rfl ?_); refine goesL_ (some 13) rfl rfl Try.func44 (by kernel_rfl) rfl #[.slice Ao49 t322.length co49, .int .i64 2] rfl (by (try simp only [List.map_toArray, List.map_cons, List.map_nil]); first | done | rfl | (simp only [List.length_drop, List.length_take]; rfl)) ?_; (with_reducible refine (pack_Get.calls _ _ t322 2 t326 t327 t328 _ ?side1 ?side2 A2.out).mono ?_); (case side1 => repeat (first | exact (Kd.R_reads' HO325.out).2.2 | (with_reducible refine Kd.C_alloc ?_ _) | (with_reducible refine Kd.C_drewN ?_ _) | (with_reducible refine Kd.C_drew ?_))); (case side2 => exact (Kd.R_reads' HO325.out).2.1); rintro e w50 ⟨v329, rfl, ho0, hb⟩; refine ⟨_, rfl, ?_⟩; have n0_ := Aside0.mk (Kd.R_elder' (by (with_reducible repeat (first | apply Kd.R_alloc | apply Kd.R_drewN | apply Kd.R_drew)); exact HO321.out) (Kd.R_base ho0) hb); have n1_ := Aside0.mk (Kd.R_below (by (with_reducible repeat (first | apply Kd.R_alloc | apply Kd.R_drewN | apply Kd.R_drew)); exact HO325.out) hb); have n2_ := Aside0.mk (Kd.R_lower (Kd.R_new' ho0 (Kd.R_lt (by (with_reducible repeat (first | apply Kd.R_alloc | apply Kd.R_drewN | apply Kd.R_drew)); exact HO321.out))) (below_size (by repeat (first | (with_reducible first | exact HB.out | apply below_alloc | apply pw_below_drewN | apply below_drew1) | exact HB.out)))); have n3_ := Aside0.mk (below_step (by repeat (first | (with_reducible first | exact HB.out | apply below_alloc | apply pw_below_drewN | apply below_drew1) | exact HB.out)) hb); clear HO321; clear HO325; clear HB; have HO321 := n0_; have HO325 := n1_; have HO330 := n2_; have HB := n3_; clear n0_ n1_ n2_ n3_; (try clear hb); (try clear hb2); (try clear hk); (try clear hi); (try clear ho0)))
        go_ret
        exact ⟨by first | rfl | (simp [errW_none, errW_some] <;> rfl) | (simp [*, errW_none, errW_some] <;> rfl), by repeat (first | (with_reducible first | exact HB.out | apply below_alloc | apply pw_below_drewN | apply below_drew1) | exact HB.out)⟩
    · rw [if_neg c4] at H
      have c4b0 : (t328 == 0) = false := beq_eq_false_iff_ne.mpr c4
      have c4b1 : (t328 != 0) = true := bne_iff_ne.mpr c4
      obtain rfl := Option.some.inj H
      go_enter Try.func43, Try.ntmps43
      go_wp2_with (first | ((with_reducible refine gate_dst (N := 7) rfl ?_); (try (refine gate_guard (by rfl) ?_; dsimp only)); refine Kd.R_lit (Kd.int .u64) _ 23 ?hg (N := 7) ?hd (xs := ([7, 7] : List Int)) (inner := [.int .u64 7, .int .u64 7]) (ok := fun _ => True) (okp := fun _ => True) ?hr ?hp (fun _ hk => hk) trivial (Below.refl _ _) (Nat.le_refl _) (by simp) ?_; (case hd => rfl); (case hg => rfl); (case hr => first | (go_simp; done) | (go_simp; rfl)); (case hp => exact (Reps.one (show Kd.M (Kd.int .u64) _ _ _ 7 [.int .u64 7] from rfl) (Reps.one (show Kd.M (Kd.int .u64) _ _ _ 7 [.int .u64 7] from rfl) (Reps.none _ _)))); intro v320 w51 ho52 hb hg_ hnew_; clear hg_ hnew_; (first | rw [← Ny319.out] at ho52 | (simp only [Int.reduceToNat] at ho52; rw [← Ny319.out] at ho52)); have n0_ := Aside0.mk (Kd.R_lower ho52 (below_size (by repeat (first | (with_reducible first | exact HB.out | apply below_alloc | apply pw_below_drewN | apply below_drew1) | exact HB.out)))); have n1_ := Aside0.mk (below_step (by repeat (first | (with_reducible first | exact HB.out | apply below_alloc | apply pw_below_drewN | apply below_drew1) | exact HB.out)) hb); clear HB; have HO321 := n0_; have HB := n1_; clear n0_ n1_; clear hb ho52; obtain ⟨Ao53, co53, eo53⟩ := Kd.R_slice HO321.out; subst eo53) | ((with_reducible refine gate_callee (f := 41) rfl ?_); refine goesL_ (some 8) rfl rfl Try.func41 (by kernel_rfl) rfl #[.slice Ao53 y319.length co53] rfl (by (try simp only [List.map_toArray, List.map_cons, List.map_nil]); first | done | rfl | (simp only [List.length_drop, List.length_take]; rfl)) ?_; (with_reducible refine (pack_Put.calls _ _ y319 t322 t323 _ ?side1 ?side2 A1.out).mono ?_); (case side1 => repeat (first | exact (Kd.R_reads' HO321.out).2.2 | (with_reducible refine Kd.C_alloc ?_ _) | (with_reducible refine Kd.C_drewN ?_ _) | (with_reducible refine Kd.C_drew ?_))); (case side2 => exact (Kd.R_reads' HO321.out).2.1); rintro e w54 ⟨v324, rfl, ho0, hb⟩; refine ⟨_, rfl, ?_⟩; have n0_ := Aside0.mk (Kd.R_below (by (with_reducible repeat (first | apply Kd.R_alloc | apply Kd.R_drewN | apply Kd.R_drew)); exact HO321.out) hb); have n1_ := Aside0.mk (Kd.R_lower ho0 (below_size (by repeat (first | (with_reducible first | exact HB.out | apply below_alloc | apply pw_below_drewN | apply below_drew1) | exact HB.out)))); have n2_ := Aside0.mk (below_step (by repeat (first | (with_reducible first | exact HB.out | apply below_alloc | apply pw_below_drewN | apply below_drew1) | exact HB.out)) hb); clear HO321; clear HB; have HO321 := n0_; have HO325 := n1_; have HB := n2_; clear n0_ n1_ n2_; (try clear hb); (try clear hb2); (try clear hk); (try clear hi); (try clear ho0); obtain ⟨Ao55, co55, eo55⟩ := Kd.R_slice HO325.out; subst eo55) | ((with_reducible refine gate_callee (f := 44) rfl ?_); refine goesL_ (some 13) rfl rfl Try.func44 (by kernel_rfl) rfl #[.slice Ao55 t322.length co55, .int .i64 2] rfl (by (try simp only [List.map_toArray, List.map_cons, List.map_nil]); first | done | rfl | (simp only [List.length_drop, List.length_take]; rfl)) ?_; (with_reducible refine (pack_Get.calls _ _ t322 2 t326 t327 t328 _ ?side1 ?side2 A2.out).mono ?_); (case side1 => repeat (first | exact (Kd.R_reads' HO325.out).2.2 | (with_reducible refine Kd.C_alloc ?_ _) | (with_reducible refine Kd.C_drewN ?_ _) | (with_reducible refine Kd.C_drew ?_))); (case side2 => exact (Kd.R_reads' HO325.out).2.1); rintro e w56 ⟨v329, rfl, ho0, hb⟩; refine ⟨_, rfl, ?_⟩; have n0_ := Aside0.mk (Kd.R_elder' (by (with_reducible repeat (first | apply Kd.R_alloc | apply Kd.R_drewN | apply Kd.R_drew)); exact HO321.out) (Kd.R_base ho0) hb); have n1_ := Aside0.mk (Kd.R_below (by (with_reducible repeat (first | apply Kd.R_alloc | apply Kd.R_drewN | apply Kd.R_drew)); exact HO325.out) hb); have n2_ := Aside0.mk (Kd.R_lower (Kd.R_new' ho0 (Kd.R_lt (by (with_reducible repeat (first | apply Kd.R_alloc | apply Kd.R_drewN | apply Kd.R_drew)); exact HO321.out))) (below_size (by repeat (first | (with_reducible first | exact HB.out | apply below_alloc | apply pw_below_drewN | apply below_drew1) | exact HB.out)))); have n3_ := Aside0.mk (below_step (by repeat (first | (with_reducible first | exact HB.out | apply below_alloc | apply pw_below_drewN | apply below_drew1) | exact HB.out)) hb); clear HO321; clear HO325; clear HB; have HO321 := n0_; have HO325 := n1_; have HO330 := n2_; have HB := n3_; clear n0_ n1_ n2_ n3_; (try clear hb); (try clear hb2); (try clear hk); (try clear hi); (try clear ho0)))
      go_ret
      exact ⟨by first | rfl | (simp [errW_none, errW_some] <;> rfl) | (simp [*, errW_none, errW_some] <;> rfl), by repeat (first | (with_reducible first | exact HB.out | apply below_alloc | apply pw_below_drewN | apply below_drew1) | exact HB.out)⟩
  · rw [if_neg c3] at H
    have c3b0 : (t323 == 0) = false := beq_eq_false_iff_ne.mpr c3
    have c3b1 : (t323 != 0) = true := bne_iff_ne.mpr c3
    obtain rfl := Option.some.inj H
    go_enter Try.func43, Try.ntmps43
    go_wp2_with (first | ((with_reducible refine gate_dst (N := 7) rfl ?_); (try (refine gate_guard (by rfl) ?_; dsimp only)); refine Kd.R_lit (Kd.int .u64) _ 23 ?hg (N := 7) ?hd (xs := ([7, 7] : List Int)) (inner := [.int .u64 7, .int .u64 7]) (ok := fun _ => True) (okp := fun _ => True) ?hr ?hp (fun _ hk => hk) trivial (Below.refl _ _) (Nat.le_refl _) (by simp) ?_; (case hd => rfl); (case hg => rfl); (case hr => first | (go_simp; done) | (go_simp; rfl)); (case hp => exact (Reps.one (show Kd.M (Kd.int .u64) _ _ _ 7 [.int .u64 7] from rfl) (Reps.one (show Kd.M (Kd.int .u64) _ _ _ 7 [.int .u64 7] from rfl) (Reps.none _ _)))); intro v320 w57 ho58 hb hg_ hnew_; clear hg_ hnew_; (first | rw [← Ny319.out] at ho58 | (simp only [Int.reduceToNat] at ho58; rw [← Ny319.out] at ho58)); have n0_ := Aside0.mk (Kd.R_lower ho58 (below_size (by repeat (first | (with_reducible first | exact HB.out | apply below_alloc | apply pw_below_drewN | apply below_drew1) | exact HB.out)))); have n1_ := Aside0.mk (below_step (by repeat (first | (with_reducible first | exact HB.out | apply below_alloc | apply pw_below_drewN | apply below_drew1) | exact HB.out)) hb); clear HB; have HO321 := n0_; have HB := n1_; clear n0_ n1_; clear hb ho58; obtain ⟨Ao59, co59, eo59⟩ := Kd.R_slice HO321.out; subst eo59) | ((with_reducible refine gate_callee (f := 41) rfl ?_); refine goesL_ (some 8) rfl rfl Try.func41 (by kernel_rfl) rfl #[.slice Ao59 y319.length co59] rfl (by (try simp only [List.map_toArray, List.map_cons, List.map_nil]); first | done | rfl | (simp only [List.length_drop, List.length_take]; rfl)) ?_; (with_reducible refine (pack_Put.calls _ _ y319 t322 t323 _ ?side1 ?side2 A1.out).mono ?_); (case side1 => repeat (first | exact (Kd.R_reads' HO321.out).2.2 | (with_reducible refine Kd.C_alloc ?_ _) | (with_reducible refine Kd.C_drewN ?_ _) | (with_reducible refine Kd.C_drew ?_))); (case side2 => exact (Kd.R_reads' HO321.out).2.1); rintro e w60 ⟨v324, rfl, ho0, hb⟩; refine ⟨_, rfl, ?_⟩; have n0_ := Aside0.mk (Kd.R_below (by (with_reducible repeat (first | apply Kd.R_alloc | apply Kd.R_drewN | apply Kd.R_drew)); exact HO321.out) hb); have n1_ := Aside0.mk (Kd.R_lower ho0 (below_size (by repeat (first | (with_reducible first | exact HB.out | apply below_alloc | apply pw_below_drewN | apply below_drew1) | exact HB.out)))); have n2_ := Aside0.mk (below_step (by repeat (first | (with_reducible first | exact HB.out | apply below_alloc | apply pw_below_drewN | apply below_drew1) | exact HB.out)) hb); clear HO321; clear HB; have HO321 := n0_; have HO325 := n1_; have HB := n2_; clear n0_ n1_ n2_; (try clear hb); (try clear hb2); (try clear hk); (try clear hi); (try clear ho0); obtain ⟨Ao61, co61, eo61⟩ := Kd.R_slice HO325.out; subst eo61) | ((with_reducible refine gate_callee (f := 44) rfl ?_); refine goesL_ (some 13) rfl rfl Try.func44 (by kernel_rfl) rfl #[.slice Ao61 t322.length co61, .int .i64 2] rfl (by (try simp only [List.map_toArray, List.map_cons, List.map_nil]); first | done | rfl | (simp only [List.length_drop, List.length_take]; rfl)) ?_; (with_reducible refine (pack_Get.calls _ _ t322 2 t326 t327 t328 _ ?side1 ?side2 A2.out).mono ?_); (case side1 => repeat (first | exact (Kd.R_reads' HO325.out).2.2 | (with_reducible refine Kd.C_alloc ?_ _) | (with_reducible refine Kd.C_drewN ?_ _) | (with_reducible refine Kd.C_drew ?_))); (case side2 => exact (Kd.R_reads' HO325.out).2.1); rintro e w62 ⟨v329, rfl, ho0, hb⟩; refine ⟨_, rfl, ?_⟩; have n0_ := Aside0.mk (Kd.R_elder' (by (with_reducible repeat (first | apply Kd.R_alloc | apply Kd.R_drewN | apply Kd.R_drew)); exact HO321.out) (Kd.R_base ho0) hb); have n1_ := Aside0.mk (Kd.R_below (by (with_reducible repeat (first | apply Kd.R_alloc | apply Kd.R_drewN | apply Kd.R_drew)); exact HO325.out) hb); have n2_ := Aside0.mk (Kd.R_lower (Kd.R_new' ho0 (Kd.R_lt (by (with_reducible repeat (first | apply Kd.R_alloc | apply Kd.R_drewN | apply Kd.R_drew)); exact HO321.out))) (below_size (by repeat (first | (with_reducible first | exact HB.out | apply below_alloc | apply pw_below_drewN | apply below_drew1) | exact HB.out)))); have n3_ := Aside0.mk (below_step (by repeat (first | (with_reducible first | exact HB.out | apply below_alloc | apply pw_below_drewN | apply below_drew1) | exact HB.out)) hb); clear HO321; clear HO325; clear HB; have HO321 := n0_; have HO325 := n1_; have HO330 := n2_; have HB := n3_; clear n0_ n1_ n2_ n3_; (try clear hb); (try clear hb2); (try clear hk); (try clear hi); (try clear ho0)))
    go_ret
    exact ⟨by first | rfl | (simp [errW_none, errW_some] <;> rfl) | (simp [*, errW_none, errW_some] <;> rfl), by repeat (first | (with_reducible first | exact HB.out | apply below_alloc | apply pw_below_drewN | apply below_drew1) | exact HB.out)⟩

end Go.Proofs.Ytmlbppfcpejlpaa.X

-- Printed by this session's own program (wip/xprint.py) over the translation; its external functions are hand-written. Lean checks it.
namespace Go.Proofs.Ytmlbppfcpejlpaa.X
open Go.RowKit Go.Proofs.YtmlbppfcpejlpaaW.PrintWords Go.Proofs.YtmlbppfcpejlpaaW.PrintLast Go.Proofs.YtmlbppfcpejlpaaW.PrintMore
attribute [local go_sem] max2_int min2_int max_two min_two max_three min_three max_four min_four   -- for this text's walks alone
set_option linter.unusedVariables false
set_option linter.unusedSimpArgs false

/-! ### ricklaw06_PackSame: function 14 -/
def ricklaw06_PackSame.l0 : Nat → Int → Int → Int → List Int → Int → Option (Bool)
  | 0, _, _, _, _, _ => none
  | k + 1, x0, x2, x7, x8, x9 => if x9 < x7 then (if 0 ≤ x9 then (if x9 < (x8.length : Int) then (ricklaw06_PackSame.l0 k x0 x2 x7 (x8.set (x9 : Int).toNat x0) (wrap64 (x9 + 1))) else (none)) else (none)) else ((pack_Put.f x8).bind fun bt389 => (if 0 ≤ (wrap64 (Int.tmod (IntKind.u64.wrap (x2)) 64)) then ((pack_Put.f (([Go.bits .andNot .u64 x0 (shl .u64 1 (wrap64 (Int.tmod (IntKind.u64.wrap (x2)) 64))), Go.bits .or .u64 (Go.bits .andNot .u64 x0 (shl .u64 1 (wrap64 (Int.tmod (IntKind.u64.wrap (x2)) 64)))) (shl .u64 1 (wrap64 (Int.tmod (IntKind.u64.wrap (x2)) 64)))] : List Int))).bind fun bt396 => ((ricklaw06_puts.f).bind fun t400 => (if t400 = true then (if bt389.2 = 0 then (if (bt389.1.length : Int) = 9 then (if 8 < (bt389.1.length : Int) then (if (rd bt389.1 8) = 0 then (if bt396.2 = 0 then (if (bt396.1.length : Int) = (wrap64 (9 + (wrap64 (Int.tdiv (wrap64 ((wrap64 (2 * (wrap64 ((wrap64 (Int.tmod (IntKind.u64.wrap (x2)) 64)) + 1)))) + 7)) 8)))) then (if 8 < (bt396.1.length : Int) then (some ((wrap64 (rd bt396.1 8)) == (wrap64 ((wrap64 (Int.tmod (IntKind.u64.wrap (x2)) 64)) + 1)))) else (none)) else (some false)) else (some false)) else (some false)) else (none)) else (some false)) else (some false)) else (some false)))) else (none)))
def ricklaw06_PackSame.f (k : Nat) (a0 : Int) (a1 : Int) (a2 : Int) : Option (Bool) := if 0 ≤ (wrap64 (1 + (wrap64 (Int.tmod (IntKind.u64.wrap (a1)) 200)))) then (if (wrap64 (1 + (wrap64 (Int.tmod (IntKind.u64.wrap (a1)) 200))) : Int).toNat ≤ 35184372088832 then (ricklaw06_PackSame.l0 k a0 a2 (wrap64 (1 + (wrap64 (Int.tmod (IntKind.u64.wrap (a1)) 200)))) (List.replicate (wrap64 (1 + (wrap64 (Int.tmod (IntKind.u64.wrap (a1)) 200))) : Int).toNat 0) 0) else (none)) else (none)
theorem ricklaw06_PackSame.mono_l : ∀ k, (∀ y0 y1 y2 y3 y4, LeO (ricklaw06_PackSame.l0 k y0 y1 y2 y3 y4) (ricklaw06_PackSame.l0 (k + 1) y0 y1 y2 y3 y4))
  | 0 => fun _ _ _ _ _ r h => by simp [ricklaw06_PackSame.l0] at h
  | k + 1 => by
    have ih0 := ricklaw06_PackSame.mono_l k
    · intro y0 y1 y2 y3 y4
      unfold ricklaw06_PackSame.l0
      repeat' first
      | (with_reducible exact ih0 _ _ _ _ _)
      | (with_reducible exact LeO.refl _)
      | (with_reducible exact LeO.none _)
      | (with_reducible refine LeO.ite ?_ ?_)
      | (with_reducible refine LeO.bind ?_ (fun _ => ?_))
      | exact ih0 _ _ _ _ _
      | exact LeO.none _
      | refine LeO.ite ?_ ?_
      | refine LeO.bind ?_ (fun _ => ?_)
theorem ricklaw06_PackSame.mono : ∀ a0 a1 a2 k, LeO (ricklaw06_PackSame.f k a0 a1 a2) (ricklaw06_PackSame.f (k + 1) a0 a1 a2) := by
  intro a0 a1 a2 k
  have ih0 := ricklaw06_PackSame.mono_l k
  unfold ricklaw06_PackSame.f
  repeat' first
      | (with_reducible exact ih0 _ _ _ _ _)
      | (with_reducible exact LeO.refl _)
      | (with_reducible exact LeO.none _)
      | (with_reducible refine LeO.ite ?_ ?_)
      | (with_reducible refine LeO.bind ?_ (fun _ => ?_))
      | exact ih0 _ _ _ _ _
      | exact LeO.none _
      | refine LeO.ite ?_ ?_
      | refine LeO.bind ?_ (fun _ => ?_)
set_option maxHeartbeats 8000000 in
set_option maxRecDepth 100000 in
theorem ricklaw06_PackSame.calls (k : Nat) (a0 : Int) (a1 : Int) (a2 : Int) (r : Bool) (w : World) (h : ricklaw06_PackSame.f k a0 a1 a2 = some r) :
    Calls Try.prog 14 #[.int .u64 a0, .int .i64 a1, .int .i64 a2] w fun e w' => e = .returned (.bool r) ∧ Below w.heap.size w w' := by
  have HB := Aside0.mk (Below.refl w.heap.size w)
  have H : (if 0 ≤ (wrap64 (1 + (wrap64 (Int.tmod (IntKind.u64.wrap (a1)) 200)))) then (if (wrap64 (1 + (wrap64 (Int.tmod (IntKind.u64.wrap (a1)) 200))) : Int).toNat ≤ 35184372088832 then (ricklaw06_PackSame.l0 k a0 a2 (wrap64 (1 + (wrap64 (Int.tmod (IntKind.u64.wrap (a1)) 200)))) (List.replicate (wrap64 (1 + (wrap64 (Int.tmod (IntKind.u64.wrap (a1)) 200))) : Int).toNat 0) 0) else (none)) else (none)) = some r := h
  clear h
  obtain ⟨ji4, hji4⟩ : ∃ j_ : Int, (wrap64 (1 + (wrap64 (Int.tmod (IntKind.u64.wrap (a1)) 200)))) = j_ := ⟨_, rfl⟩
  replace H : (if 0 ≤ (ji4) then (if (ji4 : Int).toNat ≤ 35184372088832 then (ricklaw06_PackSame.l0 k a0 a2 ji4 (List.replicate (ji4 : Int).toNat 0) 0) else (none)) else (none)) = some r := by first | (rw [hji4] at H; exact H) | (simp only [hji4] at H ⊢; exact H)
  have hji4w : (IntKind.i64.wrap (1 + (wrap64 (Int.tmod (IntKind.u64.wrap (a1)) 200)))) = ji4 := (i64_w _).trans hji4
  by_cases c5 : 0 ≤ (ji4)
  · rw [if_pos c5] at H
    have c5b0 := eq_true c5
    have c5b1 : decide (0 ≤ (ji4)) = true := decide_eq_true c5
    clear c5
    by_cases c6 : (ji4 : Int).toNat ≤ 35184372088832
    · rw [if_pos c6] at H
      have c6b0 := eq_true c6
      have c6b1 : decide ((ji4 : Int).toNat ≤ 35184372088832) = true := decide_eq_true c6
      clear c6
      obtain ⟨y385, hy385⟩ : ∃ y_ : List Int, y_ = (List.replicate (ji4 : Int).toNat 0) := ⟨_, rfl⟩
      replace H : (ricklaw06_PackSame.l0 k a0 a2 ji4 y385 0) = some r := by first | (rw [hy385]; with_reducible exact H) | (have H2_ := (Option.bind_some _ _).symm.trans H; rw [hy385]; with_reducible exact H2_) | (have H2_ := (Option.bind_some _ _).symm.trans H; with_reducible exact H2_) | with_reducible exact H | (rw [hy385]; exact H) | exact H
      have Ny385 := Aside0.mk hy385
      clear hy385
      have H' := Aside0.mk H
      clear H
      go_enter Try.func14, Try.ntmps14
      go_wp2_with (first | ((with_reducible refine gate_dst (N := 22) rfl ?_); (try (refine gate_guard (by rfl) ?_; dsimp only)); refine Kd.R_make (Kd.int .u64) _ 23 rfl (N := 22) rfl 34 _ _ rfl ji4 rfl rfl Try.underlying34 (.int .u64 0) 8 info23 rfl (by decide) (by omega) 0 (ok := fun _ => True) (okp := fun _ => True) rfl (fun _ hk => hk) trivial (of_decide_eq_true (by first | (with_reducible assumption) | assumption)) (Nat.le_trans (Nat.mul_le_mul_right _ (of_decide_eq_true (by first | (with_reducible assumption) | assumption) : ji4.toNat ≤ 35184372088832)) (by omega)) (Below.refl _ _) (Nat.le_refl _) ?_; intro v386 w7 ho8 hb hg_ hnew_; clear hg_ hnew_; (first | rw [← Ny385.out] at ho8 | (simp only [Int.reduceToNat] at ho8; rw [← Ny385.out] at ho8)); have n0_ := Aside0.mk (Kd.R_lower ho8 (below_size (by repeat (first | (with_reducible first | exact HB.out | apply below_alloc | apply pw_below_drewN | apply below_drew1) | exact HB.out)))); have n1_ := Aside0.mk (below_step (by repeat (first | (with_reducible first | exact HB.out | apply below_alloc | apply pw_below_drewN | apply below_drew1) | exact HB.out)) hb); clear HB; have HO387 := n0_; have HB := n1_; clear n0_ n1_; clear hb ho8))
      go_loopg [9] k (fun kq v9 w' => ∃ (x8_1 : List Int) (x9_1 : Int), v9 = .int .i64 x9_1 ∧ Aside0 (ricklaw06_PackSame.l0 kq a0 a2 ji4 x8_1 x9_1 = some r) ∧ Aside0 (kq ≤ k) ∧ Aside0 (Kd.R (Kd.int .u64) 23 w' w.heap.size (fun _ => True) v386 x8_1) ∧ Aside0 (Below w.heap.size w w'))
      case atStart => exact ⟨(y385), (0), (by first | rfl | (simp; done) | (simp [*]; done)), H', ⟨Nat.le_refl _⟩, ⟨by (with_reducible repeat (first | apply Kd.R_alloc | apply Kd.R_drewN | apply Kd.R_drew)); exact HO387.out⟩, ⟨by repeat (first | (with_reducible first | exact HB.out | apply below_alloc | apply pw_below_drewN | apply below_drew1) | exact HB.out)⟩⟩
      case round =>
        clear H'
        try clear c1
        try clear p2
        try clear c5
        try clear c5b0
        try clear c5b1
        try clear c6
        try clear c6b0
        try clear c6b1
        try clear p6
        obtain ⟨x8_1, x9_1, rfl, HA, HK1, HO_8, HB⟩ := hrel
        cases gk with
        | zero => exact absurd HA.out (by simp [ricklaw06_PackSame.l0])
        | succ k1 =>
          have H := HA.out
          clear HA
          simp only [ricklaw06_PackSame.l0] at H
          by_cases c9 : x9_1 < ji4
          · rw [if_pos c9] at H
            have c9b0 : decide (x9_1 < ji4) = true := decide_eq_true c9
            clear c9
            by_cases c10 : 0 ≤ x9_1
            · rw [if_pos c10] at H
              have c10b0 : decide (0 ≤ x9_1) = true := decide_eq_true c10
              clear c10
              by_cases c11 : x9_1 < (x8_1.length : Int)
              · rw [if_pos c11] at H
                have c11b0 : decide (x9_1 < (x8_1.length : Int)) = true := decide_eq_true c11
                clear c11
                obtain ⟨y388, hy388⟩ : ∃ y_ : List Int, y_ = (x8_1.set (x9_1 : Int).toNat a0) := ⟨_, rfl⟩
                replace H : (ricklaw06_PackSame.l0 k1 a0 a2 ji4 y388 (wrap64 (x9_1 + 1))) = some r := by first | (rw [hy388]; with_reducible exact H) | (have H2_ := (Option.bind_some _ _).symm.trans H; rw [hy388]; with_reducible exact H2_) | (have H2_ := (Option.bind_some _ _).symm.trans H; with_reducible exact H2_) | with_reducible exact H | (rw [hy388]; exact H) | exact H
                have Ny388 := Aside0.mk hy388
                clear hy388
                have H' := Aside0.mk H
                clear H
                have p12 : 0 ≤ (x9_1 : Int) := of_decide_eq_true (by first | (with_reducible assumption) | assumption)
                have q12 : (x9_1 : Int) < ((x8_1.length : Int) : Int) := of_decide_eq_true (by first | (with_reducible assumption) | assumption)
                obtain ⟨go12, co12, eo12, gb12, gl12, cl12, HG12⟩ := Kd.R_form HO_8.out (by omega)
                (first | cases eo12 | (injection eo12 with ea_ en_ ec_; (first | subst ea_ | (injection ea_ with ea_; subst ea_)); subst ec_; clear en_))
                have GB12 := Aside0.mk gb12
                have GG12 := Aside0.mk HG12
                clear gb12 gl12 HG12
                obtain ⟨hx12_0, hf12_0⟩ := Kd.R_celln 0 HO_8.out (x9_1 : Int) p12 q12
                replace p12 := eq_true p12
                replace q12 := eq_true q12
                have HP13 := Kd.R_putg HO_8.out (x9_1 : Int) a0
                go_wp2_with (first | ((with_reducible refine gate_store (t := 23) (p := 31) rfl ?_); refine store_event (t := 23) (p := 31) (v := ?vo_w14) (w1 := (wr.setCell ⟨go12, (x9_1 : Int).toNat, none⟩ (.int .u64 a0))) ?hg ?ho ?hn ?hr ?_; (case ho => rfl); (case hg => rfl); (case hn => rfl); (case hr => first | (go_simp; done) | (go_simp; rfl)); intro w14 hw; have hg : wr.grownBy w14 (some go12) := (by rw [hw]; exact HP13.2); have hp_ : Kd.R (Kd.int .u64) 23 w14 w.heap.size (fun _ => True) (.slice (some ⟨go12, 0, none⟩) x8_1.length co12) y388 := (by rw [hw, Ny388.out]; exact HP13.1); clear HP13; have n0_ := Aside0.mk (hp_); have n1_ := Aside0.mk ((by rw [hw]; exact below_set (HB.out) GB12.out : Below w.heap.size w w14)); clear HO_8; clear HB; have HO_8 := n0_; have HB := n1_; clear n0_ n1_; clear hg hw hp_))
                go_roundg k1
                case measure => have := HK1.out; omega
                case rel => exact ⟨(y388), (wrap64 (x9_1 + 1)), (by first | rfl | (simp; done) | (simp [*]; done)), H', ⟨by have := HK1.out; omega⟩, ⟨by (with_reducible repeat (first | apply Kd.R_alloc | apply Kd.R_drewN | apply Kd.R_drew)); exact HO_8.out⟩, ⟨by repeat (first | (with_reducible first | exact HB.out | apply below_alloc | apply pw_below_drewN | apply below_drew1) | exact HB.out)⟩⟩
              · rw [if_neg c11] at H
                exact absurd H (by simp)
            · rw [if_neg c10] at H
              exact absurd H (by simp)
          · rw [if_neg c9] at H
            have c9b0 : decide (x9_1 < ji4) = false := decide_eq_false c9
            clear c9
            replace H := Option.bind_eq_some_iff.mp H
            obtain ⟨⟨t389, t390⟩, A150, H⟩ := H
            replace H : (if 0 ≤ (wrap64 (Int.tmod (IntKind.u64.wrap (a2)) 64)) then ((pack_Put.f (([Go.bits .andNot .u64 a0 (shl .u64 1 (wrap64 (Int.tmod (IntKind.u64.wrap (a2)) 64))), Go.bits .or .u64 (Go.bits .andNot .u64 a0 (shl .u64 1 (wrap64 (Int.tmod (IntKind.u64.wrap (a2)) 64)))) (shl .u64 1 (wrap64 (Int.tmod (IntKind.u64.wrap (a2)) 64)))] : List Int))).bind fun bt396 => ((ricklaw06_puts.f).bind fun t400 => (if t400 = true then (if t390 = 0 then (if (t389.length : Int) = 9 then (if 8 < (t389.length : Int) then (if (rd t389 8) = 0 then (if bt396.2 = 0 then (if (bt396.1.length : Int) = (wrap64 (9 + (wrap64 (Int.tdiv (wrap64 ((wrap64 (2 * (wrap64 ((wrap64 (Int.tmod (IntKind.u64.wrap (a2)) 64)) + 1)))) + 7)) 8)))) then (if 8 < (bt396.1.length : Int) then (some ((wrap64 (rd bt396.1 8)) == (wrap64 ((wrap64 (Int.tmod (IntKind.u64.wrap (a2)) 64)) + 1)))) else (none)) else (some false)) else (some false)) else (some false)) else (none)) else (some false)) else (some false)) else (some false)))) else (none)) = some r := H
            have A15 := Aside0.mk A150
            clear A150
            obtain ⟨ji16, hji16⟩ : ∃ j_ : Int, (wrap64 (Int.tmod (IntKind.u64.wrap (a2)) 64)) = j_ := ⟨_, rfl⟩
            replace H : (if 0 ≤ (ji16) then ((pack_Put.f (([Go.bits .andNot .u64 a0 (shl .u64 1 (ji16)), Go.bits .or .u64 (Go.bits .andNot .u64 a0 (shl .u64 1 (ji16))) (shl .u64 1 (ji16))] : List Int))).bind fun bt396 => ((ricklaw06_puts.f).bind fun t400 => (if t400 = true then (if t390 = 0 then (if (t389.length : Int) = 9 then (if 8 < (t389.length : Int) then (if (rd t389 8) = 0 then (if bt396.2 = 0 then (if (bt396.1.length : Int) = (wrap64 (9 + (wrap64 (Int.tdiv (wrap64 ((wrap64 (2 * (wrap64 ((ji16) + 1)))) + 7)) 8)))) then (if 8 < (bt396.1.length : Int) then (some ((wrap64 (rd bt396.1 8)) == (wrap64 ((ji16) + 1)))) else (none)) else (some false)) else (some false)) else (some false)) else (none)) else (some false)) else (some false)) else (some false)))) else (none)) = some r := by first | (rw [hji16] at H; exact H) | (simp only [hji16] at H ⊢; exact H)
            (try rw [hji16] at A15)
            have hji16w : (IntKind.i64.wrap (Int.tmod (IntKind.u64.wrap (a2)) 64)) = ji16 := (i64_w _).trans hji16
            by_cases c17 : 0 ≤ (ji16)
            · rw [if_pos c17] at H
              have c17b0 := eq_true c17
              have c17b1 : decide (0 ≤ (ji16)) = true := decide_eq_true c17
              clear c17
              obtain ⟨ji18, hji18⟩ : ∃ j_ : Int, (shl .u64 1 (ji16)) = j_ := ⟨_, rfl⟩
              replace H : ((pack_Put.f (([Go.bits .andNot .u64 a0 (ji18), Go.bits .or .u64 (Go.bits .andNot .u64 a0 (ji18)) (ji18)] : List Int))).bind fun bt396 => ((ricklaw06_puts.f).bind fun t400 => (if t400 = true then (if t390 = 0 then (if (t389.length : Int) = 9 then (if 8 < (t389.length : Int) then (if (rd t389 8) = 0 then (if bt396.2 = 0 then (if (bt396.1.length : Int) = (wrap64 (9 + (wrap64 (Int.tdiv (wrap64 ((wrap64 (2 * (wrap64 ((ji16) + 1)))) + 7)) 8)))) then (if 8 < (bt396.1.length : Int) then (some ((wrap64 (rd bt396.1 8)) == (wrap64 ((ji16) + 1)))) else (none)) else (some false)) else (some false)) else (some false)) else (none)) else (some false)) else (some false)) else (some false)))) = some r := by first | (rw [hji18] at H; exact H) | (simp only [hji18] at H ⊢; exact H)
              (try rw [hji18] at A15)
              have hji18_ : (IntKind.u64.wrap (1 * 2 ^ min (ji16).toNat 64)) = ji18 := hji18
              have hji18z : (ji16) ≤ 64 → (IntKind.u64.wrap (1 * 2 ^ (ji16).toNat)) = ji18 := shl_small hji18
              have hji18u : (IntKind.u64.wrap (2 ^ min (ji16).toNat 64)) = ji18 := by have h_ := hji18_; rw [Int.one_mul] at h_; exact h_
              have hji18v : (ji16) ≤ 64 → (IntKind.u64.wrap (2 ^ (ji16).toNat)) = ji18 := fun hle_ => by have h_ := hji18z hle_; rw [Int.one_mul] at h_; exact h_
              have c19b0 := eq_true (of_decide_eq_true (by first | (with_reducible assumption) | assumption) : 0 ≤ (ji16))
              obtain ⟨y393, hy393⟩ : ∃ y_ : List Int, y_ = (([Go.bits .andNot .u64 a0 (ji18), Go.bits .or .u64 (Go.bits .andNot .u64 a0 (ji18)) (ji18)] : List Int)) := ⟨_, rfl⟩
              replace H : ((pack_Put.f y393).bind fun bt396 => ((ricklaw06_puts.f).bind fun t400 => (if t400 = true then (if t390 = 0 then (if (t389.length : Int) = 9 then (if 8 < (t389.length : Int) then (if (rd t389 8) = 0 then (if bt396.2 = 0 then (if (bt396.1.length : Int) = (wrap64 (9 + (wrap64 (Int.tdiv (wrap64 ((wrap64 (2 * (wrap64 ((ji16) + 1)))) + 7)) 8)))) then (if 8 < (bt396.1.length : Int) then (some ((wrap64 (rd bt396.1 8)) == (wrap64 ((ji16) + 1)))) else (none)) else (some false)) else (some false)) else (some false)) else (none)) else (some false)) else (some false)) else (some false)))) = some r := by first | (rw [hy393]; with_reducible exact H) | (have H2_ := (Option.bind_some _ _).symm.trans H; rw [hy393]; with_reducible exact H2_) | (have H2_ := (Option.bind_some _ _).symm.trans H; with_reducible exact H2_) | with_reducible exact H | (rw [hy393]; exact H) | exact H
              have Ny393 := Aside0.mk hy393
              clear hy393
              replace H := Option.bind_eq_some_iff.mp H
              obtain ⟨⟨t396, t397⟩, A210, H⟩ := H
              replace H : ((ricklaw06_puts.f).bind fun t400 => (if t400 = true then (if t390 = 0 then (if (t389.length : Int) = 9 then (if 8 < (t389.length : Int) then (if (rd t389 8) = 0 then (if t397 = 0 then (if (t396.length : Int) = (wrap64 (9 + (wrap64 (Int.tdiv (wrap64 ((wrap64 (2 * (wrap64 ((ji16) + 1)))) + 7)) 8)))) then (if 8 < (t396.length : Int) then (some ((wrap64 (rd t396 8)) == (wrap64 ((ji16) + 1)))) else (none)) else (some false)) else (some false)) else (some false)) else (none)) else (some false)) else (some false)) else (some false))) = some r := H
              have A21 := Aside0.mk A210
              clear A210
              replace H := Option.bind_eq_some_iff.mp H
              obtain ⟨t400, A220, H⟩ := H
              replace H : (if t400 = true then (if t390 = 0 then (if (t389.length : Int) = 9 then (if 8 < (t389.length : Int) then (if (rd t389 8) = 0 then (if t397 = 0 then (if (t396.length : Int) = (wrap64 (9 + (wrap64 (Int.tdiv (wrap64 ((wrap64 (2 * (wrap64 ((ji16) + 1)))) + 7)) 8)))) then (if 8 < (t396.length : Int) then (some ((wrap64 (rd t396 8)) == (wrap64 ((ji16) + 1)))) else (none)) else (some false)) else (some false)) else (some false)) else (none)) else (some false)) else (some false)) else (some false)) = some r := H
              have A22 := Aside0.mk A220
              clear A220
              by_cases c23 : t400 = true
              · subst c23
                have H1 : (if t390 = 0 then (if (t389.length : Int) = 9 then (if 8 < (t389.length : Int) then (if (rd t389 8) = 0 then (if t397 = 0 then (if (t396.length : Int) = (wrap64 (9 + (wrap64 (Int.tdiv (wrap64 ((wrap64 (2 * (wrap64 ((ji16) + 1)))) + 7)) 8)))) then (if 8 < (t396.length : Int) then (some ((wrap64 (rd t396 8)) == (wrap64 ((ji16) + 1)))) else (none)) else (some false)) else (some false)) else (some false)) else (none)) else (some false)) else (some false)) = some r := by rw [if_pos rfl] at H; exact H
                clear H
                have H := H1
                clear H1
                by_cases c24 : t390 = 0
                · rw [if_pos c24] at H
                  have c24b0 : (t390 == 0) = true := beq_iff_eq.mpr c24
                  have c24b1 : (t390 != 0) = false := bne_eq_false_iff_eq.mpr c24
                  clear c24
                  by_cases c25 : (t389.length : Int) = 9
                  · rw [if_pos c25] at H
                    have c25b0 : ((t389.length : Int) == 9) = true := beq_iff_eq.mpr c25
                    have c25b1 : ((t389.length : Int) != 9) = false := bne_eq_false_iff_eq.mpr c25
                    clear c25
                    by_cases c26 : 8 < (t389.length : Int)
                    · rw [if_pos c26] at H
                      have c26b0 : decide (8 < (t389.length : Int)) = true := decide_eq_true c26
                      have c26b1 : decide (8 < t389.length) = true := decide_eq_true (by omega)
                      clear c26
                      by_cases c27 : (rd t389 8) = 0
                      · rw [if_pos c27] at H
                        have c27b0 : ((rd t389 8) == 0) = true := beq_iff_eq.mpr c27
                        have c27b1 : ((rd t389 8) != 0) = false := bne_eq_false_iff_eq.mpr c27
                        clear c27
                        by_cases c28 : t397 = 0
                        · rw [if_pos c28] at H
                          have c28b0 : (t397 == 0) = true := beq_iff_eq.mpr c28
                          have c28b1 : (t397 != 0) = false := bne_eq_false_iff_eq.mpr c28
                          clear c28
                          by_cases c29 : (t396.length : Int) = (wrap64 (9 + (wrap64 (Int.tdiv (wrap64 ((wrap64 (2 * (wrap64 ((ji16) + 1)))) + 7)) 8))))
                          · rw [if_pos c29] at H
                            have c29b0 : ((t396.length : Int) == (wrap64 (9 + (wrap64 (Int.tdiv (wrap64 ((wrap64 (2 * (wrap64 ((ji16) + 1)))) + 7)) 8))))) = true := beq_iff_eq.mpr c29
                            have c29b1 : ((t396.length : Int) != (wrap64 (9 + (wrap64 (Int.tdiv (wrap64 ((wrap64 (2 * (wrap64 ((ji16) + 1)))) + 7)) 8))))) = false := bne_eq_false_iff_eq.mpr c29
                            clear c29
                            by_cases c30 : 8 < (t396.length : Int)
                            · rw [if_pos c30] at H
                              have c30b0 : decide (8 < (t396.length : Int)) = true := decide_eq_true c30
                              have c30b1 : decide (8 < t396.length) = true := decide_eq_true (by omega)
                              clear c30
                              obtain rfl := Option.some.inj H
                              obtain ⟨Ao31, co31, eo31⟩ := Kd.R_slice HO_8.out
                              subst eo31
                              go_wp2_with (first | ((with_reducible refine gate_callee (f := 41) rfl ?_); refine goesL_ (some 34) rfl rfl Try.func41 (by kernel_rfl) rfl #[.slice Ao31 x8_1.length co31] rfl (by (try simp only [List.map_toArray, List.map_cons, List.map_nil]); first | done | rfl | (simp only [List.length_drop, List.length_take]; rfl)) ?_; (with_reducible refine (pack_Put.calls _ _ x8_1 t389 t390 _ ?side1 ?side2 A15.out).mono ?_); (case side1 => repeat (first | exact (Kd.R_reads' HO_8.out).2.2 | (with_reducible refine Kd.C_alloc ?_ _) | (with_reducible refine Kd.C_drewN ?_ _) | (with_reducible refine Kd.C_drew ?_))); (case side2 => exact (Kd.R_reads' HO_8.out).2.1); rintro e w32 ⟨v391, rfl, ho0, hb⟩; refine ⟨_, rfl, ?_⟩; have n0_ := Aside0.mk (Kd.R_below (by (with_reducible repeat (first | apply Kd.R_alloc | apply Kd.R_drewN | apply Kd.R_drew)); exact HO_8.out) hb); have n1_ := Aside0.mk (Kd.R_lower ho0 (below_size (by repeat (first | (with_reducible first | exact HB.out | apply below_alloc | apply pw_below_drewN | apply below_drew1) | exact HB.out)))); have n2_ := Aside0.mk (below_step (by repeat (first | (with_reducible first | exact HB.out | apply below_alloc | apply pw_below_drewN | apply below_drew1) | exact HB.out)) hb); clear HO_8; clear HB; have HO_8 := n0_; have HO392 := n1_; have HB := n2_; clear n0_ n1_ n2_; (try clear hb); (try clear hb2); (try clear hk); (try clear hi); (try clear ho0)) | ((with_reducible refine gate_dst (N := 51) rfl ?_); (try (refine gate_guard (by rfl) ?_; dsimp only)); refine Kd.R_lit (Kd.int .u64) _ 23 ?hg (N := 51) ?hd (xs := ([Go.bits .andNot .u64 a0 (ji18), Go.bits .or .u64 (Go.bits .andNot .u64 a0 (ji18)) (ji18)] : List Int)) (inner := [.int .u64 (Go.bits .andNot .u64 a0 (ji18)), .int .u64 (Go.bits .or .u64 (Go.bits .andNot .u64 a0 (ji18)) (ji18))]) (ok := fun _ => True) (okp := fun _ => True) ?hr ?hp (fun _ hk => hk) trivial (Below.refl _ _) (Nat.le_refl _) (by simp) ?_; (case hd => rfl); (case hg => rfl); (case hr => first | (go_simp; done) | (go_simp; rfl)); (case hp => exact (Reps.one (show Kd.M (Kd.int .u64) _ _ _ (Go.bits .andNot .u64 a0 (ji18)) [.int .u64 (Go.bits .andNot .u64 a0 (ji18))] from rfl) (Reps.one (show Kd.M (Kd.int .u64) _ _ _ (Go.bits .or .u64 (Go.bits .andNot .u64 a0 (ji18)) (ji18)) [.int .u64 (Go.bits .or .u64 (Go.bits .andNot .u64 a0 (ji18)) (ji18))] from rfl) (Reps.none _ _)))); intro v394 w33 ho34 hb hg_ hnew_; clear hg_ hnew_; (first | rw [← Ny393.out] at ho34 | (simp only [Int.reduceToNat] at ho34; rw [← Ny393.out] at ho34)); have n0_ := Aside0.mk (Kd.R_elder' (by (with_reducible repeat (first | apply Kd.R_alloc | apply Kd.R_drewN | apply Kd.R_drew)); exact HO_8.out) (Kd.R_base ho34) hb); have n1_ := Aside0.mk (Kd.R_below (by (with_reducible repeat (first | apply Kd.R_alloc | apply Kd.R_drewN | apply Kd.R_drew)); exact HO392.out) hb); have n2_ := Aside0.mk (Kd.R_lower (Kd.R_new' ho34 (Kd.R_lt (by (with_reducible repeat (first | apply Kd.R_alloc | apply Kd.R_drewN | apply Kd.R_drew)); exact HO_8.out))) (below_size (by repeat (first | (with_reducible first | exact HB.out | apply below_alloc | apply pw_below_drewN | apply below_drew1) | exact HB.out)))); have n3_ := Aside0.mk (below_step (by repeat (first | (with_reducible first | exact HB.out | apply below_alloc | apply pw_below_drewN | apply below_drew1) | exact HB.out)) hb); clear HO_8; clear HO392; clear HB; have HO_8 := n0_; have HO392 := n1_; have HO395 := n2_; have HB := n3_; clear n0_ n1_ n2_ n3_; clear hb ho34; obtain ⟨Ao35, co35, eo35⟩ := Kd.R_slice HO395.out; subst eo35) | ((with_reducible refine gate_callee (f := 41) rfl ?_); refine goesL_ (some 52) rfl rfl Try.func41 (by kernel_rfl) rfl #[.slice Ao35 y393.length co35] rfl (by (try simp only [List.map_toArray, List.map_cons, List.map_nil]); first | done | rfl | (simp only [List.length_drop, List.length_take]; rfl)) ?_; (with_reducible refine (pack_Put.calls _ _ y393 t396 t397 _ ?side1 ?side2 A21.out).mono ?_); (case side1 => repeat (first | exact (Kd.R_reads' HO395.out).2.2 | (with_reducible refine Kd.C_alloc ?_ _) | (with_reducible refine Kd.C_drewN ?_ _) | (with_reducible refine Kd.C_drew ?_))); (case side2 => exact (Kd.R_reads' HO395.out).2.1); rintro e w36 ⟨v398, rfl, ho0, hb⟩; refine ⟨_, rfl, ?_⟩; have n0_ := Aside0.mk (Kd.R_below (by (with_reducible repeat (first | apply Kd.R_alloc | apply Kd.R_drewN | apply Kd.R_drew)); exact HO_8.out) hb); have n1_ := Aside0.mk (Kd.R_elder' (by (with_reducible repeat (first | apply Kd.R_alloc | apply Kd.R_drewN | apply Kd.R_drew)); exact HO392.out) (Kd.R_base ho0) hb); have n2_ := Aside0.mk (Kd.R_below (by (with_reducible repeat (first | apply Kd.R_alloc | apply Kd.R_drewN | apply Kd.R_drew)); exact HO395.out) hb); have n3_ := Aside0.mk (Kd.R_lower (Kd.R_new' ho0 (Kd.R_lt (by (with_reducible repeat (first | apply Kd.R_alloc | apply Kd.R_drewN | apply Kd.R_drew)); exact HO392.out))) (below_size (by repeat (first | (with_reducible first | exact HB.out | apply below_alloc | apply pw_below_drewN | apply below_drew1) | exact HB.out)))); have n4_ := Aside0.mk (below_step (by repeat (first | (with_reducible first | exact HB.out | apply below_alloc | apply pw_below_drewN | apply below_drew1) | exact HB.out)) hb); clear HO_8; clear HO392; clear HO395; clear HB; have HO_8 := n0_; have HO392 := n1_; have HO395 := n2_; have HO399 := n3_; have HB := n4_; clear n0_ n1_ n2_ n3_ n4_; (try clear hb); (try clear hb2); (try clear hk); (try clear hi); (try clear ho0)) | ((with_reducible refine gate_callee (f := 43) rfl ?_); refine goesL_ (some 55) rfl rfl Try.func43 (by kernel_rfl) rfl #[] rfl (by (try simp only [List.map_toArray, List.map_cons, List.map_nil]); first | done | rfl | (simp only [List.length_drop, List.length_take]; rfl)) ?_; (with_reducible refine (ricklaw06_puts.calls  true _ A22.out).mono ?_); rintro e w37 ⟨rfl, hb⟩; refine ⟨_, rfl, ?_⟩; have n0_ := Aside0.mk (Kd.R_below (by (with_reducible repeat (first | apply Kd.R_alloc | apply Kd.R_drewN | apply Kd.R_drew)); exact HO_8.out) hb); have n1_ := Aside0.mk (Kd.R_below (by (with_reducible repeat (first | apply Kd.R_alloc | apply Kd.R_drewN | apply Kd.R_drew)); exact HO392.out) hb); have n2_ := Aside0.mk (Kd.R_below (by (with_reducible repeat (first | apply Kd.R_alloc | apply Kd.R_drewN | apply Kd.R_drew)); exact HO395.out) hb); have n3_ := Aside0.mk (Kd.R_below (by (with_reducible repeat (first | apply Kd.R_alloc | apply Kd.R_drewN | apply Kd.R_drew)); exact HO399.out) hb); have n4_ := Aside0.mk (below_step (by repeat (first | (with_reducible first | exact HB.out | apply below_alloc | apply pw_below_drewN | apply below_drew1) | exact HB.out)) hb); clear HO_8; clear HO392; clear HO395; clear HO399; clear HB; have HO_8 := n0_; have HO392 := n1_; have HO395 := n2_; have HO399 := n3_; have HB := n4_; clear n0_ n1_ n2_ n3_ n4_; (try clear hb); (try clear hb2); (try clear hk); (try clear hi); obtain ⟨Ao38, co38, eo38⟩ := Kd.R_slice HO392.out; subst eo38; have p401 : 0 ≤ (8 : Int) := (by omega); have q401 : 8 < (t389.length : Int) := of_decide_eq_true (by first | (with_reducible assumption) | assumption); obtain ⟨ad401, e401, hx401_0⟩ := Kd.at_int (Kd.R_reads' HO392.out).2.2 8 p401 q401; cases e401; (try simp only [show (8 : Int).toNat = 8 from rfl, Nat.reduceMul, Nat.reduceEqDiff, Go.Addr.add, ↓reduceIte] at hx401_0); have qi401 : (8 < t389.length) = True := eq_true (by omega); (try rw [show ((8 : Int)).toNat = 8 from rfl] at hx401_0); replace p401 := eq_true p401; replace q401 := eq_true q401; obtain ⟨Ao39, co39, eo39⟩ := Kd.R_slice HO399.out; subst eo39; have p402 : 0 ≤ (8 : Int) := (by omega); have q402 : 8 < (t396.length : Int) := of_decide_eq_true (by first | (with_reducible assumption) | assumption); obtain ⟨ad402, e402, hx402_0⟩ := Kd.at_int (Kd.R_reads' HO399.out).2.2 8 p402 q402; cases e402; (try simp only [show (8 : Int).toNat = 8 from rfl, Nat.reduceMul, Nat.reduceEqDiff, Go.Addr.add, ↓reduceIte] at hx402_0); have qi402 : (8 < t396.length) = True := eq_true (by omega); (try rw [show ((8 : Int)).toNat = 8 from rfl] at hx402_0); replace p402 := eq_true p402; replace q402 := eq_true q402))
                              go_ret
                              exact ⟨by first | rfl | (simp [errW_none, errW_some] <;> rfl) | (simp only [← hji4, ← hji16, ← hji18]; first | rfl | (simp [errW_none, errW_some] <;> rfl)) | (simp [*, errW_none, errW_some] <;> rfl), by repeat (first | (with_reducible first | exact HB.out | apply below_alloc | apply pw_below_drewN | apply below_drew1) | exact HB.out)⟩
                            · rw [if_neg c30] at H
                              exact absurd H (by simp)
                          · rw [if_neg c29] at H
                            have c29b0 : ((t396.length : Int) == (wrap64 (9 + (wrap64 (Int.tdiv (wrap64 ((wrap64 (2 * (wrap64 ((ji16) + 1)))) + 7)) 8))))) = false := beq_eq_false_iff_ne.mpr c29
                            have c29b1 : ((t396.length : Int) != (wrap64 (9 + (wrap64 (Int.tdiv (wrap64 ((wrap64 (2 * (wrap64 ((ji16) + 1)))) + 7)) 8))))) = true := bne_iff_ne.mpr c29
                            obtain rfl := Option.some.inj H
                            obtain ⟨Ao40, co40, eo40⟩ := Kd.R_slice HO_8.out
                            subst eo40
                            go_wp2_with (first | ((with_reducible refine gate_callee (f := 41) rfl ?_); refine goesL_ (some 34) rfl rfl Try.func41 (by kernel_rfl) rfl #[.slice Ao40 x8_1.length co40] rfl (by (try simp only [List.map_toArray, List.map_cons, List.map_nil]); first | done | rfl | (simp only [List.length_drop, List.length_take]; rfl)) ?_; (with_reducible refine (pack_Put.calls _ _ x8_1 t389 t390 _ ?side1 ?side2 A15.out).mono ?_); (case side1 => repeat (first | exact (Kd.R_reads' HO_8.out).2.2 | (with_reducible refine Kd.C_alloc ?_ _) | (with_reducible refine Kd.C_drewN ?_ _) | (with_reducible refine Kd.C_drew ?_))); (case side2 => exact (Kd.R_reads' HO_8.out).2.1); rintro e w41 ⟨v391, rfl, ho0, hb⟩; refine ⟨_, rfl, ?_⟩; have n0_ := Aside0.mk (Kd.R_below (by (with_reducible repeat (first | apply Kd.R_alloc | apply Kd.R_drewN | apply Kd.R_drew)); exact HO_8.out) hb); have n1_ := Aside0.mk (Kd.R_lower ho0 (below_size (by repeat (first | (with_reducible first | exact HB.out | apply below_alloc | apply pw_below_drewN | apply below_drew1) | exact HB.out)))); have n2_ := Aside0.mk (below_step (by repeat (first | (with_reducible first | exact HB.out | apply below_alloc | apply pw_below_drewN | apply below_drew1) | exact HB.out)) hb); clear HO_8; clear HB; have HO_8 := n0_; have HO392 := n1_; have HB := n2_; clear n0_ n1_ n2_; (try clear hb); (try clear hb2); (try clear hk); (try clear hi); (try clear ho0)) | ((with_reducible refine gate_dst (N := 51) rfl ?_); (try (refine gate_guard (by rfl) ?_; dsimp only)); refine Kd.R_lit (Kd.int .u64) _ 23 ?hg (N := 51) ?hd (xs := ([Go.bits .andNot .u64 a0 (ji18), Go.bits .or .u64 (Go.bits .andNot .u64 a0 (ji18)) (ji18)] : List Int)) (inner := [.int .u64 (Go.bits .andNot .u64 a0 (ji18)), .int .u64 (Go.bits .or .u64 (Go.bits .andNot .u64 a0 (ji18)) (ji18))]) (ok := fun _ => True) (okp := fun _ => True) ?hr ?hp (fun _ hk => hk) trivial (Below.refl _ _) (Nat.le_refl _) (by simp) ?_; (case hd => rfl); (case hg => rfl); (case hr => first | (go_simp; done) | (go_simp; rfl)); (case hp => exact (Reps.one (show Kd.M (Kd.int .u64) _ _ _ (Go.bits .andNot .u64 a0 (ji18)) [.int .u64 (Go.bits .andNot .u64 a0 (ji18))] from rfl) (Reps.one (show Kd.M (Kd.int .u64) _ _ _ (Go.bits .or .u64 (Go.bits .andNot .u64 a0 (ji18)) (ji18)) [.int .u64 (Go.bits .or .u64 (Go.bits .andNot .u64 a0 (ji18)) (ji18))] from rfl) (Reps.none _ _)))); intro v394 w42 ho43 hb hg_ hnew_; clear hg_ hnew_; (first | rw [← Ny393.out] at ho43 | (simp only [Int.reduceToNat] at ho43; rw [← Ny393.out] at ho43)); have n0_ := Aside0.mk (Kd.R_elder' (by (with_reducible repeat (first | apply Kd.R_alloc | apply Kd.R_drewN | apply Kd.R_drew)); exact HO_8.out) (Kd.R_base ho43) hb); have n1_ := Aside0.mk (Kd.R_below (by (with_reducible repeat (first | apply Kd.R_alloc | apply Kd.R_drewN | apply Kd.R_drew)); exact HO392.out) hb); have n2_ := Aside0.mk (Kd.R_lower (Kd.R_new' ho43 (Kd.R_lt (by (with_reducible repeat (first | apply Kd.R_alloc | apply Kd.R_drewN | apply Kd.R_drew)); exact HO_8.out))) (below_size (by repeat (first | (with_reducible first | exact HB.out | apply below_alloc | apply pw_below_drewN | apply below_drew1) | exact HB.out)))); have n3_ := Aside0.mk (below_step (by repeat (first | (with_reducible first | exact HB.out | apply below_alloc | apply pw_below_drewN | apply below_drew1) | exact HB.out)) hb); clear HO_8; clear HO392; clear HB; have HO_8 := n0_; have HO392 := n1_; have HO395 := n2_; have HB := n3_; clear n0_ n1_ n2_ n3_; clear hb ho43; obtain ⟨Ao44, co44, eo44⟩ := Kd.R_slice HO395.out; subst eo44) | ((with_reducible refine gate_callee (f := 41) rfl ?_); refine goesL_ (some 52) rfl rfl Try.func41 (by kernel_rfl) rfl #[.slice Ao44 y393.length co44] rfl (by (try simp only [List.map_toArray, List.map_cons, List.map_nil]); first | done | rfl | (simp only [List.length_drop, List.length_take]; rfl)) ?_; (with_reducible refine (pack_Put.calls _ _ y393 t396 t397 _ ?side1 ?side2 A21.out).mono ?_); (case side1 => repeat (first | exact (Kd.R_reads' HO395.out).2.2 | (with_reducible refine Kd.C_alloc ?_ _) | (with_reducible refine Kd.C_drewN ?_ _) | (with_reducible refine Kd.C_drew ?_))); (case side2 => exact (Kd.R_reads' HO395.out).2.1); rintro e w45 ⟨v398, rfl, ho0, hb⟩; refine ⟨_, rfl, ?_⟩; have n0_ := Aside0.mk (Kd.R_below (by (with_reducible repeat (first | apply Kd.R_alloc | apply Kd.R_drewN | apply Kd.R_drew)); exact HO_8.out) hb); have n1_ := Aside0.mk (Kd.R_elder' (by (with_reducible repeat (first | apply Kd.R_alloc | apply Kd.R_drewN | apply Kd.R_drew)); exact HO392.out) (Kd.R_base ho0) hb); have n2_ := Aside0.mk (Kd.R_below (by (with_reducible repeat (first | apply Kd.R_alloc | apply Kd.R_drewN | apply Kd.R_drew)); exact HO395.out) hb); have n3_ := Aside0.mk (Kd.R_lower (Kd.R_new' ho0 (Kd.R_lt (by (with_reducible repeat (first | apply Kd.R_alloc | apply Kd.R_drewN | apply Kd.R_drew)); exact HO392.out))) (below_size (by repeat (first | (with_reducible first | exact HB.out | apply below_alloc | apply pw_below_drewN | apply below_drew1) | exact HB.out)))); have n4_ := Aside0.mk (below_step (by repeat (first | (with_reducible first | exact HB.out | apply below_alloc | apply pw_below_drewN | apply below_drew1) | exact HB.out)) hb); clear HO_8; clear HO392; clear HO395; clear HB; have HO_8 := n0_; have HO392 := n1_; have HO395 := n2_; have HO399 := n3_; have HB := n4_; clear n0_ n1_ n2_ n3_ n4_; (try clear hb); (try clear hb2); (try clear hk); (try clear hi); (try clear ho0)) | ((with_reducible refine gate_callee (f := 43) rfl ?_); refine goesL_ (some 55) rfl rfl Try.func43 (by kernel_rfl) rfl #[] rfl (by (try simp only [List.map_toArray, List.map_cons, List.map_nil]); first | done | rfl | (simp only [List.length_drop, List.length_take]; rfl)) ?_; (with_reducible refine (ricklaw06_puts.calls  true _ A22.out).mono ?_); rintro e w46 ⟨rfl, hb⟩; refine ⟨_, rfl, ?_⟩; have n0_ := Aside0.mk (Kd.R_below (by (with_reducible repeat (first | apply Kd.R_alloc | apply Kd.R_drewN | apply Kd.R_drew)); exact HO_8.out) hb); have n1_ := Aside0.mk (Kd.R_below (by (with_reducible repeat (first | apply Kd.R_alloc | apply Kd.R_drewN | apply Kd.R_drew)); exact HO392.out) hb); have n2_ := Aside0.mk (Kd.R_below (by (with_reducible repeat (first | apply Kd.R_alloc | apply Kd.R_drewN | apply Kd.R_drew)); exact HO395.out) hb); have n3_ := Aside0.mk (Kd.R_below (by (with_reducible repeat (first | apply Kd.R_alloc | apply Kd.R_drewN | apply Kd.R_drew)); exact HO399.out) hb); have n4_ := Aside0.mk (below_step (by repeat (first | (with_reducible first | exact HB.out | apply below_alloc | apply pw_below_drewN | apply below_drew1) | exact HB.out)) hb); clear HO_8; clear HO392; clear HO395; clear HO399; clear HB; have HO_8 := n0_; have HO392 := n1_; have HO395 := n2_; have HO399 := n3_; have HB := n4_; clear n0_ n1_ n2_ n3_ n4_; (try clear hb); (try clear hb2); (try clear hk); (try clear hi); obtain ⟨Ao47, co47, eo47⟩ := Kd.R_slice HO392.out; subst eo47; have p401 : 0 ≤ (8 : Int) := (by omega); have q401 : 8 < (t389.length : Int) := of_decide_eq_true (by first | (with_reducible assumption) | assumption); obtain ⟨ad401, e401, hx401_0⟩ := Kd.at_int (Kd.R_reads' HO392.out).2.2 8 p401 q401; cases e401; (try simp only [show (8 : Int).toNat = 8 from rfl, Nat.reduceMul, Nat.reduceEqDiff, Go.Addr.add, ↓reduceIte] at hx401_0); have qi401 : (8 < t389.length) = True := eq_true (by omega); (try rw [show ((8 : Int)).toNat = 8 from rfl] at hx401_0); replace p401 := eq_true p401; replace q401 := eq_true q401; obtain ⟨Ao48, co48, eo48⟩ := Kd.R_slice HO399.out; subst eo48))
                            go_ret
                            exact ⟨by first | rfl | (simp [errW_none, errW_some] <;> rfl) | (simp only [← hji4, ← hji16, ← hji18]; first | rfl | (simp [errW_none, errW_some] <;> rfl)) | (simp [*, errW_none, errW_some] <;> rfl), by repeat (first | (with_reducible first | exact HB.out | apply below_alloc | apply pw_below_drewN | apply below_drew1) | exact HB.out)⟩
                        · rw [if_neg c28] at H
                          have c28b0 : (t397 == 0) = false := beq_eq_false_iff_ne.mpr c28
                          have c28b1 : (t397 != 0) = true := bne_iff_ne.mpr c28
                          obtain rfl := Option.some.inj H
                          obtain ⟨Ao49, co49, eo49⟩ := Kd.R_slice HO_8.out
                          subst eo49
                          go_wp2_with (first | ((with_reducible refine gate_callee (f := 41) rfl ?_); refine goesL_ (some 34) rfl rfl Try.func41 (by kernel_rfl) rfl #[.slice Ao49 x8_1.length co49] rfl (by (try simp only [List.map_toArray, List.map_cons, List.map_nil]); first | done | rfl | (simp only [List.length_drop, List.length_take]; rfl)) ?_; (with_reducible refine (pack_Put.calls _ _ x8_1 t389 t390 _ ?side1 ?side2 A15.out).mono ?_); (case side1 => repeat (first | exact (Kd.R_reads' HO_8.out).2.2 | (with_reducible refine Kd.C_alloc ?_ _) | (with_reducible refine Kd.C_drewN ?_ _) | (with_reducible refine Kd.C_drew ?_))); (case side2 => exact (Kd.R_reads' HO_8.out).2.1); rintro e w50 ⟨v391, rfl, ho0, hb⟩; refine ⟨_, rfl, ?_⟩; have n0_ := Aside0.mk (Kd.R_below (by (with_reducible repeat (first | apply Kd.R_alloc | apply Kd.R_drewN | apply Kd.R_drew)); exact HO_8.out) hb); have n1_ := Aside0.mk (Kd.R_lower ho0 (below_size (by repeat (first | (with_reducible first | exact HB.out | apply below_alloc | apply pw_below_drewN | apply below_drew1) | exact HB.out)))); have n2_ := Aside0.mk (below_step (by repeat (first | (with_reducible first | exact HB.out | apply below_alloc | apply pw_below_drewN | apply below_drew1) | exact HB.out)) hb); clear HO_8; clear HB; have HO_8 := n0_; have HO392 := n1_; have HB := n2_; clear n0_ n1_ n2_; (try clear hb); (try clear hb2); (try clear hk); (try clear hi); (try clear ho0)) | ((with_reducible refine gate_dst (N := 51) rfl ?_); (try (refine gate_guard (by rfl) ?_; dsimp only)); refine Kd.R_lit (Kd.int .u64) _ 23 ?hg (N := 51) ?hd (xs := ([Go.bits .andNot .u64 a0 (ji18), Go.bits .or .u64 (Go.bits .andNot .u64 a0 (ji18)) (ji18)] : List Int)) (inner := [.int .u64 (Go.bits .andNot .u64 a0 (ji18)), .int .u64 (Go.bits .or .u64 (Go.bits .andNot .u64 a0 (ji18)) (ji18))]) (ok := fun _ => True) (okp := fun _ => True) ?hr ?hp (fun _ hk => hk) trivial (Below.refl _ _) (Nat.le_refl _) (by simp) ?_; (case hd => rfl); (case hg => rfl); (case hr => first | (go_simp; done) | (go_simp; rfl)); (case hp => exact (Reps.one (show Kd.M (Kd.int .u64) _ _ _ (Go.bits .andNot .u64 a0 (ji18)) [.int .u64 (Go.bits .andNot .u64 a0 (ji18))] from rfl) (Reps.one (show Kd.M (Kd.int .u64) _ _ _ (Go.bits .or .u64 (Go.bits .andNot .u64 a0 (ji18)) (ji18)) [.int .u64 (Go.bits .or .u64 (Go.bits .andNot .u64 a0 (ji18)) (ji18))] from rfl) (Reps.none _ _)))); intro v394 w51 ho52 hb hg_ hnew_; clear hg_ hnew_; (first | rw [← Ny393.out] at ho52 | (simp only [Int.reduceToNat] at ho52; rw [← Ny393.out] at ho52)); have n0_ := Aside0.mk (Kd.R_elder' (by (with_reducible repeat (first | apply Kd.R_alloc | apply Kd.R_drewN | apply Kd.R_drew)); exact HO_8.out) (Kd.R_base ho52) hb); have n1_ := Aside0.mk (Kd.R_below (by (with_reducible repeat (first | apply Kd.R_alloc | apply Kd.R_drewN | apply Kd.R_drew)); exact HO392.out) hb); have n2_ := Aside0.mk (Kd.R_lower (Kd.R_new' ho52 (Kd.R_lt (by (with_reducible repeat (first | apply Kd.R_alloc | apply Kd.R_drewN | apply Kd.R_drew)); exact HO_8.out))) (below_size (by repeat (first | (with_reducible first | exact HB.out | apply below_alloc | apply pw_below_drewN | apply below_drew1) | exact HB.out)))); have n3_ := Aside0.mk (below_step (by repeat (first | (with_reducible first | exact HB.out | apply below_alloc | apply pw_below_drewN | apply below_drew1) | exact HB.out)) hb); clear HO_8; clear HO392; clear HB; have HO_8 := n0_; have HO392 := n1_; have HO395 := n2_; have HB := n3_; clear n0_ n1_ n2_ n3_; clear hb ho52; obtain ⟨Ao53, co53, eo53⟩ := Kd.R_slice HO395.out; subst eo53) | ((with_reducible refine gate_callee (f := 41) rfl ?_); refine goesL_ (some 52) rfl rfl Try.func41 (by kernel_rfl) rfl #[.slice Ao53 y393.length co53] rfl (by (try simp only [List.map_toArray, List.map_cons, List.map_nil]); first | done | rfl | (simp only [List.length_drop, List.length_take]; rfl)) ?_; (with_reducible refine (pack_Put.calls _ _ y393 t396 t397 _ ?side1 ?side2 A21.out).mono ?_); (case side1 => repeat (first | exact (Kd.R_reads' HO395.out).2.2 | (with_reducible refine Kd.C_alloc ?_ _) | (with_reducible refine Kd.C_drewN ?_ _) | (with_reducible refine Kd.C_drew ?_))); (case side2 => exact (Kd.R_reads' HO395.out).2.1); rintro e w54 ⟨v398, rfl, ho0, hb⟩; refine ⟨_, rfl, ?_⟩; have n0_ := Aside0.mk (Kd.R_below (by (with_reducible repeat (first | apply Kd.R_alloc | apply Kd.R_drewN | apply Kd.R_drew)); exact HO_8.out) hb); have n1_ := Aside0.mk (Kd.R_elder' (by (with_reducible repeat (first | apply Kd.R_alloc | apply Kd.R_drewN | apply Kd.R_drew)); exact HO392.out) (Kd.R_base ho0) hb); have n2_ := Aside0.mk (Kd.R_below (by (with_reducible repeat (first | apply Kd.R_alloc | apply Kd.R_drewN | apply Kd.R_drew)); exact HO395.out) hb); have n3_ := Aside0.mk (Kd.R_lower (Kd.R_new' ho0 (Kd.R_lt (by (with_reducible repeat (first | apply Kd.R_alloc | apply Kd.R_drewN | apply Kd.R_drew)); exact HO392.out))) (below_size (by repeat (first | (with_reducible first | exact HB.out | apply below_alloc | apply pw_below_drewN | apply below_drew1) | exact HB.out)))); have n4_ := Aside0.mk (below_step (by repeat (first | (with_reducible first | exact HB.out | apply below_alloc | apply pw_below_drewN | apply below_drew1) | exact HB.out)) hb); clear HO_8; clear HO392; clear HO395; clear HB; have HO_8 := n0_; have HO392 := n1_; have HO395 := n2_; have HO399 := n3_; have HB := n4_; clear n0_ n1_ n2_ n3_ n4_; (try clear hb); (try clear hb2); (try clear hk); (try clear hi); (try clear ho0)) | ((with_reducible refine gate_callee (f := 43) rfl ?_); refine goesL_ (some 55) rfl rfl Try.func43 (by kernel_rfl) rfl #[] rfl (by (try simp only [List.map_toArray, List.map_cons, List.map_nil]); first | done | rfl | (simp only [List.length_drop, List.length_take]; rfl)) ?_; (with_reducible refine (ricklaw06_puts.calls  true _ A22.out).mono ?_); rintro e w55 ⟨rfl, hb⟩; refine ⟨_, rfl, ?_⟩; have n0_ := Aside0.mk (Kd.R_below (by (with_reducible repeat (first | apply Kd.R_alloc | apply Kd.R_drewN | apply Kd.R_drew)); exact HO_8.out) hb); have n1_ := Aside0.mk (Kd.R_below (by (with_reducible repeat (first | apply Kd.R_alloc | apply Kd.R_drewN | apply Kd.R_drew)); exact HO392.out) hb); have n2_ := Aside0.mk (Kd.R_below (by (with_reducible repeat (first | apply Kd.R_alloc | apply Kd.R_drewN | apply Kd.R_drew)); exact HO395.out) hb); have n3_ := Aside0.mk (Kd.R_below (by (with_reducible repeat (first | apply Kd.R_alloc | apply Kd.R_drewN | apply Kd.R_drew)); exact HO399.out) hb); have n4_ := Aside0.mk (below_step (by repeat (first | (with_reducible first | exact HB.out | apply below_alloc | apply pw_below_drewN | apply below_drew1) | exact HB.out)) hb); clear HO_8; clear HO392; clear HO395; clear HO399; clear HB; have HO_8 := n0_; have HO392 := n1_; have HO395 := n2_; have HO399 := n3_; have HB := n4_; clear n0_ n1_ n2_ n3_ n4_; (try clear hb); (try clear hb2); (try clear hk); (try clear hi); obtain ⟨Ao56, co56, eo56⟩ := Kd.R_slice HO392.out; subst eo56; have p401 : 0 ≤ (8 : Int) := (by omega); have q401 : 8 < (t389.length : Int) := of_decide_eq_true (by first | (with_reducible assumption) | assumption); obtain ⟨ad401, e401, hx401_0⟩ := Kd.at_int (Kd.R_reads' HO392.out).2.2 8 p401 q401; cases e401; (try simp only [show (8 : Int).toNat = 8 from rfl, Nat.reduceMul, Nat.reduceEqDiff, Go.Addr.add, ↓reduceIte] at hx401_0); have qi401 : (8 < t389.length) = True := eq_true (by omega); (try rw [show ((8 : Int)).toNat = 8 from rfl] at hx401_0); replace p401 := eq_true p401; replace q401 := eq_true q401))
                          go_ret
                          exact ⟨by first | rfl | (simp [errW_none, errW_some] <;> rfl) | (simp only [← hji4, ← hji16, ← hji18]; first | rfl | (simp [errW_none, errW_some] <;> rfl)) | (simp [*, errW_none, errW_some] <;> rfl), by repeat (first | (with_reducible first | exact HB.out | apply below_alloc | apply pw_below_drewN | apply below_drew1) | exact HB.out)⟩
                      · rw [if_neg c27] at H
                        have c27b0 : ((rd t389 8) == 0) = false := beq_eq_false_iff_ne.mpr c27
                        have c27b1 : ((rd t389 8) != 0) = true := bne_iff_ne.mpr c27
                        obtain rfl := Option.some.inj H
                        obtain ⟨Ao57, co57, eo57⟩ := Kd.R_slice HO_8.out
                        subst eo57
                        go_wp2_with (first | ((with_reducible refine gate_callee (f := 41) rfl ?_); refine goesL_ (some 34) rfl rfl Try.func41 (by kernel_rfl) rfl #[.slice Ao57 x8_1.length co57] rfl (by (try simp only [List.map_toArray, List.map_cons, List.map_nil]); first | done | rfl | (simp only [List.length_drop, List.length_take]; rfl)) ?_; (with_reducible refine (pack_Put.calls _ _ x8_1 t389 t390 _ ?side1 ?side2 A15.out).mono ?_); (case side1 => repeat (first | exact (Kd.R_reads' HO_8.out).2.2 | (with_reducible refine Kd.C_alloc ?_ _) | (with_reducible refine Kd.C_drewN ?_ _) | (with_reducible refine Kd.C_drew ?_))); (case side2 => exact (Kd.R_reads' HO_8.out).2.1); rintro e w58 ⟨v391, rfl, ho0, hb⟩; refine ⟨_, rfl, ?_⟩; have n0_ := Aside0.mk (Kd.R_below (by (with_reducible repeat (first | apply Kd.R_alloc | apply Kd.R_drewN | apply Kd.R_drew)); exact HO_8.out) hb); have n1_ := Aside0.mk (Kd.R_lower ho0 (below_size (by repeat (first | (with_reducible first | exact HB.out | apply below_alloc | apply pw_below_drewN | apply below_drew1) | exact HB.out)))); have n2_ := Aside0.mk (below_step (by repeat (first | (with_reducible first | exact HB.out | apply below_alloc | apply pw_below_drewN | apply below_drew1) | exact HB.out)) hb); clear HO_8; clear HB; have HO_8 := n0_; have HO392 := n1_; have HB := n2_; clear n0_ n1_ n2_; (try clear hb); (try clear hb2); (try clear hk); (try clear hi); (try clear ho0)) | ((with_reducible refine gate_dst (N := 51) rfl ?_); (try (refine gate_guard (by rfl) ?_; dsimp only)); refine Kd.R_lit (Kd.int .u64) _ 23 ?hg (N := 51) ?hd (xs := ([Go.bits .andNot .u64 a0 (ji18), Go.bits .or .u64 (Go.bits .andNot .u64 a0 (ji18)) (ji18)] : List Int)) (inner := [.int .u64 (Go.bits .andNot .u64 a0 (ji18)), .int .u64 (Go.bits .or .u64 (Go.bits .andNot .u64 a0 (ji18)) (ji18))]) (ok := fun _ => True) (okp := fun _ => True) ?hr ?hp (fun _ hk => hk) trivial (Below.refl _ _) (Nat.le_refl _) (by simp) ?_; (case hd => rfl); (case hg => rfl); (case hr => first | (go_simp; done) | (go_simp; rfl)); (case hp => exact (Reps.one (show Kd.M (Kd.int .u64) _ _ _ (Go.bits .andNot .u64 a0 (ji18)) [.int .u64 (Go.bits .andNot .u64 a0 (ji18))] from rfl) (Reps.one (show Kd.M (Kd.int .u64) _ _ _ (Go.bits .or .u64 (Go.bits .andNot .u64 a0 (ji18)) (ji18)) [.int .u64 (Go.bits .or .u64 (Go.bits .andNot .u64 a0 (ji18)) (ji18))] from rfl) (Reps.none _ _)))); intro v394 w59 ho60 hb hg_ hnew_; clear hg_ hnew_; (first | rw [← Ny393.out] at ho60 | (simp only [Int.reduceToNat] at ho60; rw [← Ny393.out] at ho60)); have n0_ := Aside0.mk (Kd.R_elder' (by (with_reducible repeat (first | apply Kd.R_alloc | apply Kd.R_drewN | apply Kd.R_drew)); exact HO_8.out) (Kd.R_base ho60) hb); have n1_ := Aside0.mk (Kd.R_below (by (with_reducible repeat (first | apply Kd.R_alloc | apply Kd.R_drewN | apply Kd.R_drew)); exact HO392.out) hb); have n2_ := Aside0.mk (Kd.R_lower (Kd.R_new' ho60 (Kd.R_lt (by (with_reducible repeat (first | apply Kd.R_alloc | apply Kd.R_drewN | apply Kd.R_drew)); exact HO_8.out))) (below_size (by repeat (first | (with_reducible first | exact HB.out | apply below_alloc | apply pw_below_drewN | apply below_drew1) | exact HB.out)))); have n3_ := Aside0.mk (below_step (by repeat (first | (with_reducible first | exact HB.out | apply below_alloc | apply pw_below_drewN | apply below_drew1) | exact HB.out)) hb); clear HO_8; clear HO392; clear HB; have HO_8 := n0_; have HO392 := n1_; have HO395 := n2_; have HB := n3_; clear n0_ n1_ n2_ n3_; clear hb ho60; obtain ⟨Ao61, co61, eo61⟩ := Kd.R_slice HO395.out; subst eo61) | ((with_reducible refine gate_callee (f := 41) rfl ?_); refine goesL_ (some 52) rfl rfl Try.func41 (by kernel_rfl) rfl #[.slice Ao61 y393.length co61] rfl (by (try simp only [List.map_toArray, List.map_cons, List.map_nil]); first | done | rfl | (simp only [List.length_drop, List.length_take]; rfl)) ?_; (with_reducible refine (pack_Put.calls _ _ y393 t396 t397 _ ?side1 ?side2 A21.out).mono ?_); (case side1 => repeat (first | exact (Kd.R_reads' HO395.out).2.2 | (with_reducible refine Kd.C_alloc ?_ _) | (with_reducible refine Kd.C_drewN ?_ _) | (with_reducible refine Kd.C_drew ?_))); (case side2 => exact (Kd.R_reads' HO395.out).2.1); rintro e w62 ⟨v398, rfl, ho0, hb⟩; refine ⟨_, rfl, ?_⟩; have n0_ := Aside0.mk (Kd.R_below (by (with_reducible repeat (first | apply Kd.R_alloc | apply Kd.R_drewN | apply Kd.R_drew)); exact HO_8.out) hb); have n1_ := Aside0.mk (Kd.R_elder' (by (with_reducible repeat (first | apply Kd.R_alloc | apply Kd.R_drewN | apply Kd.R_drew)); exact HO392.out) (Kd.R_base ho0) hb); have n2_ := Aside0.mk (Kd.R_below (by (with_reducible repeat (first | apply Kd.R_alloc | apply Kd.R_drewN | apply Kd.R_drew)); exact HO395.out) hb); have n3_ := Aside0.mk (Kd.R_lower (Kd.R_new' ho0 (Kd.R_lt (by (with_reducible repeat (first | apply Kd.R_alloc | apply Kd.R_drewN | apply Kd.R_drew)); exact HO392.out))) (below_size (by repeat (first | (with_reducible first | exact HB.out | apply below_alloc | apply pw_below_drewN | apply below_drew1) | exact HB.out)))); have n4_ := Aside0.mk (below_step (by repeat (first | (with_reducible first | exact HB.out | apply below_alloc | apply pw_below_drewN | apply below_drew1) | exact HB.out)) hb); clear HO_8; clear HO392; clear HO395; clear HB; have HO_8 := n0_; have HO392 := n1_; have HO395 := n2_; have HO399 := n3_; have HB := n4_; clear n0_ n1_ n2_ n3_ n4_; (try clear hb); (try clear hb2); (try clear hk); (try clear hi); (try clear ho0)) | ((with_reducible refine gate_callee (f := 43) rfl ?_); refine goesL_ (some 55) rfl rfl Try.func43 (by kernel_rfl) rfl #[] rfl (by (try simp only [List.map_toArray, List.map_cons, List.map_nil]); first | done | rfl | (simp only [List.length_drop, List.length_take]; rfl)) ?_; (with_reducible refine (ricklaw06_puts.calls  true _ A22.out).mono ?_); rintro e w63 ⟨rfl, hb⟩; refine ⟨_, rfl, ?_⟩; have n0_ := Aside0.mk (Kd.R_below (by (with_reducible repeat (first | apply Kd.R_alloc | apply Kd.R_drewN | apply Kd.R_drew)); exact HO_8.out) hb); have n1_ := Aside0.mk (Kd.R_below (by (with_reducible repeat (first | apply Kd.R_alloc | apply Kd.R_drewN | apply Kd.R_drew)); exact HO392.out) hb); have n2_ := Aside0.mk (Kd.R_below (by (with_reducible repeat (first | apply Kd.R_alloc | apply Kd.R_drewN | apply Kd.R_drew)); exact HO395.out) hb); have n3_ := Aside0.mk (Kd.R_below (by (with_reducible repeat (first | apply Kd.R_alloc | apply Kd.R_drewN | apply Kd.R_drew)); exact HO399.out) hb); have n4_ := Aside0.mk (below_step (by repeat (first | (with_reducible first | exact HB.out | apply below_alloc | apply pw_below_drewN | apply below_drew1) | exact HB.out)) hb); clear HO_8; clear HO392; clear HO395; clear HO399; clear HB; have HO_8 := n0_; have HO392 := n1_; have HO395 := n2_; have HO399 := n3_; have HB := n4_; clear n0_ n1_ n2_ n3_ n4_; (try clear hb); (try clear hb2); (try clear hk); (try clear hi); obtain ⟨Ao64, co64, eo64⟩ := Kd.R_slice HO392.out; subst eo64; have p401 : 0 ≤ (8 : Int) := (by omega); have q401 : 8 < (t389.length : Int) := of_decide_eq_true (by first | (with_reducible assumption) | assumption); obtain ⟨ad401, e401, hx401_0⟩ := Kd.at_int (Kd.R_reads' HO392.out).2.2 8 p401 q401; cases e401; (try simp only [show (8 : Int).toNat = 8 from rfl, Nat.reduceMul, Nat.reduceEqDiff, Go.Addr.add, ↓reduceIte] at hx401_0); have qi401 : (8 < t389.length) = True := eq_true (by omega); (try rw [show ((8 : Int)).toNat = 8 from rfl] at hx401_0); replace p401 := eq_true p401; replace q401 := eq_true q401))
                        go_ret
                        exact ⟨by first | rfl | (simp [errW_none, errW_some] <;> rfl) | (simp only [← hji4, ← hji16, ← hji18]; first | rfl | (simp [errW_none, errW_some] <;> rfl)) | (simp [*, errW_none, errW_some] <;> rfl), by repeat (first | (with_reducible first | exact HB.out | apply below_alloc | apply pw_below_drewN | apply below_drew1) | exact HB.out)⟩
                    · rw [if_neg c26] at H
                      exact absurd H (by simp)
                  · rw [if_neg c25] at H
                    have c25b0 : ((t389.length : Int) == 9) = false := beq_eq_false_iff_ne.mpr c25
                    have c25b1 : ((t389.length : Int) != 9) = true := bne_iff_ne.mpr c25
                    obtain rfl := Option.some.inj H
                    obtain ⟨Ao65, co65, eo65⟩ := Kd.R_slice HO_8.out
                    subst eo65
                    go_wp2_with (first | ((with_reducible refine gate_callee (f := 41) rfl ?_); refine goesL_ (some 34) rfl rfl Try.func41 (by kernel_rfl) rfl #[.slice Ao65 x8_1.length co65] rfl (by (try simp only [List.map_toArray, List.map_cons, List.map_nil]); first | done | rfl | (simp only [List.length_drop, List.length_take]; rfl)) ?_; (with_reducible refine (pack_Put.calls _ _ x8_1 t389 t390 _ ?side1 ?side2 A15.out).mono ?_); (case side1 => repeat (first | exact (Kd.R_reads' HO_8.out).2.2 | (with_reducible refine Kd.C_alloc ?_ _) | (with_reducible refine Kd.C_drewN ?_ _) | (with_reducible refine Kd.C_drew ?_))); (case side2 => exact (Kd.R_reads' HO_8.out).2.1); rintro e w66 ⟨v391, rfl, ho0, hb⟩; refine ⟨_, rfl, ?_⟩; have n0_ := Aside0.mk (Kd.R_below (by (with_reducible repeat (first | apply Kd.R_alloc | apply Kd.R_drewN | apply Kd.R_drew)); exact HO_8.out) hb); have n1_ := Aside0.mk (Kd.R_lower ho0 (below_size (by repeat (first | (with_reducible first | exact HB.out | apply below_alloc | apply pw_below_drewN | apply below_drew1) | exact HB.out)))); have n2_ := Aside0.mk (below_step (by repeat (first | (with_reducible first | exact HB.out | apply below_alloc | apply pw_below_drewN | apply below_drew1) | exact HB.out)) hb); clear HO_8; clear HB; have HO_8 := n0_; have HO392 := n1_; have HB := n2_; clear n0_ n1_ n2_; (try clear hb); (try clear hb2); (try clear hk); (try clear hi); (try clear ho0)) | ((with_reducible refine gate_dst (N := 51) rfl ?_); (try (refine gate_guard (by rfl) ?_; dsimp only)); refine Kd.R_lit (Kd.int .u64) _ 23 ?hg (N := 51) ?hd (xs := ([Go.bits .andNot .u64 a0 (ji18), Go.bits .or .u64 (Go.bits .andNot .u64 a0 (ji18)) (ji18)] : List Int)) (inner := [.int .u64 (Go.bits .andNot .u64 a0 (ji18)), .int .u64 (Go.bits .or .u64 (Go.bits .andNot .u64 a0 (ji18)) (ji18))]) (ok := fun _ => True) (okp := fun _ => True) ?hr ?hp (fun _ hk => hk) trivial (Below.refl _ _) (Nat.le_refl _) (by simp) ?_; (case hd => rfl); (case hg => rfl); (case hr => first | (go_simp; done) | (go_simp; rfl)); (case hp => exact (Reps.one (show Kd.M (Kd.int .u64) _ _ _ (Go.bits .andNot .u64 a0 (ji18)) [.int .u64 (Go.bits .andNot .u64 a0 (ji18))] from rfl) (Reps.one (show Kd.M (Kd.int .u64) _ _ _ (Go.bits .or .u64 (Go.bits .andNot .u64 a0 (ji18)) (ji18)) [.int .u64 (Go.bits .or .u64 (Go.bits .andNot .u64 a0 (ji18)) (ji18))] from rfl) (Reps.none _ _)))); intro v394 w67 ho68 hb hg_ hnew_; clear hg_ hnew_; (first | rw [← Ny393.out] at ho68 | (simp only [Int.reduceToNat] at ho68; rw [← Ny393.out] at ho68)); have n0_ := Aside0.mk (Kd.R_elder' (by (with_reducible repeat (first | apply Kd.R_alloc | apply Kd.R_drewN | apply Kd.R_drew)); exact HO_8.out) (Kd.R_base ho68) hb); have n1_ := Aside0.mk (Kd.R_below (by (with_reducible repeat (first | apply Kd.R_alloc | apply Kd.R_drewN | apply Kd.R_drew)); exact HO392.out) hb); have n2_ := Aside0.mk (Kd.R_lower (Kd.R_new' ho68 (Kd.R_lt (by (with_reducible repeat (first | apply Kd.R_alloc | apply Kd.R_drewN | apply Kd.R_drew)); exact HO_8.out))) (below_size (by repeat (first | (with_reducible first | exact HB.out | apply below_alloc | apply pw_below_drewN | apply below_drew1) | exact HB.out)))); have n3_ := Aside0.mk (below_step (by repeat (first | (with_reducible first | exact HB.out | apply below_alloc | apply pw_below_drewN | apply below_drew1) | exact HB.out)) hb); clear HO_8; clear HO392; clear HB; have HO_8 := n0_; have HO392 := n1_; have HO395 := n2_; have HB := n3_; clear n0_ n1_ n2_ n3_; clear hb ho68; obtain ⟨Ao69, co69, eo69⟩ := Kd.R_slice HO395.out; subst eo69) | ((with_reducible refine gate_callee (f := 41) rfl ?_); refine goesL_ (some 52) rfl rfl Try.func41 (by kernel_rfl) rfl #[.slice Ao69 y393.length co69] rfl (by (try simp only [List.map_toArray, List.map_cons, List.map_nil]); first | done | rfl | (simp only [List.length_drop, List.length_take]; rfl)) ?_; (with_reducible refine (pack_Put.calls _ _ y393 t396 t397 _ ?side1 ?side2 A21.out).mono ?_); (case side1 => repeat (first | exact (Kd.R_reads' HO395.out).2.2 | (with_reducible refine Kd.C_alloc ?_ _) | (with_reducible refine Kd.C_drewN ?_ _) | (with_reducible refine Kd.C_drew ?_))); (case side2 => exact (Kd.R_reads' HO395.out).2.1); rintro e w70 ⟨v398, rfl, ho0, hb⟩; refine ⟨_, rfl, ?_⟩; have n0_ := Aside0.mk (Kd.R_below (by (with_reducible repeat (first | apply Kd.R_alloc | apply Kd.R_drewN | apply Kd.R_drew)); exact HO_8.out) hb); have n1_ := Aside0.mk (Kd.R_elder' (by (with_reducible repeat (first | apply Kd.R_alloc | apply Kd.R_drewN | apply Kd.R_drew)); exact HO392.out) (Kd.R_base ho0) hb); have n2_ := Aside0.mk (Kd.R_below (by (with_reducible repeat (first | apply Kd.R_alloc | apply Kd.R_drewN | apply Kd.R_drew)); exact HO395.out) hb); have n3_ := Aside0.mk (Kd.R_lower (Kd.R_new' ho0 (Kd.R_lt (by (with_reducible repeat (first | apply Kd.R_alloc | apply Kd.R_drewN | apply Kd.R_drew)); exact HO392.out))) (below_size (by repeat (first | (with_reducible first | exact HB.out | apply below_alloc | apply pw_below_drewN | apply below_drew1) | exact HB.out)))); have n4_ := Aside0.mk (below_step (by repeat (first | (with_reducible first | exact HB.out | apply below_alloc | apply pw_below_drewN | apply below_drew1) | exact HB.out)) hb); clear HO_8; clear HO392; clear HO395; clear HB; have HO_8 := n0_; have HO392 := n1_; have HO395 := n2_; have HO399 := n3_; have HB := n4_; clear n0_ n1_ n2_ n3_ n4_; (try clear hb); (try clear hb2); (try clear hk); (try clear hi); (try clear ho0)) | ((with_reducible refine gate_callee (f := 43) rfl ?_); refine goesL_ (some 55) rfl rfl Try.func43 (by kernel_rfl) rfl #[] rfl (by (try simp only [List.map_toArray, List.map_cons, List.map_nil]); first | done | rfl | (simp only [List.length_drop, List.length_take]; rfl)) ?_; (with_reducible refine (ricklaw06_puts.calls  true _ A22.out).mono ?_); rintro e w71 ⟨rfl, hb⟩; refine ⟨_, rfl, ?_⟩; have n0_ := Aside0.mk (Kd.R_below (by (with_reducible repeat (first | apply Kd.R_alloc | apply Kd.R_drewN | apply Kd.R_drew)); exact HO_8.out) hb); have n1_ := Aside0.mk (Kd.R_below (by (with_reducible repeat (first | apply Kd.R_alloc | apply Kd.R_drewN | apply Kd.R_drew)); exact HO392.out) hb); have n2_ := Aside0.mk (Kd.R_below (by (with_reducible repeat (first | apply Kd.R_alloc | apply Kd.R_drewN | apply Kd.R_drew)); exact HO395.out) hb); have n3_ := Aside0.mk (Kd.R_below (by (with_reducible repeat (first | apply Kd.R_alloc | apply Kd.R_drewN | apply Kd.R_drew)); exact HO399.out) hb); have n4_ := Aside0.mk (below_step (by repeat (first | (with_reducible first | exact HB.out | apply below_alloc | apply pw_below_drewN | apply below_drew1) | exact HB.out)) hb); clear HO_8; clear HO392; clear HO395; clear HO399; clear HB; have HO_8 := n0_; have HO392 := n1_; have HO395 := n2_; have HO399 := n3_; have HB := n4_; clear n0_ n1_ n2_ n3_ n4_; (try clear hb); (try clear hb2); (try clear hk); (try clear hi); obtain ⟨Ao72, co72, eo72⟩ := Kd.R_slice HO392.out; subst eo72))
                    go_ret
                    exact ⟨by first | rfl | (simp [errW_none, errW_some] <;> rfl) | (simp only [← hji4, ← hji16, ← hji18]; first | rfl | (simp [errW_none, errW_some] <;> rfl)) | (simp [*, errW_none, errW_some] <;> rfl), by repeat (first | (with_reducible first | exact HB.out | apply below_alloc | apply pw_below_drewN | apply below_drew1) | exact HB.out)⟩
                · rw [if_neg c24] at H
                  have c24b0 : (t390 == 0) = false := beq_eq_false_iff_ne.mpr c24
                  have c24b1 : (t390 != 0) = true := bne_iff_ne.mpr c24
                  obtain rfl := Option.some.inj H
                  obtain ⟨Ao73, co73, eo73⟩ := Kd.R_slice HO_8.out
                  subst eo73
                  go_wp2_with (first | ((with_reducible refine gate_callee (f := 41) rfl ?_); refine goesL_ (some 34) rfl rfl Try.func41 (by kernel_rfl) rfl #[.slice Ao73 x8_1.length co73] rfl (by (try simp only [List.map_toArray, List.map_cons, List.map_nil]); first | done | rfl | (simp only [List.length_drop, List.length_take]; rfl)) ?_; (with_reducible refine (pack_Put.calls _ _ x8_1 t389 t390 _ ?side1 ?side2 A15.out).mono ?_); (case side1 => repeat (first | exact (Kd.R_reads' HO_8.out).2.2 | (with_reducible refine Kd.C_alloc ?_ _) | (with_reducible refine Kd.C_drewN ?_ _) | (with_reducible refine Kd.C_drew ?_))); (case side2 => exact (Kd.R_reads' HO_8.out).2.1); rintro e w74 ⟨v391, rfl, ho0, hb⟩; refine ⟨_, rfl, ?_⟩; have n0_ := Aside0.mk (Kd.R_below (by (with_reducible repeat (first | apply Kd.R_alloc | apply Kd.R_drewN | apply Kd.R_drew)); exact HO_8.out) hb); have n1_ := Aside0.mk (Kd.R_lower ho0 (below_size (by repeat (first | (with_reducible first | exact HB.out | apply below_alloc | apply pw_below_drewN | apply below_drew1) | exact HB.out)))); have n2_ := Aside0.mk (below_step (by repeat (first | (with_reducible first | exact HB.out | apply below_alloc | apply pw_below_drewN | apply below_drew1) | exact HB.out)) hb); clear HO_8; clear HB; have HO_8 := n0_; have HO392 := n1_; have HB := n2_; clear n0_ n1_ n2_; (try clear hb); (try clear hb2); (try clear hk); (try clear hi); (try clear ho0)) | ((with_reducible refine gate_dst (N := 51) rfl ?_); (try (refine gate_guard (by rfl) ?_; dsimp only)); refine Kd.R_lit (Kd.int .u64) _ 23 ?hg (N := 51) ?hd (xs := ([Go.bits .andNot .u64 a0 (ji18), Go.bits .or .u64 (Go.bits .andNot .u64 a0 (ji18)) (ji18)] : List Int)) (inner := [.int .u64 (Go.bits .andNot .u64 a0 (ji18)), .int .u64 (Go.bits .or .u64 (Go.bits .andNot .u64 a0 (ji18)) (ji18))]) (ok := fun _ => True) (okp := fun _ => True) ?hr ?hp (fun _ hk => hk) trivial (Below.refl _ _) (Nat.le_refl _) (by simp) ?_; (case hd => rfl); (case hg => rfl); (case hr => first | (go_simp; done) | (go_simp; rfl)); (case hp => exact (Reps.one (show Kd.M (Kd.int .u64) _ _ _ (Go.bits .andNot .u64 a0 (ji18)) [.int .u64 (Go.bits .andNot .u64 a0 (ji18))] from rfl) (Reps.one (show Kd.M (Kd.int .u64) _ _ _ (Go.bits .or .u64 (Go.bits .andNot .u64 a0 (ji18)) (ji18)) [.int .u64 (Go.bits .or .u64 (Go.bits .andNot .u64 a0 (ji18)) (ji18))] from rfl) (Reps.none _ _)))); intro v394 w75 ho76 hb hg_ hnew_; clear hg_ hnew_; (first | rw [← Ny393.out] at ho76 | (simp only [Int.reduceToNat] at ho76; rw [← Ny393.out] at ho76)); have n0_ := Aside0.mk (Kd.R_elder' (by (with_reducible repeat (first | apply Kd.R_alloc | apply Kd.R_drewN | apply Kd.R_drew)); exact HO_8.out) (Kd.R_base ho76) hb); have n1_ := Aside0.mk (Kd.R_below (by (with_reducible repeat (first | apply Kd.R_alloc | apply Kd.R_drewN | apply Kd.R_drew)); exact HO392.out) hb); have n2_ := Aside0.mk (Kd.R_lower (Kd.R_new' ho76 (Kd.R_lt (by (with_reducible repeat (first | apply Kd.R_alloc | apply Kd.R_drewN | apply Kd.R_drew)); exact HO_8.out))) (below_size (by repeat (first | (with_reducible first | exact HB.out | apply below_alloc | apply pw_below_drewN | apply below_drew1) | exact HB.out)))); have n3_ := Aside0.mk (below_step (by repeat (first | (with_reducible first | exact HB.out | apply below_alloc | apply pw_below_drewN | apply below_drew1) | exact HB.out)) hb); clear HO_8; clear HO392; clear HB; have HO_8 := n0_; have HO392 := n1_; have HO395 := n2_; have HB := n3_; clear n0_ n1_ n2_ n3_; clear hb ho76; obtain ⟨Ao77, co77, eo77⟩ := Kd.R_slice HO395.out; subst eo77) | ((with_reducible refine gate_callee (f := 41) rfl ?_); refine goesL_ (some 52) rfl rfl Try.func41 (by kernel_rfl) rfl #[.slice Ao77 y393.length co77] rfl (by (try simp only [List.map_toArray, List.map_cons, List.map_nil]); first | done | rfl | (simp only [List.length_drop, List.length_take]; rfl)) ?_; (with_reducible refine (pack_Put.calls _ _ y393 t396 t397 _ ?side1 ?side2 A21.out).mono ?_); (case side1 => repeat (first | exact (Kd.R_reads' HO395.out).2.2 | (with_reducible refine Kd.C_alloc ?_ _) | (with_reducible refine Kd.C_drewN ?_ _) | (with_reducible refine Kd.C_drew ?_))); (case side2 => exact (Kd.R_reads' HO395.out).2.1); rintro e w78 ⟨v398, rfl, ho0, hb⟩; refine ⟨_, rfl, ?_⟩; have n0_ := Aside0.mk (Kd.R_below (by (with_reducible repeat (first | apply Kd.R_alloc | apply Kd.R_drewN | apply Kd.R_drew)); exact HO_8.out) hb); have n1_ := Aside0.mk (Kd.R_elder' (by (with_reducible repeat (first | apply Kd.R_alloc | apply Kd.R_drewN | apply Kd.R_drew)); exact HO392.out) (Kd.R_base ho0) hb); have n2_ := Aside0.mk (Kd.R_below (by (with_reducible repeat (first | apply Kd.R_alloc | apply Kd.R_drewN | apply Kd.R_drew)); exact HO395.out) hb); have n3_ := Aside0.mk (Kd.R_lower (Kd.R_new' ho0 (Kd.R_lt (by (with_reducible repeat (first | apply Kd.R_alloc | apply Kd.R_drewN | apply Kd.R_drew)); exact HO392.out))) (below_size (by repeat (first | (with_reducible first | exact HB.out | apply below_alloc | apply pw_below_drewN | apply below_drew1) | exact HB.out)))); have n4_ := Aside0.mk (below_step (by repeat (first | (with_reducible first | exact HB.out | apply below_alloc | apply pw_below_drewN | apply below_drew1) | exact HB.out)) hb); clear HO_8; clear HO392; clear HO395; clear HB; have HO_8 := n0_; have HO392 := n1_; have HO395 := n2_; have HO399 := n3_; have HB := n4_; clear n0_ n1_ n2_ n3_ n4_; (try clear hb); (try clear hb2); (try clear hk); (try clear hi); (try clear ho0)) | ((with_reducible refine gate_callee (f := 43) rfl ?_); refine goesL_ (some 55) rfl rfl Try.func43 (by kernel_rfl) rfl #[] rfl (by (try simp only [List.map_toArray, List.map_cons, List.map_nil]); first | done | rfl | (simp only [List.length_drop, List.length_take]; rfl)) ?_; (with_reducible refine (ricklaw06_puts.calls  true _ A22.out).mono ?_); rintro e w79 ⟨rfl, hb⟩; refine ⟨_, rfl, ?_⟩; have n0_ := Aside0.mk (Kd.R_below (by (with_reducible repeat (first | apply Kd.R_alloc | apply Kd.R_drewN | apply Kd.R_drew)); exact HO_8.out) hb); have n1_ := Aside0.mk (Kd.R_below (by (with_reducible repeat (first | apply Kd.R_alloc | apply Kd.R_drewN | apply Kd.R_drew)); exact HO392.out) hb); have n2_ := Aside0.mk (Kd.R_below (by (with_reducible repeat (first | apply Kd.R_alloc | apply Kd.R_drewN | apply Kd.R_drew)); exact HO395.out) hb); have n3_ := Aside0.mk (Kd.R_below (by (with_reducible repeat (first | apply Kd.R_alloc | apply Kd.R_drewN | apply Kd.R_drew)); exact HO399.out) hb); have n4_ := Aside0.mk (below_step (by repeat (first | (with_reducible first | exact HB.out | apply below_alloc | apply pw_below_drewN | apply below_drew1) | exact HB.out)) hb); clear HO_8; clear HO392; clear HO395; clear HO399; clear HB; have HO_8 := n0_; have HO392 := n1_; have HO395 := n2_; have HO399 := n3_; have HB := n4_; clear n0_ n1_ n2_ n3_ n4_; (try clear hb); (try clear hb2); (try clear hk); (try clear hi)))
                  go_ret
                  exact ⟨by first | rfl | (simp [errW_none, errW_some] <;> rfl) | (simp only [← hji4, ← hji16, ← hji18]; first | rfl | (simp [errW_none, errW_some] <;> rfl)) | (simp [*, errW_none, errW_some] <;> rfl), by repeat (first | (with_reducible first | exact HB.out | apply below_alloc | apply pw_below_drewN | apply below_drew1) | exact HB.out)⟩
              · replace c23 := Bool.eq_false_iff.mpr c23
                subst c23
                have H1 : (some false) = some r := by rw [if_neg (show ¬ (false = true) by decide)] at H; exact H
                clear H
                have H := H1
                clear H1
                obtain rfl := Option.some.inj H
                obtain ⟨Ao80, co80, eo80⟩ := Kd.R_slice HO_8.out
                subst eo80
                go_wp2_with (first | ((with_reducible refine gate_callee (f := 41) rfl ?_); refine goesL_ (some 34) rfl rfl Try.func41 (by kernel_rfl) rfl #[.slice Ao80 x8_1.length co80] rfl (by (try simp only [List.map_toArray, List.map_cons, List.map_nil]); first | done | rfl | (simp only [List.length_drop, List.length_take]; rfl)) ?_; (with_reducible refine (pack_Put.calls _ _ x8_1 t389 t390 _ ?side1 ?side2 A15.out).mono ?_); (case side1 => repeat (first | exact (Kd.R_reads' HO_8.out).2.2 | (with_reducible refine Kd.C_alloc ?_ _) | (with_reducible refine Kd.C_drewN ?_ _) | (with_reducible refine Kd.C_drew ?_))); (case side2 => exact (Kd.R_reads' HO_8.out).2.1); rintro e w81 ⟨v391, rfl, ho0, hb⟩; refine ⟨_, rfl, ?_⟩; have n0_ := Aside0.mk (Kd.R_below (by (with_reducible repeat (first | apply Kd.R_alloc | apply Kd.R_drewN | apply Kd.R_drew)); exact HO_8.out) hb); have n1_ := Aside0.mk (Kd.R_lower ho0 (below_size (by repeat (first | (with_reducible first | exact HB.out | apply below_alloc | apply pw_below_drewN | apply below_drew1) | exact HB.out)))); have n2_ := Aside0.mk (below_step (by repeat (first | (with_reducible first | exact HB.out | apply below_alloc | apply pw_below_drewN | apply below_drew1) | exact HB.out)) hb); clear HO_8; clear HB; have HO_8 := n0_; have HO392 := n1_; have HB := n2_; clear n0_ n1_ n2_; (try clear hb); (try clear hb2); (try clear hk); (try clear hi); (try clear ho0)) | ((with_reducible refine gate_dst (N := 51) rfl ?_); (try (refine gate_guard (by rfl) ?_; dsimp only)); refine Kd.R_lit (Kd.int .u64) _ 23 ?hg (N := 51) ?hd (xs := ([Go.bits .andNot .u64 a0 (ji18), Go.bits .or .u64 (Go.bits .andNot .u64 a0 (ji18)) (ji18)] : List Int)) (inner := [.int .u64 (Go.bits .andNot .u64 a0 (ji18)), .int .u64 (Go.bits .or .u64 (Go.bits .andNot .u64 a0 (ji18)) (ji18))]) (ok := fun _ => True) (okp := fun _ => True) ?hr ?hp (fun _ hk => hk) trivial (Below.refl _ _) (Nat.le_refl _) (by simp) ?_; (case hd => rfl); (case hg => rfl); (case hr => first | (go_simp; done) | (go_simp; rfl)); (case hp => exact (Reps.one (show Kd.M (Kd.int .u64) _ _ _ (Go.bits .andNot .u64 a0 (ji18)) [.int .u64 (Go.bits .andNot .u64 a0 (ji18))] from rfl) (Reps.one (show Kd.M (Kd.int .u64) _ _ _ (Go.bits .or .u64 (Go.bits .andNot .u64 a0 (ji18)) (ji18)) [.int .u64 (Go.bits .or .u64 (Go.bits .andNot .u64 a0 (ji18)) (ji18))] from rfl) (Reps.none _ _)))); intro v394 w82 ho83 hb hg_ hnew_; clear hg_ hnew_; (first | rw [← Ny393.out] at ho83 | (simp only [Int.reduceToNat] at ho83; rw [← Ny393.out] at ho83)); have n0_ := Aside0.mk (Kd.R_elder' (by (with_reducible repeat (first | apply Kd.R_alloc | apply Kd.R_drewN | apply Kd.R_drew)); exact HO_8.out) (Kd.R_base ho83) hb); have n1_ := Aside0.mk (Kd.R_below (by (with_reducible repeat (first | apply Kd.R_alloc | apply Kd.R_drewN | apply Kd.R_drew)); exact HO392.out) hb); have n2_ := Aside0.mk (Kd.R_lower (Kd.R_new' ho83 (Kd.R_lt (by (with_reducible repeat (first | apply Kd.R_alloc | apply Kd.R_drewN | apply Kd.R_drew)); exact HO_8.out))) (below_size (by repeat (first | (with_reducible first | exact HB.out | apply below_alloc | apply pw_below_drewN | apply below_drew1) | exact HB.out)))); have n3_ := Aside0.mk (below_step (by repeat (first | (with_reducible first | exact HB.out | apply below_alloc | apply pw_below_drewN | apply below_drew1) | exact HB.out)) hb); clear HO_8; clear HO392; clear HB; have HO_8 := n0_; have HO392 := n1_; have HO395 := n2_; have HB := n3_; clear n0_ n1_ n2_ n3_; clear hb ho83; obtain ⟨Ao84, co84, eo84⟩ := Kd.R_slice HO395.out; subst eo84) | ((with_reducible refine gate_callee (f := 41) rfl ?_); refine goesL_ (some 52) rfl rfl Try.func41 (by kernel_rfl) rfl #[.slice Ao84 y393.length co84] rfl (by (try simp only [List.map_toArray, List.map_cons, List.map_nil]); first | done | rfl | (simp only [List.length_drop, List.length_take]; rfl)) ?_; (with_reducible refine (pack_Put.calls _ _ y393 t396 t397 _ ?side1 ?side2 A21.out).mono ?_); (case side1 => repeat (first | exact (Kd.R_reads' HO395.out).2.2 | (with_reducible refine Kd.C_alloc ?_ _) | (with_reducible refine Kd.C_drewN ?_ _) | (with_reducible refine Kd.C_drew ?_))); (case side2 => exact (Kd.R_reads' HO395.out).2.1); rintro e w85 ⟨v398, rfl, ho0, hb⟩; refine ⟨_, rfl, ?_⟩; have n0_ := Aside0.mk (Kd.R_below (by (with_reducible repeat (first | apply Kd.R_alloc | apply Kd.R_drewN | apply Kd.R_drew)); exact HO_8.out) hb); have n1_ := Aside0.mk (Kd.R_elder' (by (with_reducible repeat (first | apply Kd.R_alloc | apply Kd.R_drewN | apply Kd.R_drew)); exact HO392.out) (Kd.R_base ho0) hb); have n2_ := Aside0.mk (Kd.R_below (by (with_reducible repeat (first | apply Kd.R_alloc | apply Kd.R_drewN | apply Kd.R_drew)); exact HO395.out) hb); have n3_ := Aside0.mk (Kd.R_lower (Kd.R_new' ho0 (Kd.R_lt (by (with_reducible repeat (first | apply Kd.R_alloc | apply Kd.R_drewN | apply Kd.R_drew)); exact HO392.out))) (below_size (by repeat (first | (with_reducible first | exact HB.out | apply below_alloc | apply pw_below_drewN | apply below_drew1) | exact HB.out)))); have n4_ := Aside0.mk (below_step (by repeat (first | (with_reducible first | exact HB.out | apply below_alloc | apply pw_below_drewN | apply below_drew1) | exact HB.out)) hb); clear HO_8; clear HO392; clear HO395; clear HB; have HO_8 := n0_; have HO392 := n1_; have HO395 := n2_; have HO399 := n3_; have HB := n4_; clear n0_ n1_ n2_ n3_ n4_; (try clear hb); (try clear hb2); (try clear hk); (try clear hi); (try clear ho0)) | ((with_reducible refine gate_callee (f := 43) rfl ?_); refine goesL_ (some 55) rfl rfl Try.func43 (by kernel_rfl) rfl #[] rfl (by (try simp only [List.map_toArray, List.map_cons, List.map_nil]); first | done | rfl | (simp only [List.length_drop, List.length_take]; rfl)) ?_; (with_reducible refine (ricklaw06_puts.calls  false _ A22.out).mono ?_); rintro e w86 ⟨rfl, hb⟩; refine ⟨_, rfl, ?_⟩; have n0_ := Aside0.mk (Kd.R_below (by (with_reducible repeat (first | apply Kd.R_alloc | apply Kd.R_drewN | apply Kd.R_drew)); exact HO_8.out) hb); have n1_ := Aside0.mk (Kd.R_below (by (with_reducible repeat (first | apply Kd.R_alloc | apply Kd.R_drewN | apply Kd.R_drew)); exact HO392.out) hb); have n2_ := Aside0.mk (Kd.R_below (by (with_reducible repeat (first | apply Kd.R_alloc | apply Kd.R_drewN | apply Kd.R_drew)); exact HO395.out) hb); have n3_ := Aside0.mk (Kd.R_below (by (with_reducible repeat (first | apply Kd.R_alloc | apply Kd.R_drewN | apply Kd.R_drew)); exact HO399.out) hb); have n4_ := Aside0.mk (below_step (by repeat (first | (with_reducible first | exact HB.out | apply below_alloc | apply pw_below_drewN | apply below_drew1) | exact HB.out)) hb); clear HO_8; clear HO392; clear HO395; clear HO399; clear HB; have HO_8 := n0_; have HO392 := n1_; have HO395 := n2_; have HO399 := n3_; have HB := n4_; clear n0_ n1_ n2_ n3_ n4_; (try clear hb); (try clear hb2); (try clear hk); (try clear hi)))
                go_ret
                exact ⟨by first | rfl | (simp [errW_none, errW_some] <;> rfl) | (simp only [← hji4, ← hji16, ← hji18]; first | rfl | (simp [errW_none, errW_some] <;> rfl)) | (simp [*, errW_none, errW_some] <;> rfl), by repeat (first | (with_reducible first | exact HB.out | apply below_alloc | apply pw_below_drewN | apply below_drew1) | exact HB.out)⟩
            · rw [if_neg c17] at H
              exact absurd H (by simp)
    · rw [if_neg c6] at H
      exact absurd H (by simp)
  · rw [if_neg c5] at H
    exact absurd H (by simp)

/-- THE ONE PURE STATEMENT of ricklaw06_PackSame: yours. -/
def ricklaw06_PackSame.Pure : Prop := ∀ (a0 : Int) (a1 : Int) (a2 : Int), (Lit.int .u64 a0).wf = true → (Lit.int .i64 a1).wf = true → (Lit.int .i64 a2).wf = true → ∃ k, ricklaw06_PackSame.f k a0 a1 a2 = some true
theorem ricklaw06_PackSame.walk (P : ricklaw06_PackSame.Pure) (a0 : Int) (a1 : Int) (a2 : Int) (w : World) (w0 : (Lit.int .u64 a0).wf = true) (w1 : (Lit.int .i64 a1).wf = true) (w2 : (Lit.int .i64 a2).wf = true) :
    Calls Try.prog 14 #[.int .u64 a0, .int .i64 a1, .int .i64 a2] w fun e w' => e = .returned (.bool true) ∧ Below w.heap.size w w' := by
  obtain ⟨k, h⟩ := P a0 a1 a2 w0 w1 w2
  refine (ricklaw06_PackSame.calls k a0 a1 a2 true w h).mono ?_
  rintro e w' ⟨rfl, hd⟩
  exact ⟨rfl, hd⟩

end Go.Proofs.Ytmlbppfcpejlpaa.X

/- Bytes of whole numbers, laid end to end; prefixes. No conditions. -/
namespace Go.Proofs.Ytmlbppfcpejlpaa.Q06
open Go Go.RowKit Go.Proofs.YtmlbppfcpejlpaaW.PrintWords Go.Proofs.YtmlbppfcpejlpaaW.PrintMore Go.Proofs.Ytmlbppfcpejlpaa.S Go.Proofs.Ytmlbppfcpejlpaa.B Go.Proofs.Ytmlbppfcpejlpaa.X Go.Proofs.Ytmlbppfcpejlpaa.Q04
set_option linter.unusedVariables false
set_option linter.unusedSimpArgs false

theorem getD_append_left {a b : List Int} {i : Nat} (h : i < a.length) : (a ++ b).getD i 0 = a.getD i 0 := by
  simp only [List.getD_eq_getElem?_getD, List.getElem?_append_left h]
theorem getD_append_right {a b : List Int} {i : Nat} (h : a.length ≤ i) : (a ++ b).getD i 0 = b.getD (i - a.length) 0 := by
  simp only [List.getD_eq_getElem?_getD, List.getElem?_append_right h]
theorem packB_append {a b : List Int} (h : a.length % 8 = 0) : packB (a ++ b) = packB a ++ packB b := by
  apply List.ext_getElem
  · rw [packB_len, List.length_append, List.length_append, packB_len, packB_len]; omega
  · intro i h1 h2
    have e : ∀ (l : List Int) (i : Nat) (h : i < (packB l).length), (packB l)[i] = byteAt l i := fun l i h => by simp [packB, rows]
    rw [e, List.getElem_append]
    split
    · rename_i hi
      rw [packB_len] at hi
      rw [e]
      unfold byteAt
      repeat rw [getD_append_left (by omega)]
    · rename_i hi
      rw [packB_len] at hi
      rw [e]
      unfold byteAt
      have q : ∀ j, (a ++ b).getD (8 * i + j) 0 = b.getD (8 * (i - (packB a).length) + j) 0 := fun j => by
        rw [getD_append_right (by omega), packB_len]; congr 1; omega
      have q0 := q 0
      simp only [Nat.add_zero] at q0
      rw [q0, q 1, q 2, q 3, q 4, q 5, q 6, q 7]
theorem bitsN_getD (n : Nat) (v : Int) : ∀ j, j < n → (bitsN n v).getD j 0 = v / 2 ^ (n - 1 - j) % 2 := by
  induction n with
  | zero => intro j h; omega
  | succ n ih =>
    intro j h
    cases j with
    | zero => simp [bitsN]
    | succ j =>
      have := ih j (by omega)
      rw [bitsN, List.getD_cons_succ, this, show n + 1 - 1 - (j + 1) = n - 1 - j by omega]
theorem byte_split (y : Int) : y / 128 % 2 * 128 + y / 64 % 2 * 64 + y / 32 % 2 * 32 + y / 16 % 2 * 16 + y / 8 % 2 * 8 + y / 4 % 2 * 4 + y / 2 % 2 * 2 + y % 2 = y % 256 := by omega
theorem packB_bitsN (m : Nat) (v : Int) : packB (bitsN (8 * m) v) = (List.range m).map (fun i => v / 2 ^ (8 * (m - 1 - i)) % 256) := by
  apply List.ext_getElem
  · rw [packB_len, bitsN_len, List.length_map, List.length_range]; omega
  · intro i h1 h2
    rw [List.length_map, List.length_range] at h2
    rw [List.getElem_map, List.getElem_range]
    have e : (packB (bitsN (8 * m) v))[i] = byteAt (bitsN (8 * m) v) i := by simp [packB, rows]
    rw [e, ← byte_split]
    unfold byteAt
    have q : ∀ j, j < 8 → (bitsN (8 * m) v).getD (8 * i + j) 0 = v / 2 ^ (8 * (m - 1 - i)) / 2 ^ (7 - j) % 2 := fun j hj => by
      rw [bitsN_getD _ _ _ (by omega), Int.ediv_ediv_of_nonneg (Int.pow_nonneg (by omega)), ← Int.pow_add]
      congr 3; omega
    have q0 := q 0 (by omega)
    simp only [Nat.add_zero] at q0
    rw [q0, q 1 (by omega), q 2 (by omega), q 3 (by omega), q 4 (by omega), q 5 (by omega), q 6 (by omega), q 7 (by omega)]
    simp only [Nat.reduceSub, show (2 : Int) ^ 7 = 128 by decide, show (2 : Int) ^ 6 = 64 by decide, show (2 : Int) ^ 5 = 32 by decide, show (2 : Int) ^ 4 = 16 by decide, show (2 : Int) ^ 3 = 8 by decide, show (2 : Int) ^ 2 = 4 by decide, show (2 : Int) ^ 1 = 2 by decide, show (2 : Int) ^ 0 = 1 by decide, Int.ediv_one]
theorem packB_8 {v : Int} (h0 : 0 ≤ v) (h1 : v < 256) : packB (bitsN 8 v) = [v] := by
  have := packB_bitsN 1 v
  simp at this
  rw [this, Int.emod_eq_of_lt h0 h1]
theorem bitsOf_append (a b : List Int) : bitsOf (a ++ b) = bitsOf a ++ bitsOf b := by
  apply List.ext_getElem
  · simp only [bitsOf_len, List.length_append]; omega
  · intro i h1 h2
    rw [bitsOf_get, List.getElem_append]
    split
    · rename_i hi
      rw [bitsOf_len] at hi
      rw [bitsOf_get]
      unfold bitAt
      rw [getD_append_left (by omega)]
    · rename_i hi
      rw [bitsOf_len] at hi
      rw [bitsOf_get]
      unfold bitAt
      rw [getD_append_right (by omega), bitsOf_len]
      congr 2
      · congr 1; omega
      · congr 1; omega
/-- Of bits that were laid as bytes, some are told at their place. -/
theorem gv_packB {L more : List Int} (hL : Bits L) {at0 n : Nat} (h : at0 + n ≤ L.length) : gv (packB L ++ more) at0 n = valB ((L.drop at0).take n) := by
  unfold gv
  rw [bitsOf_append, bitsOf_packB hL, List.append_assoc, List.drop_append_of_le_length (by omega), List.take_append_of_le_length (by rw [List.length_drop]; omega)]

theorem u8_inj {x y : Int} (hx : 0 ≤ x ∧ x < 256) (hy : 0 ≤ y ∧ y < 256) (h : UInt8.ofNat x.toNat = UInt8.ofNat y.toNat) : x = y := by
  have := congrArg UInt8.toNat h
  simp at this
  omega
theorem strOf_inj {a b : List Int} (ha : Bs a) (hb : Bs b) (h : (strOfNums a).toList = (strOfNums b).toList) : a = b := by
  rw [strOf_toList, strOf_toList] at h
  induction a generalizing b with
  | nil => cases b with | nil => rfl | cons y b => simp at h
  | cons x a ih =>
    cases b with
    | nil => simp at h
    | cons y b =>
      simp only [List.map_cons, List.cons.injEq] at h
      rw [u8_inj (ha x List.mem_cons_self) (hb y List.mem_cons_self) h.1, ih (fun z hz => ha z (List.mem_cons_of_mem _ hz)) (fun z hz => hb z (List.mem_cons_of_mem _ hz)) h.2]
theorem prefix_yes (b more : List Int) : bytes_HasPrefix.f (b ++ more) b = some true := by
  unfold bytes_HasPrefix.f
  rw [if_pos (by rw [List.length_append]; omega), if_pos (by omega), if_pos (by rw [List.length_append]; omega), Int.toNat_natCast, List.take_left]
  simp [bytes_Equal.f]
theorem prefix_spec {a b : List Int} (ha : Bs a) (hb : Bs b) : bytes_HasPrefix.f a b = some (decide (a.take b.length = b)) := by
  unfold bytes_HasPrefix.f
  by_cases h : b.length ≤ a.length
  · rw [if_pos (by omega), if_pos (by omega), if_pos (by omega), Int.toNat_natCast]
    simp only [bytes_Equal.f, Option.bind_some]
    congr 1
    by_cases e : a.take b.length = b
    · rw [e]; simp
    · rw [decide_eq_false e]
      rw [beq_eq_false_iff_ne]
      exact fun h => e (strOf_inj (ha.take _) hb h)
  · rw [if_neg (by omega), decide_eq_false]
    intro e
    have := congrArg List.length e
    rw [List.length_take] at this
    omega
end Go.Proofs.Ytmlbppfcpejlpaa.Q06

-- Printed by this session's own program (wip/xprint.py) over the translation; its external functions are hand-written. Lean checks it.
namespace Go.Proofs.Ytmlbppfcpejlpaa.X
open Go.RowKit Go.Proofs.YtmlbppfcpejlpaaW.PrintWords Go.Proofs.YtmlbppfcpejlpaaW.PrintLast Go.Proofs.YtmlbppfcpejlpaaW.PrintMore
attribute [local go_sem] max2_int min2_int max_two min_two max_three min_three max_four min_four   -- for this text's walks alone
set_option linter.unusedVariables false
set_option linter.unusedSimpArgs false

/-! ### rickref06_Raw: function 59 -/
def rickref06_Raw.l0 : Nat → Int → List Int → Int → Option (List Int)
  | 0, _, _, _ => none
  | k + 1, x0, x3, x4 => if x4 ≥ 0 then (if 0 ≤ (wrap64 (8 * x4)) then (if x3.length < 140737488355328 then (rickref06_Raw.l0 k x0 (x3 ++ [(shr .u64 x0 (wrap64 (8 * x4))) % 256]) (wrap64 (x4 - 1))) else (none)) else (none)) else (some x3)
def rickref06_Raw.f (k : Nat) (a0 : Int) : Option (List Int) := rickref06_Raw.l0 k a0 ([] : List Int) 7
theorem rickref06_Raw.mono_l : ∀ k, (∀ y0 y1 y2, LeO (rickref06_Raw.l0 k y0 y1 y2) (rickref06_Raw.l0 (k + 1) y0 y1 y2))
  | 0 => fun _ _ _ r h => by simp [rickref06_Raw.l0] at h
  | k + 1 => by
    have ih0 := rickref06_Raw.mono_l k
    · intro y0 y1 y2
      unfold rickref06_Raw.l0
      repeat' first
      | (with_reducible exact ih0 _ _ _)
      | (with_reducible exact LeO.refl _)
      | (with_reducible exact LeO.none _)
      | (with_reducible refine LeO.ite ?_ ?_)
      | (with_reducible refine LeO.bind ?_ (fun _ => ?_))
      | exact ih0 _ _ _
      | exact LeO.none _
      | refine LeO.ite ?_ ?_
      | refine LeO.bind ?_ (fun _ => ?_)
theorem rickref06_Raw.mono : ∀ a0 k, LeO (rickref06_Raw.f k a0) (rickref06_Raw.f (k + 1) a0) := by
  intro a0 k
  have ih0 := rickref06_Raw.mono_l k
  unfold rickref06_Raw.f
  repeat' first
      | (with_reducible exact ih0 _ _ _)
      | (with_reducible exact LeO.refl _)
      | (with_reducible exact LeO.none _)
      | (with_reducible refine LeO.ite ?_ ?_)
      | (with_reducible refine LeO.bind ?_ (fun _ => ?_))
      | exact ih0 _ _ _
      | exact LeO.none _
      | refine LeO.ite ?_ ?_
      | refine LeO.bind ?_ (fun _ => ?_)
set_option maxHeartbeats 8000000 in
set_option maxRecDepth 100000 in
theorem rickref06_Raw.calls (k : Nat) (a0 : Int) (r : List Int) (w : World) (h : rickref06_Raw.f k a0 = some r) :
    Calls Try.prog 59 #[.int .u64 a0] w fun e w' => ∃ v0_ : Value, e = .returned (v0_) ∧ Kd.R (Kd.int .u8) 5 w' w.heap.size (fun _ => True) v0_ r ∧ Below w.heap.size w w' := by
  have HB := Aside0.mk (Below.refl w.heap.size w)
  have H : (rickref06_Raw.l0 k a0 ([] : List Int) 7) = some r := h
  clear h
  have H' := Aside0.mk H
  clear H
  go_enter Try.func59, Try.ntmps59
  go_wp2
  go_loopg [3, 4] k (fun kq v3 v4 w' => ∃ (x3_1 : List Int) (x4_1 : Int), v4 = .int .i64 x4_1 ∧ Aside0 (rickref06_Raw.l0 kq a0 x3_1 x4_1 = some r) ∧ Aside0 (kq ≤ k) ∧ Aside0 (Kd.R (Kd.int .u8) 5 w' w.heap.size (fun _ => True) v3 x3_1) ∧ Aside0 (Below w.heap.size w w'))
  case atStart => exact ⟨(([] : List Int)), (7), (by first | rfl | (simp; done) | (simp [*]; done)), H', ⟨Nat.le_refl _⟩, ⟨by first | exact Kd.R_nil _ _ _ _ _ | exact Kd.N_nil _ _ _ _ _ | exact Kd.V_nil _ _ _ _ _ | exact Kd.Q_nil _ _ _ _ _ | exact Kd.S_nil _ _ _ _ _⟩, ⟨by repeat (first | (with_reducible first | exact HB.out | apply below_alloc | apply pw_below_drewN | apply below_drew1) | exact HB.out)⟩⟩
  case round =>
    clear H'
    obtain ⟨x3_1, x4_1, rfl, HA, HK1, HO_3, HB⟩ := hrel
    cases gk with
    | zero => exact absurd HA.out (by simp [rickref06_Raw.l0])
    | succ k1 =>
      have H := HA.out
      clear HA
      simp only [rickref06_Raw.l0] at H
      by_cases c2 : x4_1 ≥ 0
      · rw [if_pos c2] at H
        have c2b0 : decide (0 ≤ x4_1) = true := decide_eq_true c2
        clear c2
        obtain ⟨ji3, hji3⟩ : ∃ j_ : Int, (wrap64 (8 * x4_1)) = j_ := ⟨_, rfl⟩
        replace H : (if 0 ≤ (ji3) then (if x3_1.length < 140737488355328 then (rickref06_Raw.l0 k1 a0 (x3_1 ++ [(shr .u64 a0 (ji3)) % 256]) (wrap64 (x4_1 - 1))) else (none)) else (none)) = some r := by first | (rw [hji3] at H; exact H) | (simp only [hji3] at H ⊢; exact H)
        have hji3w : (IntKind.i64.wrap (8 * x4_1)) = ji3 := (i64_w _).trans hji3
        by_cases c4 : 0 ≤ (ji3)
        · rw [if_pos c4] at H
          have c4b0 := eq_true c4
          have c4b1 : decide (0 ≤ (ji3)) = true := decide_eq_true c4
          clear c4
          obtain ⟨ji5, hji5⟩ : ∃ j_ : Int, (shr .u64 a0 (ji3)) = j_ := ⟨_, rfl⟩
          replace H : (if x3_1.length < 140737488355328 then (rickref06_Raw.l0 k1 a0 (x3_1 ++ [(ji5) % 256]) (wrap64 (x4_1 - 1))) else (none)) = some r := by first | (rw [hji5] at H; exact H) | (simp only [hji5] at H ⊢; exact H)
          have hji5_ : (a0 / 2 ^ min (ji3).toNat 64) = ji5 := hji5
          have hji5z : (ji3) ≤ 64 → (a0 / 2 ^ (ji3).toNat) = ji5 := shr_small hji5
          by_cases c6 : x3_1.length < 140737488355328
          · rw [if_pos c6] at H
            have LMc6 := Aside0.mk c6
            clear c6
            obtain ⟨y294, hy294⟩ : ∃ y_ : List Int, y_ = (x3_1 ++ [(ji5) % 256]) := ⟨_, rfl⟩
            replace H : (rickref06_Raw.l0 k1 a0 y294 (wrap64 (x4_1 - 1))) = some r := by first | (rw [hy294]; with_reducible exact H) | (have H2_ := (Option.bind_some _ _).symm.trans H; rw [hy294]; with_reducible exact H2_) | (have H2_ := (Option.bind_some _ _).symm.trans H; with_reducible exact H2_) | with_reducible exact H | (rw [hy294]; exact H) | exact H
            have Ny294 := Aside0.mk hy294
            clear hy294
            have H' := Aside0.mk H
            clear H
            go_wp2_with (first | ((with_reducible refine gate_builtin (b := .append) (xs := #[.tmp 9, .tmp 15]) rfl ?_); at_builtin; refine Kd.R_append (Kd.int .u8) (w0 := w) w.heap.size rfl (.tmp 9) (.tmp 15) 22 5 (.int .u8 0) 1 rfl Try.underlying22 info5 rfl (by decide) (by omega) u3 x3_1 ((ji5) % 256) [.int .u8 ((ji5) % 256)] (fun _ => True) (fun _ => False) rfl rfl ?aP (fun _ hk => hk.elim) ?aF ?aO ?aB ?aS ?aL ?_; (case aP => exact rfl); (case aB => exact (by repeat (first | (with_reducible first | exact HB.out | apply below_alloc | apply pw_below_drewN | apply below_drew1) | exact HB.out))); (case aF => exact (fun _ _ => trivial)); (case aO => exact (by (with_reducible repeat (first | apply Kd.R_alloc | apply Kd.R_drewN | apply Kd.R_drew)); exact HO_3.out)); (case aS => exact (below_size (by repeat (first | (with_reducible first | exact HB.out | apply below_alloc | apply pw_below_drewN | apply below_drew1) | exact HB.out)))); (case aL => have := LMc6.out; omega); intro v295 w7 ho hb hg hat; rw [← Ny294.out] at ho; have n0_ := Aside0.mk (hb); have n1_ := Aside0.mk (ho); clear HB; clear HO_3; have HB := n0_; have HO296 := n1_; clear n0_ n1_; clear ho hb hg hat))
            go_roundg k1
            case measure => have := HK1.out; omega
            case rel => exact ⟨(y294), (wrap64 (x4_1 - 1)), (by first | rfl | (simp; done) | (simp [*]; done)), H', ⟨by have := HK1.out; omega⟩, ⟨by (with_reducible repeat (first | apply Kd.R_alloc | apply Kd.R_drewN | apply Kd.R_drew)); exact HO296.out⟩, ⟨by repeat (first | (with_reducible first | exact HB.out | apply below_alloc | apply pw_below_drewN | apply below_drew1) | exact HB.out)⟩⟩
          · rw [if_neg c6] at H
            exact absurd H (by simp)
        · rw [if_neg c4] at H
          exact absurd H (by simp)
      · rw [if_neg c2] at H
        have c2b0 : decide (0 ≤ x4_1) = false := decide_eq_false c2
        clear c2
        obtain rfl := Option.some.inj H
        go_wp2
        go_ret
        exact ⟨_, by first | rfl | (simp [errW_none, errW_some] <;> rfl) | (simp [*, errW_none, errW_some] <;> rfl), by (with_reducible repeat (first | apply Kd.R_alloc | apply Kd.R_drewN | apply Kd.R_drew)); exact HO_3.out, by repeat (first | (with_reducible first | exact HB.out | apply below_alloc | apply pw_below_drewN | apply below_drew1) | exact HB.out)⟩

end Go.Proofs.Ytmlbppfcpejlpaa.X

-- Printed by this session's own program (wip/xprint.py) over the translation; its external functions are hand-written. Lean checks it.
namespace Go.Proofs.Ytmlbppfcpejlpaa.X
open Go.RowKit Go.Proofs.YtmlbppfcpejlpaaW.PrintWords Go.Proofs.YtmlbppfcpejlpaaW.PrintLast Go.Proofs.YtmlbppfcpejlpaaW.PrintMore
attribute [local go_sem] max2_int min2_int max_two min_two max_three min_three max_four min_four   -- for this text's walks alone
set_option linter.unusedVariables false
set_option linter.unusedSimpArgs false

/-! ### rickref06_Put: function 42 -/
mutual
def rickref06_Put.l0 : Nat → List Int → Int → Int → Int → Option (List Int)
  | 0, _, _, _, _ => none
  | k + 1, x0, x3, x4, x5 => if x5 < (x0.length : Int) then (if 0 ≤ x5 then (rickref06_Put.l0 k x0 (mn x3 (rd x0 x5)) (mx x4 (rd x0 x5)) (wrap64 (x5 + 1))) else (none)) else (rickref06_Put.l1 k x0 x3 x4 0)
def rickref06_Put.j2 : Nat → List Int → Int → Int → Option (List Int)
  | 0, _, _, _ => none
  | k + 1, x0, x3, x6 => rickref06_Put.l2 k x0 x3 x6 ([] : List Int) 0
def rickref06_Put.l2 : Nat → List Int → Int → Int → List Int → Int → Option (List Int)
  | 0, _, _, _, _, _ => none
  | k + 1, x0, x3, x6, x7, x8 => if x8 < (x0.length : Int) then (if 0 ≤ x8 then ((rickref04_Put.f k x7 (IntKind.u64.wrap ((rd x0 x8) - x3)) x6).bind fun t302 => (rickref06_Put.l2 k x0 x3 x6 t302 (wrap64 (x8 + 1)))) else (none)) else ((rickref06_Raw.f k x3).bind fun t305 => (if t305.length < 140737488355328 then ((some (t305 ++ [(x6) % 256] : List Int)).bind fun y308 => ((rickref04_Bytes.f k x7).bind fun t311 => (if y308.length + t311.length < 140737488355328 then (some (y308 ++ t311)) else (none)))) else (none)))
def rickref06_Put.l1 : Nat → List Int → Int → Int → Int → Option (List Int)
  | 0, _, _, _, _ => none
  | k + 1, x0, x3, x4, x6 => if x6 < 64 then (if 0 ≤ x6 then (if (shr .u64 (IntKind.u64.wrap (x4 - x3)) x6) > 0 then (rickref06_Put.l1 k x0 x3 x4 (wrap64 (x6 + 1))) else (rickref06_Put.j2 k x0 x3 x6)) else (none)) else (rickref06_Put.j2 k x0 x3 x6)
end
def rickref06_Put.f (k : Nat) (l0 : List Int) : Option (List Int) := if (l0.length : Int) = 0 then (some ([] : List Int)) else (if 0 < (l0.length : Int) then (rickref06_Put.l0 k l0 (rd l0 0) (rd l0 0) 0) else (none))
theorem rickref06_Put.mono_l : ∀ k, (∀ y0 y1 y2 y3, LeO (rickref06_Put.l0 k y0 y1 y2 y3) (rickref06_Put.l0 (k + 1) y0 y1 y2 y3)) ∧ (∀ y0 y1 y2, LeO (rickref06_Put.j2 k y0 y1 y2) (rickref06_Put.j2 (k + 1) y0 y1 y2)) ∧ (∀ y0 y1 y2 y3 y4, LeO (rickref06_Put.l2 k y0 y1 y2 y3 y4) (rickref06_Put.l2 (k + 1) y0 y1 y2 y3 y4)) ∧ (∀ y0 y1 y2 y3, LeO (rickref06_Put.l1 k y0 y1 y2 y3) (rickref06_Put.l1 (k + 1) y0 y1 y2 y3))
  | 0 => ⟨fun _ _ _ _ r h => by simp [rickref06_Put.l0] at h, fun _ _ _ r h => by simp [rickref06_Put.j2] at h, fun _ _ _ _ _ r h => by simp [rickref06_Put.l2] at h, fun _ _ _ _ r h => by simp [rickref06_Put.l1] at h⟩
  | k + 1 => by
    obtain ⟨ih0, ih1, ih2, ih3⟩ := rickref06_Put.mono_l k
    refine ⟨?_, ?_, ?_, ?_⟩
    · intro y0 y1 y2 y3
      unfold rickref06_Put.l0
      repeat' first
      | (with_reducible exact ih0 _ _ _ _)
      | (with_reducible exact ih1 _ _ _)
      | (with_reducible exact ih2 _ _ _ _ _)
      | (with_reducible exact ih3 _ _ _ _)
      | (with_reducible exact rickref04_Bytes.mono _ _)
      | (with_reducible exact rickref04_Put.mono _ _ _ _)
      | (with_reducible exact rickref06_Raw.mono _ _)
      | (with_reducible exact LeO.refl _)
      | (with_reducible exact LeO.none _)
      | (with_reducible refine LeO.ite ?_ ?_)
      | (with_reducible refine LeO.bind ?_ (fun _ => ?_))
      | exact ih0 _ _ _ _
      | exact ih1 _ _ _
      | exact ih2 _ _ _ _ _
      | exact ih3 _ _ _ _
      | exact rickref04_Bytes.mono _ _
      | exact rickref04_Put.mono _ _ _ _
      | exact rickref06_Raw.mono _ _
      | exact LeO.none _
      | refine LeO.ite ?_ ?_
      | refine LeO.bind ?_ (fun _ => ?_)
    · intro y0 y1 y2
      unfold rickref06_Put.j2
      repeat' first
      | (with_reducible exact ih0 _ _ _ _)
      | (with_reducible exact ih1 _ _ _)
      | (with_reducible exact ih2 _ _ _ _ _)
      | (with_reducible exact ih3 _ _ _ _)
      | (with_reducible exact rickref04_Bytes.mono _ _)
      | (with_reducible exact rickref04_Put.mono _ _ _ _)
      | (with_reducible exact rickref06_Raw.mono _ _)
      | (with_reducible exact LeO.refl _)
      | (with_reducible exact LeO.none _)
      | (with_reducible refine LeO.ite ?_ ?_)
      | (with_reducible refine LeO.bind ?_ (fun _ => ?_))
      | exact ih0 _ _ _ _
      | exact ih1 _ _ _
      | exact ih2 _ _ _ _ _
      | exact ih3 _ _ _ _
      | exact rickref04_Bytes.mono _ _
      | exact rickref04_Put.mono _ _ _ _
      | exact rickref06_Raw.mono _ _
      | exact LeO.none _
      | refine LeO.ite ?_ ?_
      | refine LeO.bind ?_ (fun _ => ?_)
    · intro y0 y1 y2 y3 y4
      unfold rickref06_Put.l2
      repeat' first
      | (with_reducible exact ih0 _ _ _ _)
      | (with_reducible exact ih1 _ _ _)
      | (with_reducible exact ih2 _ _ _ _ _)
      | (with_reducible exact ih3 _ _ _ _)
      | (with_reducible exact rickref04_Bytes.mono _ _)
      | (with_reducible exact rickref04_Put.mono _ _ _ _)
      | (with_reducible exact rickref06_Raw.mono _ _)
      | (with_reducible exact LeO.refl _)
      | (with_reducible exact LeO.none _)
      | (with_reducible refine LeO.ite ?_ ?_)
      | (with_reducible refine LeO.bind ?_ (fun _ => ?_))
      | exact ih0 _ _ _ _
      | exact ih1 _ _ _
      | exact ih2 _ _ _ _ _
      | exact ih3 _ _ _ _
      | exact rickref04_Bytes.mono _ _
      | exact rickref04_Put.mono _ _ _ _
      | exact rickref06_Raw.mono _ _
      | exact LeO.none _
      | refine LeO.ite ?_ ?_
      | refine LeO.bind ?_ (fun _ => ?_)
    · intro y0 y1 y2 y3
      unfold rickref06_Put.l1
      repeat' first
      | (with_reducible exact ih0 _ _ _ _)
      | (with_reducible exact ih1 _ _ _)
      | (with_reducible exact ih2 _ _ _ _ _)
      | (with_reducible exact ih3 _ _ _ _)
      | (with_reducible exact rickref04_Bytes.mono _ _)
      | (with_reducible exact rickref04_Put.mono _ _ _ _)
      | (with_reducible exact rickref06_Raw.mono _ _)
      | (with_reducible exact LeO.refl _)
      | (with_reducible exact LeO.none _)
      | (with_reducible refine LeO.ite ?_ ?_)
      | (with_reducible refine LeO.bind ?_ (fun _ => ?_))
      | exact ih0 _ _ _ _
      | exact ih1 _ _ _
      | exact ih2 _ _ _ _ _
      | exact ih3 _ _ _ _
      | exact rickref04_Bytes.mono _ _
      | exact rickref04_Put.mono _ _ _ _
      | exact rickref06_Raw.mono _ _
      | exact LeO.none _
      | refine LeO.ite ?_ ?_
      | refine LeO.bind ?_ (fun _ => ?_)
theorem rickref06_Put.mono : ∀ a0 k, LeO (rickref06_Put.f k a0) (rickref06_Put.f (k + 1) a0) := by
  intro a0 k
  obtain ⟨ih0, ih1, ih2, ih3⟩ := rickref06_Put.mono_l k
  unfold rickref06_Put.f
  repeat' first
      | (with_reducible exact ih0 _ _ _ _)
      | (with_reducible exact ih1 _ _ _)
      | (with_reducible exact ih2 _ _ _ _ _)
      | (with_reducible exact ih3 _ _ _ _)
      | (with_reducible exact rickref04_Bytes.mono _ _)
      | (with_reducible exact rickref04_Put.mono _ _ _ _)
      | (with_reducible exact rickref06_Raw.mono _ _)
      | (with_reducible exact LeO.refl _)
      | (with_reducible exact LeO.none _)
      | (with_reducible refine LeO.ite ?_ ?_)
      | (with_reducible refine LeO.bind ?_ (fun _ => ?_))
      | exact ih0 _ _ _ _
      | exact ih1 _ _ _
      | exact ih2 _ _ _ _ _
      | exact ih3 _ _ _ _
      | exact rickref04_Bytes.mono _ _
      | exact rickref04_Put.mono _ _ _ _
      | exact rickref06_Raw.mono _ _
      | exact LeO.none _
      | refine LeO.ite ?_ ?_
      | refine LeO.bind ?_ (fun _ => ?_)
set_option maxHeartbeats 8000000 in
set_option maxRecDepth 100000 in
theorem rickref06_Put.calls (k : Nat) (A0 : Option Addr) (c0 : Nat) (l0 : List Int) (r : List Int) (w : World) (hr0 : Kd.C (Kd.int .u64) w A0 l0.length l0) (hc0 : l0.length ≤ c0) (h : rickref06_Put.f k l0 = some r) :
    Calls Try.prog 42 #[.slice A0 l0.length c0] w fun e w' => ∃ v0_ : Value, e = .returned (v0_) ∧ Kd.R (Kd.int .u8) 5 w' w.heap.size (fun _ => True) v0_ r ∧ Below w.heap.size w w' := by
  have HR0 := Aside0.mk hr0
  have HC0 := Aside0.mk hc0
  clear hr0 hc0
  have HB := Aside0.mk (Below.refl w.heap.size w)
  have H : (if (l0.length : Int) = 0 then (some ([] : List Int)) else (if 0 < (l0.length : Int) then (rickref06_Put.l0 k l0 (rd l0 0) (rd l0 0) 0) else (none))) = some r := h
  clear h
  by_cases c2 : (l0.length : Int) = 0
  · rw [if_pos c2] at H
    have c2b0 : ((l0.length : Int) == 0) = true := beq_iff_eq.mpr c2
    have c2b1 : ((l0.length : Int) != 0) = false := bne_eq_false_iff_eq.mpr c2
    clear c2
    obtain rfl := Option.some.inj H
    go_enter Try.func42, Try.ntmps42
    go_wp2
    repeat (go_quiet (fail); try go_wp2)
    go_ret
    exact ⟨_, by first | rfl | (simp [errW_none, errW_some] <;> rfl) | (simp [*, errW_none, errW_some] <;> rfl), by first | exact Kd.R_nil _ _ _ _ _ | exact Kd.N_nil _ _ _ _ _ | exact Kd.V_nil _ _ _ _ _ | exact Kd.Q_nil _ _ _ _ _ | exact Kd.S_nil _ _ _ _ _, by repeat (first | (with_reducible first | exact HB.out | apply below_alloc | apply pw_below_drewN | apply below_drew1) | exact HB.out)⟩
  · rw [if_neg c2] at H
    have c2b0 : ((l0.length : Int) == 0) = false := beq_eq_false_iff_ne.mpr c2
    have c2b1 : ((l0.length : Int) != 0) = true := bne_iff_ne.mpr c2
    have c2b2 : ¬ (l0 = []) := fun h_ => c2 (by rw [h_]; rfl)
    by_cases c3 : 0 < (l0.length : Int)
    · rw [if_pos c3] at H
      have c3b0 : decide (0 < (l0.length : Int)) = true := decide_eq_true c3
      have c3b1 : decide (0 < l0.length) = true := decide_eq_true (by omega)
      clear c3
      have H' := Aside0.mk H
      clear H
      have p297 : 0 ≤ (0 : Int) := (by omega)
      have q297 : 0 < (l0.length : Int) := of_decide_eq_true (by first | (with_reducible assumption) | assumption)
      obtain ⟨ad297, e297, hx297_0⟩ := Kd.at_int HR0.out 0 p297 q297
      cases e297
      have qi297 : (0 < l0.length) = True := eq_true (by omega)
      (try rw [show ((0 : Int)).toNat = 0 from rfl] at hx297_0)
      (try rw [Addr.add_zero'] at hx297_0)
      replace p297 := eq_true p297
      replace q297 := eq_true q297
      have p298 : 0 ≤ (0 : Int) := (by omega)
      have q298 : 0 < (l0.length : Int) := of_decide_eq_true (by first | (with_reducible assumption) | assumption)
      obtain ⟨ad298, e298, hx298_0⟩ := Kd.at_int HR0.out 0 p298 q298
      obtain rfl : ad297 = ad298 := (by injection e298)
      have qi298 : (0 < l0.length) = True := eq_true (by omega)
      (try rw [show ((0 : Int)).toNat = 0 from rfl] at hx298_0)
      (try rw [Addr.add_zero'] at hx298_0)
      replace p298 := eq_true p298
      replace q298 := eq_true q298
      go_enter Try.func42, Try.ntmps42
      go_wp2
      repeat (go_quiet (fail); try go_wp2)
      go_loopg [3, 4, 5] k (fun kq v3 v4 v5 w' => ∃ (x3_1 : Int) (x4_1 : Int) (x5_1 : Int), v3 = .int .u64 x3_1 ∧ v4 = .int .u64 x4_1 ∧ v5 = .int .i64 x5_1 ∧ Aside0 (rickref06_Put.l0 kq l0 x3_1 x4_1 x5_1 = some r) ∧ Aside0 (kq ≤ k) ∧ Aside0 (Below w.heap.size w w'))
      case atStart => exact ⟨(rd l0 0), (rd l0 0), (0), (by first | rfl | (simp; done) | (simp [*]; done)), (by first | rfl | (simp; done) | (simp [*]; done)), (by first | rfl | (simp; done) | (simp [*]; done)), H', ⟨Nat.le_refl _⟩, ⟨by repeat (first | (with_reducible first | exact HB.out | apply below_alloc | apply pw_below_drewN | apply below_drew1) | exact HB.out)⟩⟩
      case round =>
        clear H'
        try clear c2
        try clear c2b0
        try clear c2b1
        try clear c2b2
        try clear p2
        try clear q2
        try clear hx2
        try clear qi2
        try clear c3
        try clear c3b0
        try clear c3b1
        try clear hx297_0
        try clear hx298_0
        try clear p297
        try clear p298
        try clear q297
        try clear q298
        obtain ⟨x3_1, x4_1, x5_1, rfl, rfl, rfl, HA, HK1, HB⟩ := hrel
        cases gk with
        | zero => exact absurd HA.out (by simp [rickref06_Put.l0])
        | succ k1 =>
          have H := HA.out
          clear HA
          simp only [rickref06_Put.l0] at H
          by_cases c4 : x5_1 < (l0.length : Int)
          · rw [if_pos c4] at H
            have c4b0 : decide (x5_1 < (l0.length : Int)) = true := decide_eq_true c4
            clear c4
            by_cases c5 : 0 ≤ x5_1
            · rw [if_pos c5] at H
              have c5b0 : decide (0 ≤ x5_1) = true := decide_eq_true c5
              clear c5
              obtain ⟨ji6, hji6⟩ : ∃ j_ : Int, (mn x3_1 (rd l0 x5_1)) = j_ := ⟨_, rfl⟩
              replace H : (rickref06_Put.l0 k1 l0 ji6 (mx x4_1 (rd l0 x5_1)) (wrap64 (x5_1 + 1))) = some r := by first | (rw [hji6] at H; exact H) | (simp only [hji6] at H ⊢; exact H)
              have hji6_ : (if (rd l0 x5_1) < x3_1 then (rd l0 x5_1) else x3_1) = ji6 := hji6
              obtain ⟨ji7, hji7⟩ : ∃ j_ : Int, (mx x4_1 (rd l0 x5_1)) = j_ := ⟨_, rfl⟩
              replace H : (rickref06_Put.l0 k1 l0 ji6 ji7 (wrap64 (x5_1 + 1))) = some r := by first | (rw [hji7] at H; exact H) | (simp only [hji7] at H ⊢; exact H)
              have hji7_ : (if x4_1 < (rd l0 x5_1) then (rd l0 x5_1) else x4_1) = ji7 := hji7
              have H' := Aside0.mk H
              clear H
              have p299 : 0 ≤ (x5_1 : Int) := of_decide_eq_true (by first | (with_reducible assumption) | assumption)
              have q299 : x5_1 < (l0.length : Int) := of_decide_eq_true (by first | (with_reducible assumption) | assumption)
              obtain ⟨ad299, e299, hx299_0⟩ := Kd.at_int HR0.out x5_1 p299 q299
              obtain rfl : ad297 = ad299 := (by injection e299)
              replace hx299_0 := (HB.out.cell (World.block_lt_of_cell? w _ hx299_0)).trans hx299_0
              replace p299 := eq_true p299
              replace q299 := eq_true q299
              have p300 : 0 ≤ (x5_1 : Int) := of_decide_eq_true (by first | (with_reducible assumption) | assumption)
              have q300 : x5_1 < (l0.length : Int) := of_decide_eq_true (by first | (with_reducible assumption) | assumption)
              obtain ⟨ad300, e300, hx300_0⟩ := Kd.at_int HR0.out x5_1 p300 q300
              obtain rfl : ad297 = ad300 := (by injection e300)
              replace hx300_0 := (HB.out.cell (World.block_lt_of_cell? w _ hx300_0)).trans hx300_0
              replace p300 := eq_true p300
              replace q300 := eq_true q300
              go_wp2
              repeat (go_quiet (fail); try go_wp2)
              go_roundg k1
              case measure => have := HK1.out; omega
              case rel => exact ⟨(ji6), (ji7), (wrap64 (x5_1 + 1)), (by first | rfl | (simp; done) | (simp only [← hji6] <;> (first | rfl | simp)) | (simp [*]; done)), (by first | rfl | (simp; done) | (simp only [← hji7] <;> (first | rfl | simp)) | (simp [*]; done)), (by first | rfl | (simp; done) | (simp [*]; done)), H', ⟨by have := HK1.out; omega⟩, ⟨by repeat (first | (with_reducible first | exact HB.out | apply below_alloc | apply pw_below_drewN | apply below_drew1) | exact HB.out)⟩⟩
            · rw [if_neg c5] at H
              exact absurd H (by simp)
          · rw [if_neg c4] at H
            have c4b0 : decide (x5_1 < (l0.length : Int)) = false := decide_eq_false c4
            clear c4
            have HC8 := Aside0.mk H
            clear H
            go_upto_block 2 with (fail)
            repeat (go_quiet (fail); go_upto_block 2 with (fail))
            go_cut [6] (fun v6 wc => ∃ (kq : Nat) (x6_7 : Int), v6 = .int .i64 x6_7 ∧ Aside0 (rickref06_Put.j2 kq l0 x3_1 x6_7 = some r) ∧ Aside0 (kq ≤ k1) ∧ Aside0 (Below w.heap.size w wc))
            case first =>
              have H := HC8.out
              clear HC8
              have H' := Aside0.mk H
              clear H
              go_wp2
              repeat (go_quiet (fail); try go_wp2)
              go_loopg [6] k1 (fun kq v6 w' => ∃ (x6_2 : Int), v6 = .int .i64 x6_2 ∧ Aside0 (rickref06_Put.l1 kq l0 x3_1 x4_1 x6_2 = some r) ∧ Aside0 (kq ≤ k1) ∧ Aside0 (Below w.heap.size w w'))
              case atStart => exact ⟨(0), (by first | rfl | (simp; done) | (simp [*]; done)), H', ⟨Nat.le_refl _⟩, ⟨by repeat (first | (with_reducible first | exact HB.out | apply below_alloc | apply pw_below_drewN | apply below_drew1) | exact HB.out)⟩⟩
              case round =>
                clear H'
                try clear c2
                try clear c2b0
                try clear c2b1
                try clear c2b2
                try clear p2
                try clear q2
                try clear hx2
                try clear qi2
                try clear c3
                try clear c3b0
                try clear c3b1
                try clear p3
                try clear q3
                try clear hx3
                try clear c4
                try clear c4b0
                try clear c5
                try clear c5b0
                try clear p6
                try clear hx297_0
                try clear hx298_0
                try clear hx299_0
                try clear hx300_0
                try clear p2
                try clear p297
                try clear p298
                try clear p299
                try clear p300
                try clear q2
                try clear q297
                try clear q298
                try clear q299
                try clear q300
                obtain ⟨x6_2, rfl, HA, HK2, HB⟩ := hrel
                cases gk with
                | zero => exact absurd HA.out (by simp [rickref06_Put.l1])
                | succ k2 =>
                  have H := HA.out
                  clear HA
                  simp only [rickref06_Put.l1] at H
                  by_cases c9 : x6_2 < 64
                  · rw [if_pos c9] at H
                    have c9b0 : decide (x6_2 < 64) = true := decide_eq_true c9
                    clear c9
                    (first | rw [c9b0] | (simp only [i64_w, i32_w]; rw [c9b0]) | skip)
                    by_cases c10 : 0 ≤ x6_2
                    · rw [if_pos c10] at H
                      have c10b0 := eq_true c10
                      have c10b1 : decide (0 ≤ x6_2) = true := decide_eq_true c10
                      clear c10
                      obtain ⟨ji11, hji11⟩ : ∃ j_ : Int, (shr .u64 (IntKind.u64.wrap (x4_1 - x3_1)) x6_2) = j_ := ⟨_, rfl⟩
                      replace H : (if (ji11) > 0 then (rickref06_Put.l1 k2 l0 x3_1 x4_1 (wrap64 (x6_2 + 1))) else (rickref06_Put.j2 k2 l0 x3_1 x6_2)) = some r := by first | (rw [hji11] at H; exact H) | (simp only [hji11] at H ⊢; exact H)
                      have hji11_ : ((IntKind.u64.wrap (x4_1 - x3_1)) / 2 ^ min x6_2.toNat 64) = ji11 := hji11
                      have hji11z : x6_2 ≤ 64 → ((IntKind.u64.wrap (x4_1 - x3_1)) / 2 ^ x6_2.toNat) = ji11 := shr_small hji11
                      by_cases c12 : (ji11) > 0
                      · rw [if_pos c12] at H
                        have c12b0 : decide (0 < (ji11)) = true := decide_eq_true c12
                        clear c12
                        have H' := Aside0.mk H
                        clear H
                        go_wp2
                        repeat (go_quiet (fail); try go_wp2)
                        go_roundg k2
                        case measure => have := HK1.out; have := HK2.out; omega
                        case rel => exact ⟨(wrap64 (x6_2 + 1)), (by first | rfl | (simp; done) | (simp [*]; done)), H', ⟨by have := HK1.out; have := HK2.out; omega⟩, ⟨by repeat (first | (with_reducible first | exact HB.out | apply below_alloc | apply pw_below_drewN | apply below_drew1) | exact HB.out)⟩⟩
                      · rw [if_neg c12] at H
                        have c12b0 : decide (0 < (ji11)) = false := decide_eq_false c12
                        clear c12
                        have H' := Aside0.mk H
                        clear H
                        go_wp2
                        repeat (go_quiet (fail); try go_wp2)
                        go_meet
                        case rel => exact ⟨_, (x6_2), (by first | rfl | (simp; done) | (simp [*]; done)), H', ⟨by have := HK1.out; have := HK2.out; first | omega | exact Nat.le_refl _⟩, ⟨by repeat (first | (with_reducible first | exact HB.out | apply below_alloc | apply pw_below_drewN | apply below_drew1) | exact HB.out)⟩⟩
                    · rw [if_neg c10] at H
                      exact absurd H (by simp)
                  · rw [if_neg c9] at H
                    have c9b0 : decide (x6_2 < 64) = false := decide_eq_false c9
                    clear c9
                    (first | rw [c9b0] | (simp only [i64_w, i32_w]; rw [c9b0]) | skip)
                    have H' := Aside0.mk H
                    clear H
                    go_wp2
                    repeat (go_quiet (fail); try go_wp2)
                    go_meet
                    case rel => exact ⟨_, (x6_2), (by first | rfl | (simp; done) | (simp [*]; done)), H', ⟨by have := HK1.out; have := HK2.out; first | omega | exact Nat.le_refl _⟩, ⟨by repeat (first | (with_reducible first | exact HB.out | apply below_alloc | apply pw_below_drewN | apply below_drew1) | exact HB.out)⟩⟩
            case rest =>
              clear HC8
              try clear c1
              try clear c2
              try clear c2b0
              try clear c2b1
              try clear c2b2
              try clear p2
              try clear q2
              try clear hx2
              try clear qi2
              try clear c3
              try clear c3b0
              try clear c3b1
              try clear p3
              try clear q3
              try clear hx3
              try clear c4
              try clear c4b0
              try clear c5
              try clear c5b0
              try clear p6
              try clear c9
              try clear c9b0
              try clear c10
              try clear c10b0
              try clear c10b1
              try clear c12
              try clear c12b0
              try clear hx297_0
              try clear hx298_0
              try clear hx299_0
              try clear hx300_0
              try clear p2
              try clear p297
              try clear p298
              try clear p299
              try clear p3
              try clear p300
              try clear p6
              try clear q2
              try clear q297
              try clear q298
              try clear q299
              try clear q3
              try clear q300
              obtain ⟨kq, x6_7, rfl, HA, HJ7, HB⟩ := hcut
              cases kq with
              | zero => exact absurd HA.out (by simp [rickref06_Put.j2])
              | succ kj7 =>
                have H := HA.out
                clear HA
                simp only [rickref06_Put.j2] at H
                have H' := Aside0.mk H
                clear H
                go_wp2
                repeat (go_quiet (fail); try go_wp2)
                go_loopg [7, 8] kj7 (fun kq v7 v8 w' => ∃ (x7_3 : List Int) (x8_3 : Int), v8 = .int .i64 x8_3 ∧ Aside0 (rickref06_Put.l2 kq l0 x3_1 x6_7 x7_3 x8_3 = some r) ∧ Aside0 (kq ≤ kj7) ∧ Aside0 (Kd.R (Kd.int .u8) 5 w' w.heap.size (fun _ => True) v7 x7_3) ∧ Aside0 (Below w.heap.size w w'))
                case atStart => exact ⟨(([] : List Int)), (0), (by first | rfl | (simp; done) | (simp [*]; done)), H', ⟨Nat.le_refl _⟩, ⟨by first | exact Kd.R_nil _ _ _ _ _ | exact Kd.N_nil _ _ _ _ _ | exact Kd.V_nil _ _ _ _ _ | exact Kd.Q_nil _ _ _ _ _ | exact Kd.S_nil _ _ _ _ _⟩, ⟨by repeat (first | (with_reducible first | exact HB.out | apply below_alloc | apply pw_below_drewN | apply below_drew1) | exact HB.out)⟩⟩
                case round =>
                  clear H'
                  try clear c1
                  try clear c2
                  try clear c2b0
                  try clear c2b1
                  try clear c2b2
                  try clear p2
                  try clear q2
                  try clear hx2
                  try clear qi2
                  try clear c3
                  try clear c3b0
                  try clear c3b1
                  try clear p3
                  try clear q3
                  try clear hx3
                  try clear c4
                  try clear c4b0
                  try clear c5
                  try clear c5b0
                  try clear p6
                  try clear c9
                  try clear c9b0
                  try clear c10
                  try clear c10b0
                  try clear c10b1
                  try clear c12
                  try clear c12b0
                  try clear hx297_0
                  try clear hx298_0
                  try clear hx299_0
                  try clear hx300_0
                  try clear p2
                  try clear p297
                  try clear p298
                  try clear p299
                  try clear p3
                  try clear p300
                  try clear p6
                  try clear q2
                  try clear q297
                  try clear q298
                  try clear q299
                  try clear q3
                  try clear q300
                  obtain ⟨x7_3, x8_3, rfl, HA, HK3, HO_7, HB⟩ := hrel
                  cases gk with
                  | zero => exact absurd HA.out (by simp [rickref06_Put.l2])
                  | succ k3 =>
                    have H := HA.out
                    clear HA
                    simp only [rickref06_Put.l2] at H
                    by_cases c13 : x8_3 < (l0.length : Int)
                    · rw [if_pos c13] at H
                      have c13b0 : decide (x8_3 < (l0.length : Int)) = true := decide_eq_true c13
                      clear c13
                      by_cases c14 : 0 ≤ x8_3
                      · rw [if_pos c14] at H
                        have c14b0 : decide (0 ≤ x8_3) = true := decide_eq_true c14
                        clear c14
                        replace H := Option.bind_eq_some_iff.mp H
                        obtain ⟨t302, A150, H⟩ := H
                        replace H : (rickref06_Put.l2 k3 l0 x3_1 x6_7 t302 (wrap64 (x8_3 + 1))) = some r := H
                        have A15 := Aside0.mk A150
                        clear A150
                        have H' := Aside0.mk H
                        clear H
                        have p301 : 0 ≤ (x8_3 : Int) := of_decide_eq_true (by first | (with_reducible assumption) | assumption)
                        have q301 : x8_3 < (l0.length : Int) := of_decide_eq_true (by first | (with_reducible assumption) | assumption)
                        obtain ⟨ad301, e301, hx301_0⟩ := Kd.at_int HR0.out x8_3 p301 q301
                        obtain rfl : ad297 = ad301 := (by injection e301)
                        replace hx301_0 := (HB.out.cell (World.block_lt_of_cell? w _ hx301_0)).trans hx301_0
                        replace p301 := eq_true p301
                        replace q301 := eq_true q301
                        obtain ⟨Ao16, co16, eo16⟩ := Kd.R_slice HO_7.out
                        subst eo16
                        go_wp2_with (first | (go_at_call 31; (with_reducible refine (rickref04_Put.calls k3 (fun k_ => some k_ = (.slice Ao16 x7_3.length co16 : Value).ownBlock) (.slice Ao16 x7_3.length co16) x7_3 (IntKind.u64.wrap ((rd l0 x8_3) - x3_1)) x6_7 t302 w _ ?side1 ?side2 A15.out).mono ?_); (case side1 => repeat (first | (with_reducible first | exact HB.out | apply below_alloc | apply pw_below_drewN | apply below_drew1) | exact HB.out)); (case side2 => exact Kd.R_tight rfl HO_7.out); rintro e w17 ⟨v303, rfl, ho0, hb, hkp⟩; have n0_ := Aside0.mk (Kd.R_mono (ok' := fun k_ => True) ho0 (fun k_ hk_ => trivial)); have n1_ := Aside0.mk (hb); clear HB; clear HO_7; have HO304 := n0_; have HB := n1_; clear n0_ n1_; (try clear hb); (try clear hkp); (try clear ho0)))
                        repeat (go_quiet (first | (go_at_call 31; (with_reducible refine (rickref04_Put.calls k3 (fun k_ => some k_ = (.slice Ao16 x7_3.length co16 : Value).ownBlock) (.slice Ao16 x7_3.length co16) x7_3 (IntKind.u64.wrap ((rd l0 x8_3) - x3_1)) x6_7 t302 w _ ?side1 ?side2 A15.out).mono ?_); (case side1 => repeat (first | (with_reducible first | exact HB.out | apply below_alloc | apply pw_below_drewN | apply below_drew1) | exact HB.out)); (case side2 => exact Kd.R_tight rfl HO_7.out); rintro e w17 ⟨v303, rfl, ho0, hb, hkp⟩; have n0_ := Aside0.mk (Kd.R_mono (ok' := fun k_ => True) ho0 (fun k_ hk_ => trivial)); have n1_ := Aside0.mk (hb); clear HB; clear HO_7; have HO304 := n0_; have HB := n1_; clear n0_ n1_; (try clear hb); (try clear hkp); (try clear ho0))); try go_wp2_with (first | (go_at_call 31; (with_reducible refine (rickref04_Put.calls k3 (fun k_ => some k_ = (.slice Ao16 x7_3.length co16 : Value).ownBlock) (.slice Ao16 x7_3.length co16) x7_3 (IntKind.u64.wrap ((rd l0 x8_3) - x3_1)) x6_7 t302 w _ ?side1 ?side2 A15.out).mono ?_); (case side1 => repeat (first | (with_reducible first | exact HB.out | apply below_alloc | apply pw_below_drewN | apply below_drew1) | exact HB.out)); (case side2 => exact Kd.R_tight rfl HO_7.out); rintro e w17 ⟨v303, rfl, ho0, hb, hkp⟩; have n0_ := Aside0.mk (Kd.R_mono (ok' := fun k_ => True) ho0 (fun k_ hk_ => trivial)); have n1_ := Aside0.mk (hb); clear HB; clear HO_7; have HO304 := n0_; have HB := n1_; clear n0_ n1_; (try clear hb); (try clear hkp); (try clear ho0))))
                        go_roundg k3
                        case measure => have := HK1.out; have := HJ7.out; have := HK3.out; omega
                        case rel => exact ⟨(t302), (wrap64 (x8_3 + 1)), (by first | rfl | (simp; done) | (simp [*]; done)), H', ⟨by have := HK1.out; have := HJ7.out; have := HK3.out; omega⟩, ⟨by (with_reducible repeat (first | apply Kd.R_alloc | apply Kd.R_drewN | apply Kd.R_drew)); exact HO304.out⟩, ⟨by repeat (first | (with_reducible first | exact HB.out | apply below_alloc | apply pw_below_drewN | apply below_drew1) | exact HB.out)⟩⟩
                      · rw [if_neg c14] at H
                        exact absurd H (by simp)
                    · rw [if_neg c13] at H
                      have c13b0 : decide (x8_3 < (l0.length : Int)) = false := decide_eq_false c13
                      clear c13
                      replace H := Option.bind_eq_some_iff.mp H
                      obtain ⟨t305, A180, H⟩ := H
                      replace H : (if t305.length < 140737488355328 then ((some (t305 ++ [(x6_7) % 256] : List Int)).bind fun y308 => ((rickref04_Bytes.f k3 x7_3).bind fun t311 => (if y308.length + t311.length < 140737488355328 then (some (y308 ++ t311)) else (none)))) else (none)) = some r := H
                      have A18 := Aside0.mk A180
                      clear A180
                      by_cases c19 : t305.length < 140737488355328
                      · rw [if_pos c19] at H
                        have LMc19 := Aside0.mk c19
                        clear c19
                        obtain ⟨y308, hy308⟩ : ∃ y_ : List Int, y_ = (t305 ++ [(x6_7) % 256]) := ⟨_, rfl⟩
                        replace H : ((rickref04_Bytes.f k3 x7_3).bind fun t311 => (if y308.length + t311.length < 140737488355328 then (some (y308 ++ t311)) else (none))) = some r := by first | (rw [hy308]; with_reducible exact H) | (have H2_ := (Option.bind_some _ _).symm.trans H; rw [hy308]; with_reducible exact H2_) | (have H2_ := (Option.bind_some _ _).symm.trans H; with_reducible exact H2_) | with_reducible exact H | (rw [hy308]; exact H) | exact H
                        have Ny308 := Aside0.mk hy308
                        clear hy308
                        replace H := Option.bind_eq_some_iff.mp H
                        obtain ⟨t311, A200, H⟩ := H
                        replace H : (if y308.length + t311.length < 140737488355328 then (some (y308 ++ t311)) else (none)) = some r := H
                        have A20 := Aside0.mk A200
                        clear A200
                        by_cases c21 : y308.length + t311.length < 140737488355328
                        · rw [if_pos c21] at H
                          have LMc21 := Aside0.mk c21
                          clear c21
                          obtain ⟨y314, hy314⟩ : ∃ y_ : List Int, y_ = (y308 ++ t311) := ⟨_, rfl⟩
                          replace H : (some y314) = some r := by first | (rw [hy314]; with_reducible exact H) | (have H2_ := (Option.bind_some _ _).symm.trans H; rw [hy314]; with_reducible exact H2_) | (have H2_ := (Option.bind_some _ _).symm.trans H; with_reducible exact H2_) | with_reducible exact H | (rw [hy314]; exact H) | exact H
                          have Ny314 := Aside0.mk hy314
                          clear hy314
                          obtain rfl := Option.some.inj H
                          go_wp2_with (first | (go_at_call 59; (with_reducible refine (rickref06_Raw.calls k3 x3_1 t305 _ A18.out).mono ?_); rintro e w22 ⟨v306, rfl, ho0, hb⟩; have n0_ := Aside0.mk (Kd.R_elder' (by (with_reducible repeat (first | apply Kd.R_alloc | apply Kd.R_drewN | apply Kd.R_drew)); exact HO_7.out) (Kd.R_base ho0) hb); have n1_ := Aside0.mk (Kd.R_lower (Kd.R_new' ho0 (Kd.R_lt (by (with_reducible repeat (first | apply Kd.R_alloc | apply Kd.R_drewN | apply Kd.R_drew)); exact HO_7.out))) (below_size (by repeat (first | (with_reducible first | exact HB.out | apply below_alloc | apply pw_below_drewN | apply below_drew1) | exact HB.out)))); have n2_ := Aside0.mk (below_step (by repeat (first | (with_reducible first | exact HB.out | apply below_alloc | apply pw_below_drewN | apply below_drew1) | exact HB.out)) hb); clear HO_7; clear HB; have HO_7 := n0_; have HO307 := n1_; have HB := n2_; clear n0_ n1_ n2_; (try clear hb); (try clear hb2); (try clear hk); (try clear hi); (try clear ho0)) | ((with_reducible refine gate_builtin (b := .append) (xs := #[.tmp 64, .tmp 67]) rfl ?_); at_builtin; refine Kd.R_append (Kd.int .u8) (w0 := w) w.heap.size rfl (.tmp 64) (.tmp 67) 22 5 (.int .u8 0) 1 rfl Try.underlying22 info5 rfl (by decide) (by omega) v306 t305 ((x6_7) % 256) [.int .u8 ((x6_7) % 256)] (fun k_ => some k_ ≠ (u7 : Value).ownBlock) (fun _ => False) rfl rfl ?aP (fun _ hk => hk.elim) ?aF ?aO ?aB ?aS ?aL ?_; (case aP => exact rfl); (case aB => exact (by repeat (first | (with_reducible first | exact HB.out | apply below_alloc | apply pw_below_drewN | apply below_drew1) | exact HB.out))); (case aF => exact (fun k_ hk => Kd.fresh' (Kd.R_lt (by (with_reducible repeat (first | apply Kd.R_alloc | apply Kd.R_drewN | apply Kd.R_drew)); exact HO_7.out)) k_ hk)); (case aO => exact (by (with_reducible repeat (first | apply Kd.R_alloc | apply Kd.R_drewN | apply Kd.R_drew)); exact Kd.R_mono HO307.out (fun _ hk => hk.2))); (case aS => exact (below_size (by repeat (first | (with_reducible first | exact HB.out | apply below_alloc | apply pw_below_drewN | apply below_drew1) | exact HB.out)))); (case aL => have := LMc19.out; omega); intro v309 w23 ho hb hg hat; rw [← Ny308.out] at ho; have n0_ := Aside0.mk (Kd.R_after (ok := (fun _ => True)) (by (with_reducible repeat (first | apply Kd.R_alloc | apply Kd.R_drewN | apply Kd.R_drew)); exact HO_7.out) hg hat); have n1_ := Aside0.mk (hb); have n2_ := Aside0.mk (ho); clear HO_7; clear HB; clear HO307; have HO_7 := n0_; have HB := n1_; have HO310 := n2_; clear n0_ n1_ n2_; clear ho hb hg hat; obtain ⟨Ao24, co24, eo24⟩ := Kd.R_slice HO_7.out; subst eo24) | (go_at_call 32; (with_reducible refine (rickref04_Bytes.calls k3 _ _ x7_3 t311 _ ?side1 ?side2 A20.out).mono ?_); (case side1 => repeat (first | exact (Kd.R_reads' HO_7.out).2.2 | (with_reducible refine Kd.C_alloc ?_ _) | (with_reducible refine Kd.C_drewN ?_ _) | (with_reducible refine Kd.C_drew ?_))); (case side2 => exact (Kd.R_reads' HO_7.out).2.1); rintro e w25 ⟨v312, rfl, ho0, hb⟩; have n0_ := Aside0.mk (Kd.R_elder' (by (with_reducible repeat (first | apply Kd.R_alloc | apply Kd.R_drewN | apply Kd.R_drew)); exact HO_7.out) (Kd.R_base ho0) hb); have n1_ := Aside0.mk (Kd.R_elder' (by (with_reducible repeat (first | apply Kd.R_alloc | apply Kd.R_drewN | apply Kd.R_drew)); exact HO310.out) (Kd.R_base ho0) hb); have n2_ := Aside0.mk (Kd.R_lower (Kd.R_new' (Kd.R_new' ho0 (Kd.R_lt (by (with_reducible repeat (first | apply Kd.R_alloc | apply Kd.R_drewN | apply Kd.R_drew)); exact HO_7.out))) (Kd.R_lt (by (with_reducible repeat (first | apply Kd.R_alloc | apply Kd.R_drewN | apply Kd.R_drew)); exact HO310.out))) (below_size (by repeat (first | (with_reducible first | exact HB.out | apply below_alloc | apply pw_below_drewN | apply below_drew1) | exact HB.out)))); have n3_ := Aside0.mk (below_step (by repeat (first | (with_reducible first | exact HB.out | apply below_alloc | apply pw_below_drewN | apply below_drew1) | exact HB.out)) hb); clear HO_7; clear HO310; clear HB; have HO_7 := n0_; have HO310 := n1_; have HO313 := n2_; have HB := n3_; clear n0_ n1_ n2_ n3_; (try clear hb); (try clear hb2); (try clear hk); (try clear hi); (try clear ho0); obtain ⟨Ao27, co27, eo27⟩ := Kd.R_slice HO313.out; subst eo27) | ((with_reducible refine gate_builtin (b := .append) (xs := #[.tmp 68, .tmp 70]) rfl ?_); at_builtin; refine Kd.R_append_rows (Kd.int .u8) (w0 := w) w.heap.size rfl (.tmp 68) (.tmp 70) 22 5 (.int .u8 0) 1 rfl Try.underlying22 info5 rfl (by decide) (by omega) v309 y308 t311 _ _ _ (fun k_ => some k_ ≠ (.slice Ao24 x7_3.length co24 : Value).ownBlock ∧ some k_ ≠ (.slice Ao27 t311.length co27 : Value).ownBlock) (fun _ => False) rfl rfl ?aO ?aR (fun _ _ h => h) (fun _ h => h.elim) ?aF ?aB ?aS ?aL ?_; (case aR => repeat (first | exact (Kd.R_reads' HO313.out).2.2 | (with_reducible refine Kd.C_alloc ?_ _) | (with_reducible refine Kd.C_drewN ?_ _) | (with_reducible refine Kd.C_drew ?_))); (case aB => exact (by repeat (first | (with_reducible first | exact HB.out | apply below_alloc | apply pw_below_drewN | apply below_drew1) | exact HB.out))); (case aF => exact (fun k_ hk => ⟨Kd.fresh' (Kd.R_lt (by (with_reducible repeat (first | apply Kd.R_alloc | apply Kd.R_drewN | apply Kd.R_drew)); exact HO_7.out)) k_ hk, Kd.fresh' (Kd.R_lt (by (with_reducible repeat (first | apply Kd.R_alloc | apply Kd.R_drewN | apply Kd.R_drew)); exact HO313.out)) k_ hk⟩)); (case aO => exact (by (with_reducible repeat (first | apply Kd.R_alloc | apply Kd.R_drewN | apply Kd.R_drew)); exact HO310.out)); (case aS => exact (below_size (by repeat (first | (with_reducible first | exact HB.out | apply below_alloc | apply pw_below_drewN | apply below_drew1) | exact HB.out)))); (case aL => have := LMc21.out; omega); intro v315 w26 ho hb hg hat; rw [← Ny314.out] at ho; have n0_ := Aside0.mk (Kd.R_after (ok := (fun k_ => some k_ ≠ (.slice Ao27 t311.length co27 : Value).ownBlock)) (by (with_reducible repeat (first | apply Kd.R_alloc | apply Kd.R_drewN | apply Kd.R_drew)); exact Kd.R_mono HO_7.out (fun _ hk => ⟨hk.2, hk.1.2⟩)) hg hat); have n1_ := Aside0.mk (Kd.R_after (ok := (fun k_ => some k_ ≠ (.slice Ao24 x7_3.length co24 : Value).ownBlock)) (by (with_reducible repeat (first | apply Kd.R_alloc | apply Kd.R_drewN | apply Kd.R_drew)); exact Kd.R_mono HO313.out (fun _ hk => ⟨hk.1.2, hk.2⟩)) hg hat); have n2_ := Aside0.mk (hb); have n3_ := Aside0.mk (ho); clear HO_7; clear HO313; clear HB; clear HO310; have HO_7 := n0_; have HO313 := n1_; have HB := n2_; have HO316 := n3_; clear n0_ n1_ n2_ n3_; clear ho hb hg hat))
                          repeat (go_quiet (first | (go_at_call 59; (with_reducible refine (rickref06_Raw.calls k3 x3_1 t305 _ A18.out).mono ?_); rintro e w22 ⟨v306, rfl, ho0, hb⟩; have n0_ := Aside0.mk (Kd.R_elder' (by (with_reducible repeat (first | apply Kd.R_alloc | apply Kd.R_drewN | apply Kd.R_drew)); exact HO_7.out) (Kd.R_base ho0) hb); have n1_ := Aside0.mk (Kd.R_lower (Kd.R_new' ho0 (Kd.R_lt (by (with_reducible repeat (first | apply Kd.R_alloc | apply Kd.R_drewN | apply Kd.R_drew)); exact HO_7.out))) (below_size (by repeat (first | (with_reducible first | exact HB.out | apply below_alloc | apply pw_below_drewN | apply below_drew1) | exact HB.out)))); have n2_ := Aside0.mk (below_step (by repeat (first | (with_reducible first | exact HB.out | apply below_alloc | apply pw_below_drewN | apply below_drew1) | exact HB.out)) hb); clear HO_7; clear HB; have HO_7 := n0_; have HO307 := n1_; have HB := n2_; clear n0_ n1_ n2_; (try clear hb); (try clear hb2); (try clear hk); (try clear hi); (try clear ho0)) | ((with_reducible refine gate_builtin (b := .append) (xs := #[.tmp 64, .tmp 67]) rfl ?_); at_builtin; refine Kd.R_append (Kd.int .u8) (w0 := w) w.heap.size rfl (.tmp 64) (.tmp 67) 22 5 (.int .u8 0) 1 rfl Try.underlying22 info5 rfl (by decide) (by omega) v306 t305 ((x6_7) % 256) [.int .u8 ((x6_7) % 256)] (fun k_ => some k_ ≠ (u7 : Value).ownBlock) (fun _ => False) rfl rfl ?aP (fun _ hk => hk.elim) ?aF ?aO ?aB ?aS ?aL ?_; (case aP => exact rfl); (case aB => exact (by repeat (first | (with_reducible first | exact HB.out | apply below_alloc | apply pw_below_drewN | apply below_drew1) | exact HB.out))); (case aF => exact (fun k_ hk => Kd.fresh' (Kd.R_lt (by (with_reducible repeat (first | apply Kd.R_alloc | apply Kd.R_drewN | apply Kd.R_drew)); exact HO_7.out)) k_ hk)); (case aO => exact (by (with_reducible repeat (first | apply Kd.R_alloc | apply Kd.R_drewN | apply Kd.R_drew)); exact Kd.R_mono HO307.out (fun _ hk => hk.2))); (case aS => exact (below_size (by repeat (first | (with_reducible first | exact HB.out | apply below_alloc | apply pw_below_drewN | apply below_drew1) | exact HB.out)))); (case aL => have := LMc19.out; omega); intro v309 w23 ho hb hg hat; rw [← Ny308.out] at ho; have n0_ := Aside0.mk (Kd.R_after (ok := (fun _ => True)) (by (with_reducible repeat (first | apply Kd.R_alloc | apply Kd.R_drewN | apply Kd.R_drew)); exact HO_7.out) hg hat); have n1_ := Aside0.mk (hb); have n2_ := Aside0.mk (ho); clear HO_7; clear HB; clear HO307; have HO_7 := n0_; have HB := n1_; have HO310 := n2_; clear n0_ n1_ n2_; clear ho hb hg hat; obtain ⟨Ao24, co24, eo24⟩ := Kd.R_slice HO_7.out; subst eo24) | (go_at_call 32; (with_reducible refine (rickref04_Bytes.calls k3 _ _ x7_3 t311 _ ?side1 ?side2 A20.out).mono ?_); (case side1 => repeat (first | exact (Kd.R_reads' HO_7.out).2.2 | (with_reducible refine Kd.C_alloc ?_ _) | (with_reducible refine Kd.C_drewN ?_ _) | (with_reducible refine Kd.C_drew ?_))); (case side2 => exact (Kd.R_reads' HO_7.out).2.1); rintro e w25 ⟨v312, rfl, ho0, hb⟩; have n0_ := Aside0.mk (Kd.R_elder' (by (with_reducible repeat (first | apply Kd.R_alloc | apply Kd.R_drewN | apply Kd.R_drew)); exact HO_7.out) (Kd.R_base ho0) hb); have n1_ := Aside0.mk (Kd.R_elder' (by (with_reducible repeat (first | apply Kd.R_alloc | apply Kd.R_drewN | apply Kd.R_drew)); exact HO310.out) (Kd.R_base ho0) hb); have n2_ := Aside0.mk (Kd.R_lower (Kd.R_new' (Kd.R_new' ho0 (Kd.R_lt (by (with_reducible repeat (first | apply Kd.R_alloc | apply Kd.R_drewN | apply Kd.R_drew)); exact HO_7.out))) (Kd.R_lt (by (with_reducible repeat (first | apply Kd.R_alloc | apply Kd.R_drewN | apply Kd.R_drew)); exact HO310.out))) (below_size (by repeat (first | (with_reducible first | exact HB.out | apply below_alloc | apply pw_below_drewN | apply below_drew1) | exact HB.out)))); have n3_ := Aside0.mk (below_step (by repeat (first | (with_reducible first | exact HB.out | apply below_alloc | apply pw_below_drewN | apply below_drew1) | exact HB.out)) hb); clear HO_7; clear HO310; clear HB; have HO_7 := n0_; have HO310 := n1_; have HO313 := n2_; have HB := n3_; clear n0_ n1_ n2_ n3_; (try clear hb); (try clear hb2); (try clear hk); (try clear hi); (try clear ho0); obtain ⟨Ao27, co27, eo27⟩ := Kd.R_slice HO313.out; subst eo27) | ((with_reducible refine gate_builtin (b := .append) (xs := #[.tmp 68, .tmp 70]) rfl ?_); at_builtin; refine Kd.R_append_rows (Kd.int .u8) (w0 := w) w.heap.size rfl (.tmp 68) (.tmp 70) 22 5 (.int .u8 0) 1 rfl Try.underlying22 info5 rfl (by decide) (by omega) v309 y308 t311 _ _ _ (fun k_ => some k_ ≠ (.slice Ao24 x7_3.length co24 : Value).ownBlock ∧ some k_ ≠ (.slice Ao27 t311.length co27 : Value).ownBlock) (fun _ => False) rfl rfl ?aO ?aR (fun _ _ h => h) (fun _ h => h.elim) ?aF ?aB ?aS ?aL ?_; (case aR => repeat (first | exact (Kd.R_reads' HO313.out).2.2 | (with_reducible refine Kd.C_alloc ?_ _) | (with_reducible refine Kd.C_drewN ?_ _) | (with_reducible refine Kd.C_drew ?_))); (case aB => exact (by repeat (first | (with_reducible first | exact HB.out | apply below_alloc | apply pw_below_drewN | apply below_drew1) | exact HB.out))); (case aF => exact (fun k_ hk => ⟨Kd.fresh' (Kd.R_lt (by (with_reducible repeat (first | apply Kd.R_alloc | apply Kd.R_drewN | apply Kd.R_drew)); exact HO_7.out)) k_ hk, Kd.fresh' (Kd.R_lt (by (with_reducible repeat (first | apply Kd.R_alloc | apply Kd.R_drewN | apply Kd.R_drew)); exact HO313.out)) k_ hk⟩)); (case aO => exact (by (with_reducible repeat (first | apply Kd.R_alloc | apply Kd.R_drewN | apply Kd.R_drew)); exact HO310.out)); (case aS => exact (below_size (by repeat (first | (with_reducible first | exact HB.out | apply below_alloc | apply pw_below_drewN | apply below_drew1) | exact HB.out)))); (case aL => have := LMc21.out; omega); intro v315 w26 ho hb hg hat; rw [← Ny314.out] at ho; have n0_ := Aside0.mk (Kd.R_after (ok := (fun k_ => some k_ ≠ (.slice Ao27 t311.length co27 : Value).ownBlock)) (by (with_reducible repeat (first | apply Kd.R_alloc | apply Kd.R_drewN | apply Kd.R_drew)); exact Kd.R_mono HO_7.out (fun _ hk => ⟨hk.2, hk.1.2⟩)) hg hat); have n1_ := Aside0.mk (Kd.R_after (ok := (fun k_ => some k_ ≠ (.slice Ao24 x7_3.length co24 : Value).ownBlock)) (by (with_reducible repeat (first | apply Kd.R_alloc | apply Kd.R_drewN | apply Kd.R_drew)); exact Kd.R_mono HO313.out (fun _ hk => ⟨hk.1.2, hk.2⟩)) hg hat); have n2_ := Aside0.mk (hb); have n3_ := Aside0.mk (ho); clear HO_7; clear HO313; clear HB; clear HO310; have HO_7 := n0_; have HO313 := n1_; have HB := n2_; have HO316 := n3_; clear n0_ n1_ n2_ n3_; clear ho hb hg hat)); try go_wp2_with (first | (go_at_call 59; (with_reducible refine (rickref06_Raw.calls k3 x3_1 t305 _ A18.out).mono ?_); rintro e w22 ⟨v306, rfl, ho0, hb⟩; have n0_ := Aside0.mk (Kd.R_elder' (by (with_reducible repeat (first | apply Kd.R_alloc | apply Kd.R_drewN | apply Kd.R_drew)); exact HO_7.out) (Kd.R_base ho0) hb); have n1_ := Aside0.mk (Kd.R_lower (Kd.R_new' ho0 (Kd.R_lt (by (with_reducible repeat (first | apply Kd.R_alloc | apply Kd.R_drewN | apply Kd.R_drew)); exact HO_7.out))) (below_size (by repeat (first | (with_reducible first | exact HB.out | apply below_alloc | apply pw_below_drewN | apply below_drew1) | exact HB.out)))); have n2_ := Aside0.mk (below_step (by repeat (first | (with_reducible first | exact HB.out | apply below_alloc | apply pw_below_drewN | apply below_drew1) | exact HB.out)) hb); clear HO_7; clear HB; have HO_7 := n0_; have HO307 := n1_; have HB := n2_; clear n0_ n1_ n2_; (try clear hb); (try clear hb2); (try clear hk); (try clear hi); (try clear ho0)) | ((with_reducible refine gate_builtin (b := .append) (xs := #[.tmp 64, .tmp 67]) rfl ?_); at_builtin; refine Kd.R_append (Kd.int .u8) (w0 := w) w.heap.size rfl (.tmp 64) (.tmp 67) 22 5 (.int .u8 0) 1 rfl Try.underlying22 info5 rfl (by decide) (by omega) v306 t305 ((x6_7) % 256) [.int .u8 ((x6_7) % 256)] (fun k_ => some k_ ≠ (u7 : Value).ownBlock) (fun _ => False) rfl rfl ?aP (fun _ hk => hk.elim) ?aF ?aO ?aB ?aS ?aL ?_; (case aP => exact rfl); (case aB => exact (by repeat (first | (with_reducible first | exact HB.out | apply below_alloc | apply pw_below_drewN | apply below_drew1) | exact HB.out))); (case aF => exact (fun k_ hk => Kd.fresh' (Kd.R_lt (by (with_reducible repeat (first | apply Kd.R_alloc | apply Kd.R_drewN | apply Kd.R_drew)); exact HO_7.out)) k_ hk)); (case aO => exact (by (with_reducible repeat (first | apply Kd.R_alloc | apply Kd.R_drewN | apply Kd.R_drew)); exact Kd.R_mono HO307.out (fun _ hk => hk.2))); (case aS => exact (below_size (by repeat (first | (with_reducible first | exact HB.out | apply below_alloc | apply pw_below_drewN | apply below_drew1) | exact HB.out)))); (case aL => have := LMc19.out; omega); intro v309 w23 ho hb hg hat; rw [← Ny308.out] at ho; have n0_ := Aside0.mk (Kd.R_after (ok := (fun _ => True)) (by (with_reducible repeat (first | apply Kd.R_alloc | apply Kd.R_drewN | apply Kd.R_drew)); exact HO_7.out) hg hat); have n1_ := Aside0.mk (hb); have n2_ := Aside0.mk (ho); clear HO_7; clear HB; clear HO307; have HO_7 := n0_; have HB := n1_; have HO310 := n2_; clear n0_ n1_ n2_; clear ho hb hg hat; obtain ⟨Ao24, co24, eo24⟩ := Kd.R_slice HO_7.out; subst eo24) | (go_at_call 32; (with_reducible refine (rickref04_Bytes.calls k3 _ _ x7_3 t311 _ ?side1 ?side2 A20.out).mono ?_); (case side1 => repeat (first | exact (Kd.R_reads' HO_7.out).2.2 | (with_reducible refine Kd.C_alloc ?_ _) | (with_reducible refine Kd.C_drewN ?_ _) | (with_reducible refine Kd.C_drew ?_))); (case side2 => exact (Kd.R_reads' HO_7.out).2.1); rintro e w25 ⟨v312, rfl, ho0, hb⟩; have n0_ := Aside0.mk (Kd.R_elder' (by (with_reducible repeat (first | apply Kd.R_alloc | apply Kd.R_drewN | apply Kd.R_drew)); exact HO_7.out) (Kd.R_base ho0) hb); have n1_ := Aside0.mk (Kd.R_elder' (by (with_reducible repeat (first | apply Kd.R_alloc | apply Kd.R_drewN | apply Kd.R_drew)); exact HO310.out) (Kd.R_base ho0) hb); have n2_ := Aside0.mk (Kd.R_lower (Kd.R_new' (Kd.R_new' ho0 (Kd.R_lt (by (with_reducible repeat (first | apply Kd.R_alloc | apply Kd.R_drewN | apply Kd.R_drew)); exact HO_7.out))) (Kd.R_lt (by (with_reducible repeat (first | apply Kd.R_alloc | apply Kd.R_drewN | apply Kd.R_drew)); exact HO310.out))) (below_size (by repeat (first | (with_reducible first | exact HB.out | apply below_alloc | apply pw_below_drewN | apply below_drew1) | exact HB.out)))); have n3_ := Aside0.mk (below_step (by repeat (first | (with_reducible first | exact HB.out | apply below_alloc | apply pw_below_drewN | apply below_drew1) | exact HB.out)) hb); clear HO_7; clear HO310; clear HB; have HO_7 := n0_; have HO310 := n1_; have HO313 := n2_; have HB := n3_; clear n0_ n1_ n2_ n3_; (try clear hb); (try clear hb2); (try clear hk); (try clear hi); (try clear ho0); obtain ⟨Ao27, co27, eo27⟩ := Kd.R_slice HO313.out; subst eo27) | ((with_reducible refine gate_builtin (b := .append) (xs := #[.tmp 68, .tmp 70]) rfl ?_); at_builtin; refine Kd.R_append_rows (Kd.int .u8) (w0 := w) w.heap.size rfl (.tmp 68) (.tmp 70) 22 5 (.int .u8 0) 1 rfl Try.underlying22 info5 rfl (by decide) (by omega) v309 y308 t311 _ _ _ (fun k_ => some k_ ≠ (.slice Ao24 x7_3.length co24 : Value).ownBlock ∧ some k_ ≠ (.slice Ao27 t311.length co27 : Value).ownBlock) (fun _ => False) rfl rfl ?aO ?aR (fun _ _ h => h) (fun _ h => h.elim) ?aF ?aB ?aS ?aL ?_; (case aR => repeat (first | exact (Kd.R_reads' HO313.out).2.2 | (with_reducible refine Kd.C_alloc ?_ _) | (with_reducible refine Kd.C_drewN ?_ _) | (with_reducible refine Kd.C_drew ?_))); (case aB => exact (by repeat (first | (with_reducible first | exact HB.out | apply below_alloc | apply pw_below_drewN | apply below_drew1) | exact HB.out))); (case aF => exact (fun k_ hk => ⟨Kd.fresh' (Kd.R_lt (by (with_reducible repeat (first | apply Kd.R_alloc | apply Kd.R_drewN | apply Kd.R_drew)); exact HO_7.out)) k_ hk, Kd.fresh' (Kd.R_lt (by (with_reducible repeat (first | apply Kd.R_alloc | apply Kd.R_drewN | apply Kd.R_drew)); exact HO313.out)) k_ hk⟩)); (case aO => exact (by (with_reducible repeat (first | apply Kd.R_alloc | apply Kd.R_drewN | apply Kd.R_drew)); exact HO310.out)); (case aS => exact (below_size (by repeat (first | (with_reducible first | exact HB.out | apply below_alloc | apply pw_below_drewN | apply below_drew1) | exact HB.out)))); (case aL => have := LMc21.out; omega); intro v315 w26 ho hb hg hat; rw [← Ny314.out] at ho; have n0_ := Aside0.mk (Kd.R_after (ok := (fun k_ => some k_ ≠ (.slice Ao27 t311.length co27 : Value).ownBlock)) (by (with_reducible repeat (first | apply Kd.R_alloc | apply Kd.R_drewN | apply Kd.R_drew)); exact Kd.R_mono HO_7.out (fun _ hk => ⟨hk.2, hk.1.2⟩)) hg hat); have n1_ := Aside0.mk (Kd.R_after (ok := (fun k_ => some k_ ≠ (.slice Ao24 x7_3.length co24 : Value).ownBlock)) (by (with_reducible repeat (first | apply Kd.R_alloc | apply Kd.R_drewN | apply Kd.R_drew)); exact Kd.R_mono HO313.out (fun _ hk => ⟨hk.1.2, hk.2⟩)) hg hat); have n2_ := Aside0.mk (hb); have n3_ := Aside0.mk (ho); clear HO_7; clear HO313; clear HB; clear HO310; have HO_7 := n0_; have HO313 := n1_; have HB := n2_; have HO316 := n3_; clear n0_ n1_ n2_ n3_; clear ho hb hg hat)))
                          go_ret
                          exact ⟨_, by first | rfl | (simp [errW_none, errW_some] <;> rfl) | (simp [*, errW_none, errW_some] <;> rfl), by (with_reducible repeat (first | apply Kd.R_alloc | apply Kd.R_drewN | apply Kd.R_drew)); exact Kd.R_mono HO316.out (fun _ hk => trivial), by repeat (first | (with_reducible first | exact HB.out | apply below_alloc | apply pw_below_drewN | apply below_drew1) | exact HB.out)⟩
                        · rw [if_neg c21] at H
                          exact absurd H (by simp)
                      · rw [if_neg c19] at H
                        exact absurd H (by simp)
    · rw [if_neg c3] at H
      exact absurd H (by simp)

end Go.Proofs.Ytmlbppfcpejlpaa.X

/- What the reference of layer 6 (pack) tells, and that packed numbers are told back. No conditions. -/
namespace Go.Proofs.Ytmlbppfcpejlpaa.Q06
open Go Go.RowKit Go.Proofs.YtmlbppfcpejlpaaW.PrintWords Go.Proofs.YtmlbppfcpejlpaaW.PrintMore Go.Proofs.Ytmlbppfcpejlpaa.S Go.Proofs.Ytmlbppfcpejlpaa.B Go.Proofs.Ytmlbppfcpejlpaa.X Go.Proofs.Ytmlbppfcpejlpaa.Q04
set_option linter.unusedVariables false
set_option linter.unusedSimpArgs false

theorem us_ok {l : List Int} (h : Us l) : pack_Put.ok l = true := List.all_eq_true.2 (fun x hx => by simpa using h x hx)
theorem lo_hi {l : List Int} (hu : Us l) (h0 : 0 < l.length) : 0 ≤ minL l ∧ minL l < 18446744073709551616 ∧ minL l ≤ maxL l ∧ maxL l < 18446744073709551616 ∧ 0 ≤ maxL l - minL l ∧ maxL l - minL l < 18446744073709551616 := by
  have h1 := hu _ (min_facts h0).1
  have h2 := hu _ (max_facts h0).1
  have h3 := (max_facts h0).2 _ (min_facts h0).1
  omega
theorem width_le {l : List Int} (hu : Us l) (h0 : 0 < l.length) : pack_Put.width l ≤ 64 := by
  have := lo_hi hu h0
  exact wd_le (by omega) (by omega)
theorem body_eq (l : List Int) : pack_Put.body l = (l.map (fun n => bitsN (pack_Put.width l) (n - minL l))).flatten := rfl
theorem flat_bits (w : Nat) (lo : Int) (l : List Int) : Bits ((l.map (fun n => bitsN w (n - lo))).flatten) := by
  intro x hx
  obtain ⟨y, hy, hx⟩ := List.mem_flatten.1 hx
  obtain ⟨n, _, rfl⟩ := List.mem_map.1 hy
  exact bitsN_bits _ _ x hx
theorem flat_len (w : Nat) (lo : Int) (l : List Int) : ((l.map (fun n => bitsN w (n - lo))).flatten).length = l.length * w := by
  induction l with
  | nil => simp
  | cons a l ih => rw [List.map_cons, List.flatten_cons, List.length_append, ih, bitsN_len, List.length_cons, Nat.succ_mul]; omega
theorem bits_bits (l : List Int) : Bits (pack_Put.bits l) := ((bitsN_bits _ _).append (bitsN_bits _ _)).append (flat_bits _ _ _)
theorem bits_len (l : List Int) : (pack_Put.bits l).length = 72 + l.length * pack_Put.width l := by
  unfold pack_Put.bits
  rw [List.length_append, List.length_append, bitsN_len, bitsN_len, body_eq, flat_len]

/-! ### a number in eight bytes -/
def raw8 (n : Int) : List Int := (List.range 8).map (fun i => n / 2 ^ (8 * (7 - i)) % 256)
theorem raw_l0 {n : Int} (h0 : 0 ≤ n) (h1 : n < 18446744073709551616) (d : Nat) : ∀ (i k : Nat), i + d = 8 → d < k → rickref06_Raw.l0 k n ((raw8 n).take i) ((d : Int) - 1) = some (raw8 n) := by
  induction d with
  | zero =>
    intro i k hd hk
    obtain ⟨k, rfl⟩ : ∃ q, k = q + 1 := ⟨k - 1, by omega⟩
    simp only [rickref06_Raw.l0]
    rw [if_neg (by omega), List.take_of_length_le (by simp [raw8]; omega)]
  | succ d ih =>
    intro i k hd hk
    obtain ⟨k, rfl⟩ : ∃ q, k = q + 1 := ⟨k - 1, by omega⟩
    have hlt : i < (raw8 n).length := by simp [raw8]; omega
    simp only [rickref06_Raw.l0]
    rw [show ((d + 1 : Nat) : Int) - 1 = (d : Int) by omega, if_pos (by omega), show wrap64 (8 * (d : Int)) = ((8 * d : Nat) : Int) by rw [wrap64_id] <;> omega, if_pos (by omega), if_pos (by rw [List.length_take]; omega), shr_nat .u64 n (by simp [IntKind.bits]; omega), wrap64_id (by omega) (by omega)]
    have := ih (i + 1) k (by omega) (by omega)
    rw [List.take_succ_eq_append_getElem hlt] at this
    have e : (raw8 n)[i] = n / 2 ^ (8 * d) % 256 := by
      simp only [raw8, List.getElem_map, List.getElem_range]
      congr 3; omega
    rw [e] at this
    exact this
theorem raw_spec {k : Nat} {n : Int} (h0 : 0 ≤ n) (h1 : n < 18446744073709551616) (hk : 8 < k) : rickref06_Raw.f k n = some (raw8 n) := by
  unfold rickref06_Raw.f
  have := raw_l0 h0 h1 8 0 k (by omega) hk
  simpa using this
theorem raw8_len (n : Int) : (raw8 n).length = 8 := by simp [raw8]
theorem packB_64 (v : Int) : packB (bitsN 64 v) = raw8 v := packB_bitsN 8 v
theorem bits_packB {l : List Int} (hu : Us l) (h0 : 0 < l.length) : packB (pack_Put.bits l) = raw8 (minL l) ++ [(pack_Put.width l : Int)] ++ packB (pack_Put.body l) := by
  have := width_le hu h0
  unfold pack_Put.bits
  rw [packB_append (by rw [List.length_append, bitsN_len, bitsN_len]), packB_append (by rw [bitsN_len]), packB_64, packB_8 (by omega) (by omega)]

/-! ### the reference's Put -/
theorem ref_l2_end {l : List Int} (hu : Us l) (h0 : 0 < l.length) (hl : l.length ≤ 200) (k : Nat) (hk : 20000 < k) :
    rickref06_Put.l2 (k + 1) l (minL l) (pack_Put.width l : Int) (pack_Put.body l) (l.length : Int) = some (packB (pack_Put.bits l)) := by
  have hlo := lo_hi hu h0
  have hw := width_le hu h0
  have hlen : (pack_Put.body l).length = l.length * pack_Put.width l := flat_len _ _ _
  have hmul : l.length * pack_Put.width l ≤ 200 * 64 := Nat.mul_le_mul hl hw
  have hbits : Bits (pack_Put.body l) := flat_bits _ _ _
  have hpk := bits_packB hu h0
  generalize pack_Put.bits l = L at hpk ⊢
  generalize pack_Put.body l = bd at *
  generalize pack_Put.width l = w at *
  generalize minL l = lo at *
  have e1 := raw_spec (k := k) hlo.1 hlo.2.1 (by omega)
  have e2 := refbytes_spec (k := k) hbits (by omega) (by omega)
  have hr := raw8_len lo
  have hp := packB_len bd
  have hm : (w : Int) % 256 = (w : Int) := Int.emod_eq_of_lt (by omega) (by omega)
  generalize raw8 lo = rr at *
  generalize packB bd = pp at *
  unfold rickref06_Put.l2
  rw [if_neg (by omega), e1, Option.bind_some, if_pos (by omega), Option.bind_some, e2, Option.bind_some, if_pos (by simp; omega), hm, hpk]
theorem ref_l2_step {l : List Int} (hu : Us l) (h0 : 0 < l.length) (hl : l.length ≤ 200) (i k : Nat) (hlt : i < l.length) (hk : 20000 < k) :
    rickref06_Put.l2 (k + 1) l (minL l) (pack_Put.width l : Int) (((l.take i).map (fun n => bitsN (pack_Put.width l) (n - minL l))).flatten) (i : Int) =
      rickref06_Put.l2 k l (minL l) (pack_Put.width l : Int) (((l.take (i + 1)).map (fun n => bitsN (pack_Put.width l) (n - minL l))).flatten) ((i + 1 : Nat) : Int) := by
  have hlo := lo_hi hu h0
  have hw := width_le hu h0
  have hcl : cl (pack_Put.width l : Int) = pack_Put.width l := by rw [cl_id (by omega) (by omega)]; omega
  have hel := hu _ (List.getElem_mem hlt)
  have hge := (min_facts h0).2 _ (List.getElem_mem hlt)
  have hlen := flat_len (pack_Put.width l) (minL l) (l.take i)
  have hmul : (l.take i).length * pack_Put.width l ≤ 200 * 64 := Nat.mul_le_mul (by rw [List.length_take]; omega) hw
  have hs : (((l.take (i + 1)).map (fun n => bitsN (pack_Put.width l) (n - minL l))).flatten) = (((l.take i).map (fun n => bitsN (pack_Put.width l) (n - minL l))).flatten) ++ bitsN (pack_Put.width l) (l[i] - minL l) := by
    rw [List.take_succ_eq_append_getElem hlt]
    simp only [List.map_append, List.flatten_append, List.map_cons, List.map_nil, List.flatten_cons, List.flatten_nil, List.append_nil]
  have e1 := refput_spec (k := k) (l := ((l.take i).map (fun n => bitsN (pack_Put.width l) (n - minL l))).flatten) (v := l[i] - minL l) (m := (pack_Put.width l : Int)) (by omega) (by omega) (by omega) (by omega)
  rw [hcl, ← hs] at e1
  have e2 := wrap_u64_id (n := l[i] - minL l) (by omega) (by omega)
  have e3 : wrap64 ((i : Int) + 1) = ((i + 1 : Nat) : Int) := Q06.succ64 (by omega)
  clear hs hlen hmul hcl
  generalize ((l.take i).map (fun n => bitsN (pack_Put.width l) (n - minL l))).flatten = P at e1 ⊢
  generalize ((l.take (i + 1)).map (fun n => bitsN (pack_Put.width l) (n - minL l))).flatten = P2 at e1 ⊢
  generalize pack_Put.width l = w at *
  rw [rickref06_Put.l2]
  rw [if_pos (by omega), if_pos (by omega), rd_get hlt, e2, e1, Option.bind_some, e3]
theorem ref_l2 {l : List Int} (hu : Us l) (h0 : 0 < l.length) (hl : l.length ≤ 200) (d : Nat) : ∀ (i k : Nat), i + d = l.length → 20001 + d < k →
    rickref06_Put.l2 k l (minL l) (pack_Put.width l : Int) (((l.take i).map (fun n => bitsN (pack_Put.width l) (n - minL l))).flatten) (i : Int) = some (packB (pack_Put.bits l)) := by
  induction d with
  | zero =>
    intro i k hd hk
    obtain ⟨k, rfl⟩ : ∃ q, k = q + 1 := ⟨k - 1, by omega⟩
    have hi : i = l.length := by simpa using hd
    subst hi
    rw [List.take_length]
    exact ref_l2_end hu h0 hl k (by omega)
  | succ d ih =>
    intro i k hd hk
    obtain ⟨k, rfl⟩ : ∃ q, k = q + 1 := ⟨k - 1, by omega⟩
    rw [ref_l2_step hu h0 hl i k (by omega) (by omega)]
    exact ih (i + 1) k (by omega) (by omega)
theorem shift_pos {x : Int} (h0 : 0 ≤ x) (w : Nat) : x / 2 ^ w > 0 ↔ w < wd x := by
  have hp : (0 : Int) < 2 ^ w := Int.pow_pos (by decide)
  obtain ⟨k1, k2⟩ := wd_facts h0
  constructor
  · intro h
    rcases Nat.lt_or_ge w (wd x) with h' | h'
    · exact h'
    · have : (2 : Int) ^ wd x ≤ 2 ^ w := by exact_mod_cast Nat.pow_le_pow_right (by decide) h'
      rw [Int.ediv_eq_zero_of_lt h0 (by omega)] at h
      omega
  · intro h
    have hx : x ≠ 0 := by rintro rfl; simp [wd] at h
    have := k2 hx
    have : (2 : Int) ^ w ≤ 2 ^ (wd x - 1) := by exact_mod_cast Nat.pow_le_pow_right (by decide) (show w ≤ wd x - 1 by omega)
    have := Int.le_ediv_of_mul_le hp (show 1 * 2 ^ w ≤ x by omega)
    omega
theorem ref_l1 {l : List Int} (hu : Us l) (h0 : 0 < l.length) (hl : l.length ≤ 200) (d : Nat) : ∀ (w k : Nat), w + d = pack_Put.width l → 21000 + d < k →
    rickref06_Put.l1 k l (minL l) (maxL l) (w : Int) = some (packB (pack_Put.bits l)) := by
  have hlo := lo_hi hu h0
  have hw := width_le hu h0
  have hj : ∀ k, 20500 < k → rickref06_Put.j2 k l (minL l) (pack_Put.width l : Int) = some (packB (pack_Put.bits l)) := by
    intro k hk
    obtain ⟨k, rfl⟩ : ∃ q, k = q + 1 := ⟨k - 1, by omega⟩
    simp only [rickref06_Put.j2]
    have := ref_l2 hu h0 hl l.length 0 k (by omega) (by omega)
    simpa using this
  induction d with
  | zero =>
    intro w k hd hk
    obtain ⟨k, rfl⟩ : ∃ q, k = q + 1 := ⟨k - 1, by omega⟩
    obtain rfl : w = pack_Put.width l := by omega
    simp only [rickref06_Put.l1]
    by_cases h64 : ((pack_Put.width l : Nat) : Int) < 64
    · have hn : ¬ (maxL l - minL l) / 2 ^ pack_Put.width l > 0 := by rw [shift_pos (by omega)]; unfold pack_Put.width; omega
      rw [if_pos h64, if_pos (by omega), wrap_u64_id (n := maxL l - minL l) (by omega) (by omega), shr_nat .u64 _ (by simp [IntKind.bits]; omega), if_neg hn]
      exact hj k (by omega)
    · rw [if_neg h64]
      exact hj k (by omega)
  | succ d ih =>
    intro w k hd hk
    obtain ⟨k, rfl⟩ : ∃ q, k = q + 1 := ⟨k - 1, by omega⟩
    have hn : (maxL l - minL l) / 2 ^ w > 0 := by rw [shift_pos (by omega)]; unfold pack_Put.width at hd; omega
    simp only [rickref06_Put.l1]
    rw [if_pos (by omega), if_pos (by omega), wrap_u64_id (n := maxL l - minL l) (by omega) (by omega), shr_nat .u64 _ (by simp [IntKind.bits]; omega), if_pos hn, Q06.succ64 (by omega)]
    exact ih (w + 1) k (by omega) (by omega)
theorem ref_l0 {l : List Int} (hu : Us l) (h0 : 0 < l.length) (hl : l.length ≤ 200) (d : Nat) : ∀ (i k : Nat) (a b : Int), i + d = l.length → 22000 + d < k → (l.drop i).foldl mn a = minL l → (l.drop i).foldl mx b = maxL l →
    rickref06_Put.l0 k l a b (i : Int) = some (packB (pack_Put.bits l)) := by
  induction d with
  | zero =>
    intro i k a b hd hk ha hb
    obtain ⟨k, rfl⟩ : ∃ q, k = q + 1 := ⟨k - 1, by omega⟩
    rw [List.drop_eq_nil_of_le (by omega)] at ha hb
    simp only [rickref06_Put.l0]
    rw [if_neg (by omega), show a = minL l from ha, show b = maxL l from hb]
    exact ref_l1 hu h0 hl (pack_Put.width l) 0 k (by omega) (by have := width_le hu h0; omega)
  | succ d ih =>
    intro i k a b hd hk ha hb
    obtain ⟨k, rfl⟩ : ∃ q, k = q + 1 := ⟨k - 1, by omega⟩
    have hlt : i < l.length := by omega
    rw [List.drop_eq_getElem_cons hlt, List.foldl_cons] at ha hb
    simp only [rickref06_Put.l0]
    rw [if_pos (by omega), if_pos (by omega), rd_get hlt, Q06.succ64 (by omega)]
    exact ih (i + 1) k _ _ (by omega) (by omega) ha hb
/-- The bytes of numbers, by the reference. -/
theorem ref6_spec {k : Nat} {l : List Int} (hu : Us l) (hl : l.length ≤ 200) (hk : 23000 < k) : rickref06_Put.f k l = some (if l.length = 0 then [] else packB (pack_Put.bits l)) := by
  unfold rickref06_Put.f
  by_cases h0 : l.length = 0
  · rw [if_pos (by omega), if_pos h0]
  · rw [if_neg (by omega), if_pos (by omega), if_neg h0]
    have hd : l.drop 0 = l := rfl
    obtain ⟨a, t, rfl⟩ : ∃ a t, l = a :: t := by cases l with | nil => simp at h0 | cons a t => exact ⟨a, t, rfl⟩
    have hr : rd (a :: t) 0 = a := rfl
    refine ref_l0 hu (by simp) hl (a :: t).length 0 k _ _ (by omega) (by omega) ?_ ?_
    · rw [List.drop_zero, List.foldl_cons, hr]; unfold minL; rw [show mn a a = a by unfold mn; simp, hr]; rfl
    · rw [List.drop_zero, List.foldl_cons, hr]; unfold maxL; rw [show mx a a = a by unfold mx; simp, hr]; rfl
theorem put6_spec {l : List Int} (hu : Us l) (hl : l.length ≤ 200) : pack_Put.f l = some (if l.length = 0 then [] else packB (pack_Put.bits l), 0) := by
  unfold pack_Put.f
  rw [if_neg (by omega)]
  by_cases h0 : l.length = 0
  · rw [if_pos h0, if_pos h0]
  · rw [if_neg h0, if_neg h0, if_pos (us_ok hu)]

/-! ### packed, and told back -/
theorem drop_len_add (a b : List Int) (n : Nat) : (a ++ b).drop (a.length + n) = b.drop n := by rw [← List.drop_drop, List.drop_left]
theorem body_at {l : List Int} (w : Nat) (lo : Int) {j : Nat} (h : j < l.length) : (((l.map (fun n => bitsN w (n - lo))).flatten).drop (j * w)).take w = bitsN w (l[j] - lo) := by
  induction l generalizing j with
  | nil => simp at h
  | cons a l ih =>
    rw [List.map_cons, List.flatten_cons]
    cases j with
    | zero => simp [bitsN_len]
    | succ j =>
      rw [show (j + 1) * w = (bitsN w (a - lo)).length + j * w by rw [bitsN_len, Nat.succ_mul]; omega, drop_len_add, ih (by simpa using h)]
      simp
theorem outs_packed {l more : List Int} (hu : Us l) (h0 : 0 < l.length) : pack_Get.outs (packB (pack_Put.bits l) ++ more) (minL l) (pack_Put.width l) l.length = l := by
  have hlo := lo_hi hu h0
  apply List.ext_getElem
  · rw [pack_Get.outs_len]
  · intro j h1 h2
    have hel := hu _ (List.getElem_mem h2)
    have hge := (min_facts h0).2 _ (List.getElem_mem h2)
    have hle := (max_facts h0).2 _ (List.getElem_mem h2)
    have hlen := bits_len l
    have hj : (j + 1) * pack_Put.width l ≤ l.length * pack_Put.width l := Nat.mul_le_mul_right _ h2
    rw [Nat.succ_mul] at hj
    simp only [pack_Get.outs, List.getElem_map, List.getElem_range]
    rw [gv_packB (bits_bits l) (by omega)]
    have e : ((pack_Put.bits l).drop (72 + j * pack_Put.width l)).take (pack_Put.width l) = bitsN (pack_Put.width l) (l[j] - minL l) := by
      unfold pack_Put.bits
      rw [show 72 + j * pack_Put.width l = (bitsN 64 (minL l) ++ bitsN 8 (pack_Put.width l : Int)).length + j * pack_Put.width l by rw [List.length_append, bitsN_len, bitsN_len], drop_len_add, body_eq]
      exact body_at _ _ h2
    have hw := (wd_facts (x := maxL l - minL l) (by omega)).1
    rw [e, valB_bitsN _ (by omega), Int.emod_eq_of_lt (by omega) (by unfold pack_Put.width; omega), wrap_u64_id (by omega) (by omega)]
    omega
theorem get6_spec {l more : List Int} (hu : Us l) (hl : l.length ≤ 200) (hm : Bs more) (hml : more.length ≤ 1000) :
    pack_Get.f ((if l.length = 0 then [] else packB (pack_Put.bits l)) ++ more) (l.length : Int) = some (l, ((if l.length = 0 then [] else packB (pack_Put.bits l)).length : Int), 0) := by
  unfold pack_Get.f
  rw [if_neg (by omega)]
  by_cases h0 : l.length = 0
  · have : l = [] := List.length_eq_zero_iff.1 h0
    subst this
    simp
  have h0' : 0 < l.length := by omega
  have hlo := lo_hi hu h0'
  have hw := width_le hu h0'
  have hlen := bits_len l
  have hpl := packB_len (pack_Put.bits l)
  have hmul : l.length * pack_Put.width l ≤ 200 * 64 := Nat.mul_le_mul hl hw
  rw [if_neg h0, if_neg (by omega), if_neg (by rw [List.length_append]; omega)]
  have hbs : Bs (packB (pack_Put.bits l) ++ more) := (packB_bs (bits_bits l)).append hm
  have hrd : rd (packB (pack_Put.bits l) ++ more) 8 = (pack_Put.width l : Int) := by
    have h8 : 8 < (packB (pack_Put.bits l) ++ more).length := by rw [List.length_append]; omega
    have := rd_get (l := packB (pack_Put.bits l) ++ more) (i := 8) h8
    rw [show ((8 : Nat) : Int) = 8 from rfl] at this
    rw [this]
    have e : packB (pack_Put.bits l) ++ more = raw8 (minL l) ++ ((pack_Put.width l : Int) :: (packB (pack_Put.body l) ++ more)) := by rw [bits_packB hu h0']; simp
    simp only [e]
    rw [List.getElem_append_right (by rw [raw8_len]; omega)]
    simp [raw8_len]
  have hlo64 : gv (packB (pack_Put.bits l) ++ more) 0 64 = minL l := by
    rw [gv_packB (bits_bits l) (by omega), List.drop_zero]
    have : (pack_Put.bits l).take 64 = bitsN 64 (minL l) := by
      unfold pack_Put.bits
      rw [List.append_assoc, List.take_append_of_le_length (by rw [bitsN_len]; omega), List.take_of_length_le (by rw [bitsN_len]; omega)]
    rw [this, valB_bitsN _ hlo.1, Int.emod_eq_of_lt hlo.1 (by omega)]
  rw [hrd, if_neg (by omega), if_pos (bs_okB hbs (by rw [List.length_append]; omega)), Int.toNat_natCast, Int.toNat_natCast, if_neg (by rw [List.length_append]; omega), hlo64, outs_packed hu h0', put6_spec hu hl, if_neg h0]
  simp only [Option.bind_some]
  rw [prefix_yes]
  simp
end Go.Proofs.Ytmlbppfcpejlpaa.Q06

-- Printed by this session's own program (wip/xprint.py) over the translation; its external functions are hand-written. Lean checks it.
namespace Go.Proofs.Ytmlbppfcpejlpaa.X
open Go.RowKit Go.Proofs.YtmlbppfcpejlpaaW.PrintWords Go.Proofs.YtmlbppfcpejlpaaW.PrintLast Go.Proofs.YtmlbppfcpejlpaaW.PrintMore
attribute [local go_sem] max2_int min2_int max_two min_two max_three min_three max_four min_four   -- for this text's walks alone
set_option linter.unusedVariables false
set_option linter.unusedSimpArgs false

/-! ### rickref06_Same: function 40 -/
def rickref06_Same.l0 : Nat → List Int → List Int → Int → Option (Bool)
  | 0, _, _, _ => none
  | k + 1, x0, x1, x5 => if x5 < (x0.length : Int) then (if 0 ≤ x5 then (if x5 < (x1.length : Int) then (if (rd x0 x5) = (rd x1 x5) then (rickref06_Same.l0 k x0 x1 (wrap64 (x5 + 1))) else (some false)) else (none)) else (none)) else (some true)
def rickref06_Same.f (k : Nat) (l0 : List Int) (l1 : List Int) : Option (Bool) := if (l0.length : Int) = (l1.length : Int) then (rickref06_Same.l0 k l0 l1 0) else (some false)
theorem rickref06_Same.mono_l : ∀ k, (∀ y0 y1 y2, LeO (rickref06_Same.l0 k y0 y1 y2) (rickref06_Same.l0 (k + 1) y0 y1 y2))
  | 0 => fun _ _ _ r h => by simp [rickref06_Same.l0] at h
  | k + 1 => by
    have ih0 := rickref06_Same.mono_l k
    · intro y0 y1 y2
      unfold rickref06_Same.l0
      repeat' first
      | (with_reducible exact ih0 _ _ _)
      | (with_reducible exact LeO.refl _)
      | (with_reducible exact LeO.none _)
      | (with_reducible refine LeO.ite ?_ ?_)
      | (with_reducible refine LeO.bind ?_ (fun _ => ?_))
      | exact ih0 _ _ _
      | exact LeO.none _
      | refine LeO.ite ?_ ?_
      | refine LeO.bind ?_ (fun _ => ?_)
theorem rickref06_Same.mono : ∀ a0 a1 k, LeO (rickref06_Same.f k a0 a1) (rickref06_Same.f (k + 1) a0 a1) := by
  intro a0 a1 k
  have ih0 := rickref06_Same.mono_l k
  unfold rickref06_Same.f
  repeat' first
      | (with_reducible exact ih0 _ _ _)
      | (with_reducible exact LeO.refl _)
      | (with_reducible exact LeO.none _)
      | (with_reducible refine LeO.ite ?_ ?_)
      | (with_reducible refine LeO.bind ?_ (fun _ => ?_))
      | exact ih0 _ _ _
      | exact LeO.none _
      | refine LeO.ite ?_ ?_
      | refine LeO.bind ?_ (fun _ => ?_)
set_option maxHeartbeats 8000000 in
set_option maxRecDepth 100000 in
theorem rickref06_Same.calls (k : Nat) (A0 : Option Addr) (c0 : Nat) (l0 : List Int) (A1 : Option Addr) (c1 : Nat) (l1 : List Int) (r : Bool) (w : World) (hr0 : Kd.C (Kd.int .u64) w A0 l0.length l0) (hc0 : l0.length ≤ c0) (hr1 : Kd.C (Kd.int .u64) w A1 l1.length l1) (hc1 : l1.length ≤ c1) (h : rickref06_Same.f k l0 l1 = some r) :
    Calls Try.prog 40 #[.slice A0 l0.length c0, .slice A1 l1.length c1] w fun e w' => e = .returned (.bool r) ∧ Drawn0 w w' := by
  have HR0 := Aside0.mk hr0
  have HC0 := Aside0.mk hc0
  clear hr0 hc0
  have HR1 := Aside0.mk hr1
  have HC1 := Aside0.mk hc1
  clear hr1 hc1
  have H : (if (l0.length : Int) = (l1.length : Int) then (rickref06_Same.l0 k l0 l1 0) else (some false)) = some r := h
  clear h
  by_cases c3 : (l0.length : Int) = (l1.length : Int)
  · rw [if_pos c3] at H
    have c3b0 : ((l0.length : Int) == (l1.length : Int)) = true := beq_iff_eq.mpr c3
    have c3b1 : ((l0.length : Int) != (l1.length : Int)) = false := bne_eq_false_iff_eq.mpr c3
    have c3b2 : (l0.length == l1.length) = true := by first | simpa using c3 | (simp at c3 ⊢; omega)
    clear c3
    have H' := Aside0.mk H
    clear H
    go_enter Try.func40, Try.ntmps40
    go_wp2
    repeat (go_quiet (fail); try go_wp2)
    go_loopg [5] k (fun kq v5 w' => ∃ (x5_1 : Int), v5 = .int .i64 x5_1 ∧ Aside0 (rickref06_Same.l0 kq l0 l1 x5_1 = some r) ∧ Aside0 (kq ≤ k) ∧ Drawn0 w w')
    case atStart => exact ⟨(0), (by first | rfl | (simp; done) | (simp [*]; done)), H', ⟨Nat.le_refl _⟩, by repeat (first | exact Drawn0.refl _ | apply Drawn0.step)⟩
    case round =>
      clear H'
      try clear c1
      try clear p2
      try clear c3
      try clear c3b0
      try clear c3b1
      try clear c3b2
      obtain ⟨x5_1, rfl, HA, HK1, ⟨m1, rfl⟩⟩ := hrel
      cases gk with
      | zero => exact absurd HA.out (by simp [rickref06_Same.l0])
      | succ k1 =>
        have H := HA.out
        clear HA
        simp only [rickref06_Same.l0] at H
        by_cases c4 : x5_1 < (l0.length : Int)
        · rw [if_pos c4] at H
          have c4b0 : decide (x5_1 < (l0.length : Int)) = true := decide_eq_true c4
          clear c4
          by_cases c5 : 0 ≤ x5_1
          · rw [if_pos c5] at H
            have c5b0 : decide (0 ≤ x5_1) = true := decide_eq_true c5
            clear c5
            by_cases c6 : x5_1 < (l1.length : Int)
            · rw [if_pos c6] at H
              have c6b0 : decide (x5_1 < (l1.length : Int)) = true := decide_eq_true c6
              clear c6
              by_cases c7 : (rd l0 x5_1) = (rd l1 x5_1)
              · rw [if_pos c7] at H
                have c7b0 : ((rd l0 x5_1) == (rd l1 x5_1)) = true := beq_iff_eq.mpr c7
                have c7b1 : ((rd l0 x5_1) != (rd l1 x5_1)) = false := bne_eq_false_iff_eq.mpr c7
                clear c7
                have H' := Aside0.mk H
                clear H
                have p273 : 0 ≤ (x5_1 : Int) := of_decide_eq_true (by first | (with_reducible assumption) | assumption)
                have q273 : x5_1 < (l0.length : Int) := of_decide_eq_true (by first | (with_reducible assumption) | assumption)
                obtain ⟨ad273, e273, hx273_0⟩ := Kd.at_int HR0.out x5_1 p273 q273
                cases e273
                replace p273 := eq_true p273
                replace q273 := eq_true q273
                have p274 : 0 ≤ (x5_1 : Int) := of_decide_eq_true (by first | (with_reducible assumption) | assumption)
                have q274 : x5_1 < (l1.length : Int) := of_decide_eq_true (by first | (with_reducible assumption) | assumption)
                obtain ⟨ad274, e274, hx274_0⟩ := Kd.at_int HR1.out x5_1 p274 q274
                cases e274
                replace p274 := eq_true p274
                replace q274 := eq_true q274
                go_wp2
                repeat (go_quiet (fail); try go_wp2)
                go_roundg k1
                case measure => have := HK1.out; omega
                case rel => exact ⟨(wrap64 (x5_1 + 1)), (by first | rfl | (simp; done) | (simp [*]; done)), H', ⟨by have := HK1.out; omega⟩, by repeat (first | exact Drawn0.refl _ | apply Drawn0.step)⟩
              · rw [if_neg c7] at H
                have c7b0 : ((rd l0 x5_1) == (rd l1 x5_1)) = false := beq_eq_false_iff_ne.mpr c7
                have c7b1 : ((rd l0 x5_1) != (rd l1 x5_1)) = true := bne_iff_ne.mpr c7
                obtain rfl := Option.some.inj H
                have p273 : 0 ≤ (x5_1 : Int) := of_decide_eq_true (by first | (with_reducible assumption) | assumption)
                have q273 : x5_1 < (l0.length : Int) := of_decide_eq_true (by first | (with_reducible assumption) | assumption)
                obtain ⟨ad273, e273, hx273_0⟩ := Kd.at_int HR0.out x5_1 p273 q273
                cases e273
                replace p273 := eq_true p273
                replace q273 := eq_true q273
                have p274 : 0 ≤ (x5_1 : Int) := of_decide_eq_true (by first | (with_reducible assumption) | assumption)
                have q274 : x5_1 < (l1.length : Int) := of_decide_eq_true (by first | (with_reducible assumption) | assumption)
                obtain ⟨ad274, e274, hx274_0⟩ := Kd.at_int HR1.out x5_1 p274 q274
                cases e274
                replace p274 := eq_true p274
                replace q274 := eq_true q274
                go_wp2
                repeat (go_quiet (fail); try go_wp2)
                go_ret
                exact ⟨by first | rfl | (simp; done) | (simp [*]; done), by repeat (first | exact Drawn0.refl _ | apply Drawn0.step)⟩
            · rw [if_neg c6] at H
              exact absurd H (by simp)
          · rw [if_neg c5] at H
            exact absurd H (by simp)
        · rw [if_neg c4] at H
          have c4b0 : decide (x5_1 < (l0.length : Int)) = false := decide_eq_false c4
          clear c4
          obtain rfl := Option.some.inj H
          go_wp2
          repeat (go_quiet (fail); try go_wp2)
          go_ret
          exact ⟨by first | rfl | (simp; done) | (simp [*]; done), by repeat (first | exact Drawn0.refl _ | apply Drawn0.step)⟩
  · rw [if_neg c3] at H
    have c3b0 : ((l0.length : Int) == (l1.length : Int)) = false := beq_eq_false_iff_ne.mpr c3
    have c3b1 : ((l0.length : Int) != (l1.length : Int)) = true := bne_iff_ne.mpr c3
    have c3b2 : (l0.length == l1.length) = false := by first | simpa using c3 | (simp at c3 ⊢; omega)
    obtain rfl := Option.some.inj H
    go_enter Try.func40, Try.ntmps40
    go_wp2
    repeat (go_quiet (fail); try go_wp2)
    go_ret
    exact ⟨by first | rfl | (simp; done) | (simp [*]; done), by repeat (first | exact Drawn0.refl _ | apply Drawn0.step)⟩

end Go.Proofs.Ytmlbppfcpejlpaa.X

/- Numbers that are the same, and the layer's own example. No conditions. -/
namespace Go.Proofs.Ytmlbppfcpejlpaa.Q06
open Go Go.RowKit Go.Proofs.YtmlbppfcpejlpaaW.PrintWords Go.Proofs.YtmlbppfcpejlpaaW.PrintMore Go.Proofs.Ytmlbppfcpejlpaa.S Go.Proofs.Ytmlbppfcpejlpaa.B Go.Proofs.Ytmlbppfcpejlpaa.X Go.Proofs.Ytmlbppfcpejlpaa.Q04
set_option linter.unusedVariables false
set_option linter.unusedSimpArgs false

theorem same_l0 {l : List Int} (hl : l.length < 1000000000000) (d : Nat) : ∀ (i k : Nat), i + d = l.length → d < k → rickref06_Same.l0 k l l (i : Int) = some true := by
  induction d with
  | zero =>
    intro i k hd hk
    obtain ⟨k, rfl⟩ : ∃ q, k = q + 1 := ⟨k - 1, by omega⟩
    simp only [rickref06_Same.l0]
    rw [if_neg (by omega)]
  | succ d ih =>
    intro i k hd hk
    obtain ⟨k, rfl⟩ : ∃ q, k = q + 1 := ⟨k - 1, by omega⟩
    simp only [rickref06_Same.l0, if_true]
    rw [if_pos (by omega), if_pos (by omega), if_pos (by omega), Q06.succ64 (by omega)]
    exact ih (i + 1) k (by omega) (by omega)
theorem same_spec {k : Nat} {l : List Int} (hl : l.length < 1000000000000) (hk : l.length < k) : rickref06_Same.f k l l = some true := by
  unfold rickref06_Same.f
  rw [if_pos rfl]
  exact same_l0 hl l.length 0 k (by omega) hk
theorem puts6_spec : ricklaw06_puts.f = some true := by
  have hu : Us [7, 7] := by intro x hx; simp at hx; omega
  have e1 := put6_spec (l := [7, 7]) hu (by simp)
  have e2 := get6_spec (l := [7, 7]) (more := []) hu (by simp) (by intro x hx; simp at hx) (by simp)
  have e3 : packB (pack_Put.bits [7, 7]) = [0, 0, 0, 0, 0, 0, 0, 7, 0] := by decide +kernel
  rw [if_neg (by decide), e3] at e1
  rw [if_neg (by decide), List.append_nil, e3] at e2
  unfold ricklaw06_puts.f
  rw [e1, Option.bind_some]
  simp only []
  rw [show pack_Get.f [0, 0, 0, 0, 0, 0, 0, 7, 0] 2 = some ([7, 7], 9, 0) from e2, Option.bind_some]
  decide +kernel
end Go.Proofs.Ytmlbppfcpejlpaa.Q06

/- PackSame: numbers that are all the same have nine bytes; of two that differ in one bit, each has as many bits as that one's place. No conditions. -/
namespace Go.Proofs.Ytmlbppfcpejlpaa.Pure
open Go Go.RowKit Go.Proofs.YtmlbppfcpejlpaaW.PrintWords Go.Proofs.YtmlbppfcpejlpaaW.PrintMore Go.Proofs.Ytmlbppfcpejlpaa.S Go.Proofs.Ytmlbppfcpejlpaa.B Go.Proofs.Ytmlbppfcpejlpaa.X Go.Proofs.Ytmlbppfcpejlpaa.Q06
set_option linter.unusedVariables false
set_option linter.unusedSimpArgs false

theorem same_min (k : Nat) (n : Int) : minL (List.replicate (k + 1) n) = n ∧ maxL (List.replicate (k + 1) n) = n := by
  have h0 : 0 < (List.replicate (k + 1) n).length := by rw [List.length_replicate]; omega
  exact ⟨(List.mem_replicate.1 (min_facts h0).1).2, (List.mem_replicate.1 (max_facts h0).1).2⟩
theorem same_bits (k : Nat) (n : Int) : pack_Put.width (List.replicate (k + 1) n) = 0 ∧ (pack_Put.bits (List.replicate (k + 1) n)).length = 72 := by
  have hw : pack_Put.width (List.replicate (k + 1) n) = 0 := by
    unfold pack_Put.width
    rw [(same_min k n).1, (same_min k n).2, Int.sub_self]; rfl
  exact ⟨hw, by rw [bits_len, hw]; simp⟩
/-- The ninth byte is the count of bits. -/
theorem ninth {l : List Int} (hu : Us l) (h0 : 0 < l.length) : rd (packB (pack_Put.bits l)) 8 = (pack_Put.width l : Int) := by
  have hlen := packB_len (pack_Put.bits l)
  have hb := bits_len l
  have h8 : 8 < (packB (pack_Put.bits l)).length := by omega
  have := rd_get (l := packB (pack_Put.bits l)) (i := 8) h8
  rw [show ((8 : Nat) : Int) = 8 from rfl] at this
  rw [this]
  have e : packB (pack_Put.bits l) = raw8 (minL l) ++ ((pack_Put.width l : Int) :: packB (pack_Put.body l)) := by rw [bits_packB hu h0]; simp
  simp only [e]
  rw [List.getElem_append_right (by rw [raw8_len]; omega)]
  simp [raw8_len]
theorem fill_l0 (x y : Int) (K : Nat) (R : Option Bool) (hR : ∀ k, 100 < k → ricklaw06_PackSame.l0 k x y (K : Int) (List.replicate K x) (K : Int) = R) (d : Nat) : ∀ (i k : Nat), K < 1000 → i + d = K → 200 + d < k →
    ricklaw06_PackSame.l0 k x y (K : Int) (List.replicate i x ++ List.replicate d 0) (i : Int) = R := by
  induction d with
  | zero =>
    intro i k _ hd hk
    have hi : i = K := by omega
    subst hi
    rw [List.replicate_zero, List.append_nil]
    exact hR k (by omega)
  | succ d ih =>
    intro i k hK hd hk
    obtain ⟨k, rfl⟩ : ∃ q, k = q + 1 := ⟨k - 1, by omega⟩
    rw [ricklaw06_PackSame.l0]
    have e : (List.replicate i x ++ List.replicate (d + 1) 0).set i x = List.replicate (i + 1) x ++ List.replicate d 0 := by
      rw [List.replicate_succ, List.set_append_right _ _ (by simp)]
      simp [List.replicate_succ']
    rw [if_pos (by omega), if_pos (by omega), if_pos (by simp; omega), Int.toNat_natCast, e, Q06.succ64 (by omega)]
    exact ih (i + 1) k hK (by omega) (by omega)
theorem andNot_facts (n : Int) {p : Nat} (hp : p < 64) :
    0 ≤ Go.bits .andNot .u64 n (2 ^ p) ∧ Go.bits .andNot .u64 n (2 ^ p) + 2 ^ p < 18446744073709551616 ∧ Go.bits .or .u64 (Go.bits .andNot .u64 n (2 ^ p)) (2 ^ p) = Go.bits .andNot .u64 n (2 ^ p) + 2 ^ p := by
  have hpow : 2 ^ p < 2 ^ 64 := Nat.pow_lt_pow_right (by decide) hp
  obtain ⟨x, hx⟩ : ∃ x : BitVec 64, x = BitVec.ofInt 64 n := ⟨_, rfl⟩
  obtain ⟨m, hm⟩ : ∃ m : BitVec 64, m = BitVec.ofInt 64 (2 ^ p) := ⟨_, rfl⟩
  have hmn : m.toNat = 2 ^ p := by
    rw [hm, show (2 : Int) ^ p = ((2 ^ p : Nat) : Int) by simp, BitVec.ofInt_natCast, BitVec.toNat_ofNat, Nat.mod_eq_of_lt hpow]
  have e1 : Go.bits .andNot .u64 n (2 ^ p) = (((x &&& ~~~m).toNat : Nat) : Int) := by
    show IntKind.u64.wrap (((BitVec.ofInt 64 n &&& ~~~(BitVec.ofInt 64 (2 ^ p)) : BitVec 64).toNat : Nat) : Int) = _
    rw [← hx, ← hm]
    exact wrap_u64_id (by omega) (by have := (x &&& ~~~m).isLt; omega)
  have hle : (x &&& ~~~m).toNat ≤ 2 ^ 64 - 1 - 2 ^ p := by
    rw [BitVec.toNat_and, ← hmn, ← BitVec.toNat_not]
    exact Nat.and_le_right
  have hz : (x &&& ~~~m) &&& m = 0#64 := by
    apply BitVec.eq_of_getLsbD_eq
    intro i hi
    simp
  have hadd : (x &&& ~~~m) ||| m = (x &&& ~~~m) + m := (BitVec.add_eq_or_of_and_eq_zero _ _ hz).symm
  have e2 : Go.bits .or .u64 (((x &&& ~~~m).toNat : Nat) : Int) (2 ^ p) = (((x &&& ~~~m).toNat + 2 ^ p : Nat) : Int) := by
    show IntKind.u64.wrap (((BitVec.ofInt 64 (((x &&& ~~~m).toNat : Nat) : Int) ||| BitVec.ofInt 64 (2 ^ p) : BitVec 64).toNat : Nat) : Int) = _
    rw [BitVec.ofInt_natCast, BitVec.ofNat_toNat, BitVec.setWidth_eq, ← hm, hadd, BitVec.toNat_add, hmn, Nat.mod_eq_of_lt (by omega)]
    exact wrap_u64_id (by omega) (by omega)
  have hc : ((2 ^ p : Nat) : Int) = (2 : Int) ^ p := by simp
  rw [e1, e2]
  refine ⟨by omega, ?_, by rw [← hc]; omega⟩
  rw [← hc]
  omega
theorem two_facts {a : Int} {p : Nat} (h0 : 0 ≤ a) (h1 : a + 2 ^ p < 18446744073709551616) : Us [a, a + 2 ^ p] ∧ pack_Put.width [a, a + 2 ^ p] = p + 1 := by
  have hp : (0 : Int) < 2 ^ p := Int.pow_pos (by decide)
  refine ⟨?_, ?_⟩
  · intro x hx
    simp at hx
    omega
  · have e1 : minL [a, a + 2 ^ p] = a := by show mn a (a + 2 ^ p) = a; unfold mn; rw [if_neg (by omega)]
    have e2 : maxL [a, a + 2 ^ p] = a + 2 ^ p := by show mx a (a + 2 ^ p) = a + 2 ^ p; unfold mx; rw [if_pos (by omega)]
    unfold pack_Put.width
    rw [e1, e2, show a + 2 ^ p - a = 2 ^ p by omega]
    refine wd_uniq (by omega) ?_ (fun _ => by rw [Nat.add_sub_cancel]; exact Int.le_refl _)
    rw [Int.pow_succ]; omega
theorem bits_sum {p : Nat} (hp : p < 64) : wrap64 ((p : Int) + 1) = ((p + 1 : Nat) : Int) ∧
    wrap64 (9 + wrap64 (Int.tdiv (wrap64 (wrap64 (2 * ((p + 1 : Nat) : Int)) + 7)) 8)) = ((9 + (2 * (p + 1) + 7) / 8 : Nat) : Int) ∧ wrap64 ((p + 1 : Nat) : Int) = ((p + 1 : Nat) : Int) ∧ 8 < ((9 + (2 * (p + 1) + 7) / 8 : Nat) : Int) := by
  obtain ⟨q, hq⟩ : ∃ q : Int, q = ((p + 1 : Nat) : Int) := ⟨_, rfl⟩
  have e1 : wrap64 (2 * q) = 2 * q := wrap64_id (by omega) (by omega)
  have e2 : wrap64 (2 * q + 7) = 2 * q + 7 := wrap64_id (by omega) (by omega)
  have e3 : wrap64 ((2 * q + 7) / 8) = (2 * q + 7) / 8 := wrap64_id (by omega) (by omega)
  have e4 : wrap64 (9 + (2 * q + 7) / 8) = 9 + (2 * q + 7) / 8 := wrap64_id (by omega) (by omega)
  have e5 : wrap64 q = q := wrap64_id (by omega) (by omega)
  have e6 : wrap64 ((p : Int) + 1) = (p : Int) + 1 := wrap64_id (by omega) (by omega)
  rw [← hq]
  refine ⟨by rw [e6]; omega, ?_, e5, by omega⟩
  rw [e1, e2, Int.tdiv_eq_ediv_of_nonneg (by omega), e3, e4]
  omega
theorem same_end (n y : Int) (K p : Nat) (hK : 0 < K) (hK2 : K ≤ 200) (hp : p < 64) (n0 : 0 ≤ n) (n1 : n < 18446744073709551616) (hy : wrap64 (Int.tmod (IntKind.u64.wrap y) 64) = (p : Int)) (k : Nat) (hk : 100 < k) :
    ricklaw06_PackSame.l0 k n y (K : Int) (List.replicate K n) (K : Int) = some true := by
  obtain ⟨k, rfl⟩ : ∃ q, k = q + 1 := ⟨k - 1, by omega⟩
  obtain ⟨j, rfl⟩ : ∃ q, K = q + 1 := ⟨K - 1, by omega⟩
  have hu : Us (List.replicate (j + 1) n) := fun x hx => by rw [(List.mem_replicate.1 hx).2]; omega
  have hlr : (List.replicate (j + 1) n).length = j + 1 := List.length_replicate
  have e1 := put6_spec hu (by omega)
  rw [if_neg (by omega)] at e1
  have l1 : (packB (pack_Put.bits (List.replicate (j + 1) n))).length = 9 := by rw [packB_len, (same_bits j n).2]
  have r1 := ninth hu (by omega)
  rw [(same_bits j n).1] at r1
  generalize packB (pack_Put.bits (List.replicate (j + 1) n)) = B1 at *
  have hs : shl .u64 1 (p : Int) = 2 ^ p := by
    unfold shl
    rw [show min ((p : Int).toNat) IntKind.u64.bits = p by rw [Int.toNat_natCast]; simp [IntKind.bits]; omega, Int.one_mul]
    refine wrap_u64_id (Int.pow_nonneg (by decide)) ?_
    have : (2 : Int) ^ p < 2 ^ 64 := by exact_mod_cast Nat.pow_lt_pow_right (by decide) hp
    omega
  obtain ⟨a0, a1, a2⟩ := andNot_facts n hp
  obtain ⟨a, ha⟩ : ∃ a, a = Go.bits .andNot .u64 n (2 ^ p) := ⟨_, rfl⟩
  rw [← ha] at a0 a1 a2
  obtain ⟨hu2, hw2⟩ := two_facts a0 a1
  have e2 := put6_spec hu2 (by simp)
  rw [if_neg (by simp)] at e2
  have l2 : (packB (pack_Put.bits [a, a + 2 ^ p])).length = 9 + (2 * (p + 1) + 7) / 8 := by rw [packB_len, bits_len, hw2]; simp; omega
  have r2 := ninth hu2 (by simp)
  rw [hw2] at r2
  generalize packB (pack_Put.bits [a, a + 2 ^ p]) = B2 at *
  obtain ⟨w1, w2, w3, w4⟩ := bits_sum hp
  generalize (2 : Int) ^ p = P at *
  have r1' : rd B1 8 = 0 := by rw [r1]; rfl
  have c1 : ¬ (((j + 1 : Nat) : Int) < ((j + 1 : Nat) : Int)) := Int.lt_irrefl _
  have c2 : 0 ≤ (p : Int) := Int.natCast_nonneg p
  have c3 : (B1.length : Int) = 9 := by rw [l1]; rfl
  have c4 : 8 < (B1.length : Int) := by rw [c3]; decide
  have c5 : (B2.length : Int) = ((9 + (2 * (p + 1) + 7) / 8 : Nat) : Int) := by rw [l2]
  have c6 : 8 < (B2.length : Int) := by rw [c5]; exact w4
  generalize ((9 + (2 * (p + 1) + 7) / 8 : Nat) : Int) = len2 at *
  clear l1 l2 r1 hlr hu hu2 hw2 a0 a1
  unfold ricklaw06_PackSame.l0
  refine (if_neg c1).trans ?_
  rw [e1, Option.bind_some, hy, if_pos c2, hs, ← ha, a2, e2, Option.bind_some, puts6_spec, Option.bind_some, if_pos rfl, if_pos rfl, if_pos c3, if_pos c4, if_pos r1', if_pos rfl, w1, w2, if_pos c5, if_pos c6, r2, w3, beq_self_eq_true]
theorem PackSame : ricklaw06_PackSame.Pure := by
  intro n many bit hn hmany hbit
  obtain ⟨n0, n1⟩ := wf_u64 hn
  have hm0 : 0 ≤ IntKind.u64.wrap many := by rw [wrap_u64]; omega
  have hb0 : 0 ≤ IntKind.u64.wrap bit := by rw [wrap_u64]; omega
  obtain ⟨K, hK, hK0, hK1⟩ : ∃ K : Nat, wrap64 (1 + wrap64 (Int.tmod (IntKind.u64.wrap many) 200)) = (K : Int) ∧ 0 < K ∧ K ≤ 200 := by
    refine ⟨1 + (IntKind.u64.wrap many % 200).toNat, ?_, by omega, by omega⟩
    rw [Int.tmod_eq_emod_of_nonneg hm0, wrap64_id (n := IntKind.u64.wrap many % 200) (by omega) (by omega), wrap64_id (by omega) (by omega)]
    omega
  obtain ⟨p, hp, hp1⟩ : ∃ p : Nat, wrap64 (Int.tmod (IntKind.u64.wrap bit) 64) = (p : Int) ∧ p < 64 := by
    refine ⟨(IntKind.u64.wrap bit % 64).toNat, ?_, by omega⟩
    rw [Int.tmod_eq_emod_of_nonneg hb0, wrap64_id (by omega) (by omega)]
    omega
  refine ⟨1000, ?_⟩
  unfold ricklaw06_PackSame.f
  rw [hK, if_pos (by omega), if_pos (by rw [Int.toNat_natCast]; omega), Int.toNat_natCast]
  have := fill_l0 n bit K (some true) (fun k hk => same_end n bit K p hK0 hK1 hp1 n0 n1 hp k hk) K 0 1000 (by omega) (by omega) (by omega)
  simpa using this
end Go.Proofs.Ytmlbppfcpejlpaa.Pure
