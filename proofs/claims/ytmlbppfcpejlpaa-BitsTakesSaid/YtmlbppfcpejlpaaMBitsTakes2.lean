/- Texts of this claim, laid together (wip/merge.py): XRicklaw04Bitstakes, PureBitsTakes. No conditions. -/
import Derived.Test.YtmlbppfcpejlpaaMBitsTakes1
-- Printed by this session's own program (wip/xprint.py) over the translation; its external functions are hand-written. Lean checks it.
namespace Go.Proofs.Ytmlbppfcpejlpaa.X
open Go.RowKit Go.Proofs.YtmlbppfcpejlpaaW.PrintWords Go.Proofs.YtmlbppfcpejlpaaW.PrintLast Go.Proofs.YtmlbppfcpejlpaaW.PrintMore
attribute [local go_sem] max2_int min2_int max_two min_two max_three min_three max_four min_four   -- for this text's walks alone
set_option linter.unusedVariables false
set_option linter.unusedSimpArgs false

/-! ### ricklaw04_BitsTakes: function 8 -/
open Go.Proofs.Ytmlbppfcpejlpaa.S Go.Proofs.Ytmlbppfcpejlpaa.B Go.Proofs.Ytmlbppfcpejlpaa.W04 Go.Proofs.Ytmlbppfcpejlpaa.Q04 Go.Proofs.Ytmlbppfcpejlpaa.Q06
def ricklaw04_BitsTakes.f (l0 : List Int) (l1 : List Int) : Option (Bool) := if l0.all (fun x => decide (0 ≤ x ∧ x < 256)) = true ∧ l0.length < 140737488355328 ∧ l1.length < 140737488355328 then some true else none
def ricklaw04_BitsTakes.Rel (w w4 : World) (g : Nat) (p : List Int) (v0 v7 : Value) (bad : Bool) (wr : World) : Prop :=
  ∃ a : Nat, a ≤ 8 * p.length ∧ IsS81 w4 wr g p (a : Int) bad ∧ Below w4.heap.size w4 wr ∧ Kd.V (Kd.int .u8) 5 wr 0 (fun k => k ≠ g) v7 ((bitsOf p).drop a) ∧ Kd.R (Kd.int .u8) 5 wr w.heap.size (fun _ => True) v0 p
theorem ricklaw04_BitsTakes.left_any {b : List Int} {at0 : Nat} (bad : Bool) (hl : b.length < 1000000000000) (ha : at0 ≤ 8 * b.length) : bits_Reader_Left.f b (at0 : Int) bad = some (((((bitsOf b).drop at0).length : Nat) : Int), (at0 : Int), bad) := by
  rw [List.length_drop, bitsOf_len]
  cases bad with
  | false => exact left_spec hl ha
  | true => have := left_spec hl ha; unfold bits_Reader_Left.f at this ⊢; injection this with this; injection this with e1 e2; rw [e1]
theorem ricklaw04_BitsTakes.reftake_any {l : List Int} (m : Int) (hb : Bits l) (hl : l.length < 1000000000000) : ∃ t1 t2 t3, rickref04_Take.f 65 l m = some (t1, t2, t3) := by
  rw [reftake_spec hb hl (by decide)]
  split <;> exact ⟨_, _, _, rfl⟩
/-- What a round tells: the document's answer, the reader's, and where it stands then. -/
theorem ricklaw04_BitsTakes.round {p : List Int} (hp : Bs p) (hl : p.length < 1000000000) {a : Nat} (ha : a ≤ 8 * p.length) (bad : Bool) (m : Int) :
    ∃ (t1 : Int) (t2 : List Int) (t3 : Bool) (tv : Int) (a' : Nat) (bad' : Bool), rickref04_Take.f 65 ((bitsOf p).drop a) m = some (t1, t2, t3) ∧ bits_Reader_Take.f 65 p (a : Int) bad m = some (tv, (a' : Int), bad') ∧ a' ≤ 8 * p.length ∧
      ((bad = true ∧ tv = 0 ∧ bad' = true ∧ a' = a) ∨ (bad = false ∧ t3 = true ∧ tv = t1 ∧ bad' = false ∧ t2 = (bitsOf p).drop a') ∨ (bad = false ∧ t3 = false ∧ tv = t1 ∧ bad' = true ∧ a' = a)) := by
  have hb : Bits ((bitsOf p).drop a) := fun x hx => bitsOf_bits p x (List.mem_of_mem_drop hx)
  have hlen : ((bitsOf p).drop a).length = 8 * p.length - a := by rw [List.length_drop, bitsOf_len]
  have hT := reftake_spec (k := 65) (m := m) hb (by omega) (by decide)
  rw [hlen] at hT
  cases bad with
  | true =>
    obtain ⟨t1, t2, t3, h⟩ := ricklaw04_BitsTakes.reftake_any m hb (by omega)
    exact ⟨t1, t2, t3, 0, a, true, h, take_bad, ha, .inl ⟨rfl, rfl, rfl, rfl⟩⟩
  | false =>
    by_cases c : cl m ≤ 8 * p.length - a
    · rw [if_pos c] at hT
      exact ⟨_, _, _, _, a + cl m, false, hT, take_ok hp (by omega) (by omega) (by decide), by omega, .inr (.inl ⟨rfl, rfl, rfl, rfl, by rw [List.drop_drop]⟩)⟩
    · rw [if_neg c] at hT
      exact ⟨_, _, _, 0, a, true, hT, take_short (by omega) ha (by omega), ha, .inr (.inr ⟨rfl, rfl, rfl, rfl, rfl⟩)⟩
theorem ricklaw04_BitsTakes.cell {w : World} {ad : Addr} {n : Nat} {xs : List Int} (h : Kd.C (Kd.int .i64) w (some ad) n xs) {i x : Int} (h0 : 0 ≤ i) (h1 : i < (n : Int)) (hx : rd xs i = x) : w.cell? (ad.add i.toNat) = some (.int .i64 x) := by
  obtain ⟨ad', e, hx'⟩ := Kd.at_int h i h0 h1
  cases e
  rw [← hx]; exact hx'
set_option maxHeartbeats 8000000 in
set_option maxRecDepth 100000 in
theorem ricklaw04_BitsTakes.calls (A0 : Option Addr) (c0 : Nat) (l0 : List Int) (A1 : Option Addr) (c1 : Nat) (l1 : List Int) (r : Bool) (w : World) (hr0 : Kd.C (Kd.int .u8) w A0 l0.length l0) (hc0 : l0.length ≤ c0) (hr1 : Kd.C (Kd.int .i64) w A1 l1.length l1) (hc1 : l1.length ≤ c1) (h : ricklaw04_BitsTakes.f l0 l1 = some r) :
    Calls Try.prog 8 #[.slice A0 l0.length c0, .slice A1 l1.length c1] w fun e w' => e = .returned (.bool r) ∧ Below w.heap.size w w' := by
  unfold ricklaw04_BitsTakes.f at h
  by_cases hh : l0.all (fun x => decide (0 ≤ x ∧ x < 256)) = true ∧ l0.length < 140737488355328 ∧ l1.length < 140737488355328
  rotate_left
  · rw [if_neg hh] at h; cases h
  rw [if_pos hh] at h
  obtain rfl := Option.some.inj h
  obtain ⟨hbs, hl0, hl1⟩ := hh
  have hbs0 : Bs l0 := fun x hx => by have := List.all_eq_true.1 hbs x hx; simpa using this
  clear h hbs
  obtain ⟨ni, hni⟩ : ∃ n : Int, (if 60 < (l0.length : Int) then 60 else (l0.length : Int)) = n := ⟨_, rfl⟩
  have n0 : 0 ≤ ni := by rw [← hni]; split <;> omega
  have n1 : ni ≤ (l0.length : Int) := by rw [← hni]; split <;> omega
  have n2 : ni ≤ 60 := by rw [← hni]; split <;> omega
  have HR0 := Aside0.mk hr0
  have HC0 := Aside0.mk hc0
  have HR1 := Aside0.mk hr1
  obtain ⟨i0, hi0, _, hsz, _⟩ := info_parts info5
  obtain ⟨hcut, hA, hC⟩ := print_take_of (P := Try.prog) (Value.int .u8) 0 22 5 .i64 Try.underlying22 hi0 hsz A0 c0 l0 ni n0 n1 HC0.out
  have HRP := Aside0.mk (Kd.C_of_reads (h1 := fun _ => rfl) (hA _ (Kd.reads_of_C HR0.out)))
  have HCP := Aside0.mk hC
  clear hA hC hi0 hsz hr0 hc0 hr1
  obtain ⟨p, hp⟩ : ∃ p, p = l0.take ni.toNat := ⟨_, rfl⟩
  have hpl : p.length ≤ 60 := by rw [hp, List.length_take]; omega
  have hpb : Bs p := by rw [hp]; exact hbs0.take _
  rw [← hp] at hcut HRP HCP
  have hq0 : (0 ≤ ni) = True := eq_true n0
  have hq1 : (ni ≤ (l0.length : Int)) = True := eq_true n1
  have HPL := Aside0.mk hpl
  have HPB := Aside0.mk hpb
  have HBITS : Aside0 (rickref04_Bits.f 600 p = some (bitsOf p)) := ⟨refbits_spec hpb (by omega) (by omega)⟩
  obtain ⟨ln1, hln1⟩ : ∃ n : Nat, n = l1.length := ⟨_, rfl⟩
  rw [← hln1] at hc1 ⊢ hl1
  have HLN1 := Aside0.mk hln1
  have hlp : p.length < 140737488355328 := by omega
  clear hp hbs0 hpb hln1
  go_enter Try.func8, Try.ntmps8
  go_wp2_with (first
    | ((with_reducible refine gate_dst (N := 13) rfl ?_); refine Kd.R_lit (Kd.int .u8) _ 5 ?hg (N := 13) ?hd (xs := ([] : List Int)) (inner := []) (ok := fun _ => True) (okp := fun _ => True) ?hr ?hp (fun _ hk => hk) trivial (Below.refl _ _) (Nat.le_refl _) (by simp) ?_; (case hd => rfl); (case hg => rfl); (case hr => first | (go_simp; done) | (go_simp; rfl)); (case hp => exact (Reps.none _ _)); intro v2 w2 ho hb hg_ hnew_; clear hg_ hnew_; have HO2 := Aside0.mk ho; have HB2 := Aside0.mk hb; clear ho hb)
    | ((with_reducible refine gate_builtin (b := .append) (xs := #[.tmp 13, .tmp 18]) rfl ?_); at_builtin; refine Kd.R_append_rows (Kd.int .u8) (w0 := w) w.heap.size rfl (.tmp 13) (.tmp 18) 22 5 (.int .u8 0) 1 rfl Try.underlying22 info5 rfl (by decide) (by omega) v2 [] p _ _ _ (fun _ => True) (fun _ => False) rfl rfl ?aO ?aR (fun _ _ h => h) (fun _ h => h.elim) ?aF ?aB ?aS ?aL ?_; (case aR => exact (Kd.C_below HRP.out HB2.out)); (case aB => exact HB2.out); (case aF => exact (fun _ _ => trivial)); (case aO => exact HO2.out); (case aS => exact (below_size HB2.out)); (case aL => simp only [List.length_nil]; omega); intro v3 w3 ho hb hg hat; rw [List.nil_append] at ho; have hcv := own_string (P := Try.prog) Try.underlying22 Try.underlying5 Try.underlying9 (Kd.own_of_R ho); obtain ⟨A3, c3, e3⟩ := Kd.R_slice ho; subst e3; have HO3 := Aside0.mk ho; have HB3 := Aside0.mk hb; clear ho hb hg hat HO2 HB2)
    | (go_at_call 33; (with_reducible refine (new_calls A3 c3 p _ (Kd.R_reads' HO3.out).2.2 (Kd.R_reads' HO3.out).2.1 hlp).mono ?_); rintro e w5 ⟨g, w4, rfl, hb1, hs1, hb2⟩; have HS5 := Aside0.mk hs1; have HB4 := Aside0.mk (below_step HB3.out hb1); have HB5 := Aside0.mk hb2; have HO5 := Aside0.mk (Kd.R_below HO3.out (below_step hb1 hb2)); clear hb1 hs1 hb2 HO3 HB3 hcv)
    | (go_at_call 34; (with_reducible refine (rickref04_Bits.calls 600 A3 c3 p (bitsOf p) _ (Kd.R_reads' HO5.out).2.2 (Kd.R_reads' HO5.out).2.1 HBITS.out).mono ?_); rintro e w6 ⟨v6, rfl, hR, hB⟩; have hs6 := HS5.out.below hB; have HS6 := Aside0.mk hs6; have HV6 := Aside0.mk (Kd.V_mono (ok' := fun k => k ≠ g) (Kd.R_V (base' := 0) (hs6.apart hR (by decide))) (fun k h => h.2)); have HB6 := Aside0.mk (below_step HB5.out hB); have HO6 := Aside0.mk (Kd.R_below HO5.out hB); clear hs6 hR hB HS5 HB5 HO5))
  have HR : Aside0 (ricklaw04_BitsTakes.Rel w w4 g p (.slice A3 p.length c3) v6 false w6) := ⟨⟨0, Nat.zero_le _, HS6.out, HB6.out, HV6.out, HO6.out⟩⟩
  clear HS6 HB6 HV6 HO6 hcut hni HRP HCP hq0 hq1 n0 n1 n2 HBITS
  have HLN1n : Aside0 (ln1 < 140737488355328) := ⟨hl1⟩
  go_loopw [7, 8, 9] (fun v7 v8 v9 wr => ∃ (i : Nat) (ii : Int) (bad : Bool), v8 = .bool bad ∧ v9 = .int .i64 ii ∧ Aside0 (ii = (i : Int)) ∧ Aside0 (i ≤ ln1) ∧ Aside0 (ricklaw04_BitsTakes.Rel w w4 g p (.slice A3 p.length c3) v7 bad wr)) (fun _ _ v9 _ => ((ln1 : Int) - intOf v9).toNat)
  case atStart => exact ⟨0, _, _, rfl, rfl, ⟨rfl⟩, ⟨Nat.zero_le _⟩, HR⟩
  case round =>
    clear HR
    obtain ⟨i, ii, bad, rfl, rfl, HI, HIL, HR⟩ := hrel
    obtain ⟨a, ha, hs, hb, hV, ho⟩ := HR.out
    obtain ⟨A7, c7, e7⟩ := Kd.V_slice hV
    subst e7
    have HS := Aside0.mk hs
    have HB := Aside0.mk hb
    have HBw := Aside0.mk (below_step HB4.out hb)
    have HO := Aside0.mk ho
    obtain ⟨L, hL⟩ : ∃ L, L = (bitsOf p).drop a := ⟨_, rfl⟩
    rw [← hL] at hV ⊢
    have HV := Aside0.mk hV
    have HL := Aside0.mk hL
    have HA := Aside0.mk ha
    clear HR hs hb hV ho hL ha
    have hj0 : 0 ≤ ii := by have := HI.out; omega
    have hj2 : ii < 4611686018427387904 := by have := HI.out; have := HIL.out; omega
    by_cases hlt : i < ln1 ∧ i < 60
    · have hi2 : decide (ii < (ln1 : Int)) = true := by have := HI.out; simp; omega
      have hi3 : decide (ii < 60) = true := by have := HI.out; simp; omega
      have hi4 : (ii < (ln1 : Int)) = True := eq_true (by have := HI.out; omega)
      have hi5 : (0 ≤ ii) = True := eq_true hj0
      have HJ1 : Aside0 (ii < (l1.length : Int)) := ⟨by rw [← HLN1.out]; have := HI.out; omega⟩
      obtain ⟨xv, hxv⟩ : ∃ x, rd l1 ii = x := ⟨_, rfl⟩
      have HXV := Aside0.mk hxv
      obtain ⟨ad1, had, hx⟩ := Kd.at_int (Kd.C_below HR1.out HBw.out) ii hj0 HJ1.out
      cases had
      rw [hxv] at hx
      obtain ⟨t1, t2, t3, tv, a', bad', hT, hTR, ha', hcase⟩ := ricklaw04_BitsTakes.round HPB.out (by have := HPL.out; omega) HA.out bad xv
      rw [← HL.out] at hT
      have HT := Aside0.mk hT
      have HTR := Aside0.mk hTR
      have HA' := Aside0.mk ha'
      have HTL := Aside0.mk (ricklaw04_BitsTakes.left_any bad' (b := p) (by have := HPL.out; omega) ha')
      clear hT hTR ha' hxv hpl
      rcases hcase with ⟨rfl, rfl, rfl, rfl⟩ | ⟨rfl, rfl, rfl, rfl, ht2⟩ | ⟨rfl, rfl, rfl, rfl, rfl⟩
      · rw [← HL.out] at HTL
        go_wp2_with (first
          | (go_at_call 35; (with_reducible refine (rickref04_Take.calls 65 (fun k => k ≠ g) A7 c7 L xv _ _ _ _ HV.out HT.out).mono ?_); rintro e w7 ⟨v7, rfl, hV, hB⟩; obtain ⟨Ar, cr, er⟩ := Kd.V_slice hV; subst er; have hx7 := ricklaw04_BitsTakes.cell (Kd.C_below HR1.out (below_step HBw.out hB)) hj0 HJ1.out HXV.out; have HVr := Aside0.mk (Kd.V_mono (ok' := fun k => k ≠ g) hV (fun k hk => hk.elim id (fun h e => by subst e; exact Nat.lt_irrefl _ (Nat.lt_of_lt_of_le HS.out.lt h)))); have HV7 := Aside0.mk (Kd.V_below HV.out hB); have HS7 := Aside0.mk (HS.out.below hB); have HB7 := Aside0.mk (below_step HB.out hB); have HO7 := Aside0.mk (Kd.R_below HO.out hB); clear hV hB HS HB HV HO hx)
          | (go_at_call 28; (with_reducible refine (bits_Reader_Take.calls 65 g p _ true xv _ _ true w4 _ HS7.out HB7.out HTR.out).mono ?_); rintro e w8 ⟨rfl, hs, hb2, hk⟩; have HS8 := Aside0.mk hs; have HB8 := Aside0.mk hb2; have HV8 := Aside0.mk (Kd.V_keep HV7.out hk (fun k h => h)); have HVr8 := Aside0.mk (Kd.V_keep HVr.out hk (fun k h => h)); have HO8 := Aside0.mk (Kd.R_mono (ok' := fun _ => True) (Kd.R_keep (HS7.out.apart HO7.out (by decide)) hk (fun _ h => h.2)) (fun _ _ => trivial)); clear hs hb2 hk HS7 HB7 HV7 HVr HO7 hx7)
          | (go_at_call 29; (with_reducible refine (bits_Reader_Bad.calls g p _ true true _ true w4 _ HS8.out HB8.out rfl).mono ?_); rintro e w9 ⟨rfl, hs, hb2, hk⟩; have HS9 := Aside0.mk hs; have HB9 := Aside0.mk hb2; have HV9 := Aside0.mk (Kd.V_keep HV8.out hk (fun k h => h)); have HVr9 := Aside0.mk (Kd.V_keep HVr8.out hk (fun k h => h)); have HO9 := Aside0.mk (Kd.R_mono (ok' := fun _ => True) (Kd.R_keep (HS8.out.apart HO8.out (by decide)) hk (fun _ h => h.2)) (fun _ _ => trivial)); clear hs hb2 hk HS8 HB8 HV8 HVr8 HO8)
          | (go_at_call 30; (with_reducible refine (bits_Reader_Left.calls g p _ true _ _ true w4 _ HS9.out HB9.out HTL.out).mono ?_); rintro e w10 ⟨rfl, hs, hb2, hk⟩; have HS10 := Aside0.mk hs; have HB10 := Aside0.mk hb2; have HV10 := Aside0.mk (Kd.V_keep HV9.out hk (fun k h => h)); have HVr10 := Aside0.mk (Kd.V_keep HVr9.out hk (fun k h => h)); have HO10 := Aside0.mk (Kd.R_mono (ok' := fun _ => True) (Kd.R_keep (HS9.out.apart HO9.out (by decide)) hk (fun _ h => h.2)) (fun _ _ => trivial)); clear hs hb2 hk HS9 HB9 HV9 HVr9 HO9))
        go_roundw
        case rel => exact ⟨i + 1, _, _, rfl, rfl, ⟨by have := HI.out; omega⟩, ⟨by omega⟩, ⟨a', HA'.out, HS10.out, HB10.out, by rw [← HL.out]; exact HV10.out, HO10.out⟩⟩
        case measure => simp [intOf]; have := HI.out; omega
      · rw [← ht2] at HTL
        have HT2 := Aside0.mk ht2
        clear ht2
        go_wp2_with (first
          | (go_at_call 35; (with_reducible refine (rickref04_Take.calls 65 (fun k => k ≠ g) A7 c7 L xv _ _ _ _ HV.out HT.out).mono ?_); rintro e w7 ⟨v7, rfl, hV, hB⟩; obtain ⟨Ar, cr, er⟩ := Kd.V_slice hV; subst er; have hx7 := ricklaw04_BitsTakes.cell (Kd.C_below HR1.out (below_step HBw.out hB)) hj0 HJ1.out HXV.out; have HVr := Aside0.mk (Kd.V_mono (ok' := fun k => k ≠ g) hV (fun k hk => hk.elim id (fun h e => by subst e; exact Nat.lt_irrefl _ (Nat.lt_of_lt_of_le HS.out.lt h)))); have HV7 := Aside0.mk (Kd.V_below HV.out hB); have HS7 := Aside0.mk (HS.out.below hB); have HB7 := Aside0.mk (below_step HB.out hB); have HO7 := Aside0.mk (Kd.R_below HO.out hB); clear hV hB HS HB HV HO hx)
          | (go_at_call 28; (with_reducible refine (bits_Reader_Take.calls 65 g p _ false xv _ _ false w4 _ HS7.out HB7.out HTR.out).mono ?_); rintro e w8 ⟨rfl, hs, hb2, hk⟩; have HS8 := Aside0.mk hs; have HB8 := Aside0.mk hb2; have HV8 := Aside0.mk (Kd.V_keep HV7.out hk (fun k h => h)); have HVr8 := Aside0.mk (Kd.V_keep HVr.out hk (fun k h => h)); have HO8 := Aside0.mk (Kd.R_mono (ok' := fun _ => True) (Kd.R_keep (HS7.out.apart HO7.out (by decide)) hk (fun _ h => h.2)) (fun _ _ => trivial)); clear hs hb2 hk HS7 HB7 HV7 HVr HO7 hx7)
          | (go_at_call 29; (with_reducible refine (bits_Reader_Bad.calls g p _ false false _ false w4 _ HS8.out HB8.out rfl).mono ?_); rintro e w9 ⟨rfl, hs, hb2, hk⟩; have HS9 := Aside0.mk hs; have HB9 := Aside0.mk hb2; have HV9 := Aside0.mk (Kd.V_keep HV8.out hk (fun k h => h)); have HVr9 := Aside0.mk (Kd.V_keep HVr8.out hk (fun k h => h)); have HO9 := Aside0.mk (Kd.R_mono (ok' := fun _ => True) (Kd.R_keep (HS8.out.apart HO8.out (by decide)) hk (fun _ h => h.2)) (fun _ _ => trivial)); clear hs hb2 hk HS8 HB8 HV8 HVr8 HO8)
          | (go_at_call 30; (with_reducible refine (bits_Reader_Left.calls g p _ false _ _ false w4 _ HS9.out HB9.out HTL.out).mono ?_); rintro e w10 ⟨rfl, hs, hb2, hk⟩; have HS10 := Aside0.mk hs; have HB10 := Aside0.mk hb2; have HV10 := Aside0.mk (Kd.V_keep HV9.out hk (fun k h => h)); have HVr10 := Aside0.mk (Kd.V_keep HVr9.out hk (fun k h => h)); have HO10 := Aside0.mk (Kd.R_mono (ok' := fun _ => True) (Kd.R_keep (HS9.out.apart HO9.out (by decide)) hk (fun _ h => h.2)) (fun _ _ => trivial)); clear hs hb2 hk HS9 HB9 HV9 HVr9 HO9))
        go_roundw
        case rel => exact ⟨i + 1, _, _, rfl, rfl, ⟨by have := HI.out; omega⟩, ⟨by omega⟩, ⟨a', HA'.out, HS10.out, HB10.out, by rw [← HT2.out]; exact HVr10.out, HO10.out⟩⟩
        case measure => simp [intOf]; have := HI.out; omega
      · rw [← HL.out] at HTL
        go_wp2_with (first
          | (go_at_call 35; (with_reducible refine (rickref04_Take.calls 65 (fun k => k ≠ g) A7 c7 L xv _ _ _ _ HV.out HT.out).mono ?_); rintro e w7 ⟨v7, rfl, hV, hB⟩; obtain ⟨Ar, cr, er⟩ := Kd.V_slice hV; subst er; have hx7 := ricklaw04_BitsTakes.cell (Kd.C_below HR1.out (below_step HBw.out hB)) hj0 HJ1.out HXV.out; have HVr := Aside0.mk (Kd.V_mono (ok' := fun k => k ≠ g) hV (fun k hk => hk.elim id (fun h e => by subst e; exact Nat.lt_irrefl _ (Nat.lt_of_lt_of_le HS.out.lt h)))); have HV7 := Aside0.mk (Kd.V_below HV.out hB); have HS7 := Aside0.mk (HS.out.below hB); have HB7 := Aside0.mk (below_step HB.out hB); have HO7 := Aside0.mk (Kd.R_below HO.out hB); clear hV hB HS HB HV HO hx)
          | (go_at_call 28; (with_reducible refine (bits_Reader_Take.calls 65 g p _ false xv _ _ true w4 _ HS7.out HB7.out HTR.out).mono ?_); rintro e w8 ⟨rfl, hs, hb2, hk⟩; have HS8 := Aside0.mk hs; have HB8 := Aside0.mk hb2; have HV8 := Aside0.mk (Kd.V_keep HV7.out hk (fun k h => h)); have HVr8 := Aside0.mk (Kd.V_keep HVr.out hk (fun k h => h)); have HO8 := Aside0.mk (Kd.R_mono (ok' := fun _ => True) (Kd.R_keep (HS7.out.apart HO7.out (by decide)) hk (fun _ h => h.2)) (fun _ _ => trivial)); clear hs hb2 hk HS7 HB7 HV7 HVr HO7 hx7)
          | (go_at_call 29; (with_reducible refine (bits_Reader_Bad.calls g p _ true true _ true w4 _ HS8.out HB8.out rfl).mono ?_); rintro e w9 ⟨rfl, hs, hb2, hk⟩; have HS9 := Aside0.mk hs; have HB9 := Aside0.mk hb2; have HV9 := Aside0.mk (Kd.V_keep HV8.out hk (fun k h => h)); have HVr9 := Aside0.mk (Kd.V_keep HVr8.out hk (fun k h => h)); have HO9 := Aside0.mk (Kd.R_mono (ok' := fun _ => True) (Kd.R_keep (HS8.out.apart HO8.out (by decide)) hk (fun _ h => h.2)) (fun _ _ => trivial)); clear hs hb2 hk HS8 HB8 HV8 HVr8 HO8)
          | (go_at_call 30; (with_reducible refine (bits_Reader_Left.calls g p _ true _ _ true w4 _ HS9.out HB9.out HTL.out).mono ?_); rintro e w10 ⟨rfl, hs, hb2, hk⟩; have HS10 := Aside0.mk hs; have HB10 := Aside0.mk hb2; have HV10 := Aside0.mk (Kd.V_keep HV9.out hk (fun k h => h)); have HVr10 := Aside0.mk (Kd.V_keep HVr9.out hk (fun k h => h)); have HO10 := Aside0.mk (Kd.R_mono (ok' := fun _ => True) (Kd.R_keep (HS9.out.apart HO9.out (by decide)) hk (fun _ h => h.2)) (fun _ _ => trivial)); clear hs hb2 hk HS9 HB9 HV9 HVr9 HO9))
        go_roundw
        case rel => exact ⟨i + 1, _, _, rfl, rfl, ⟨by have := HI.out; omega⟩, ⟨by omega⟩, ⟨a', HA'.out, HS10.out, HB10.out, by rw [← HL.out]; exact HV10.out, HO10.out⟩⟩
        case measure => simp [intOf]; have := HI.out; omega
    · clear hpl
      have HO' := HO
      by_cases hq : i < ln1
      have hi2 : decide (ii < (ln1 : Int)) = true := by have := HI.out; simp; omega
      have hi3 : decide (ii < 60) = false := by have := HI.out; simp; omega
      rotate_left
      have hi2 : decide (ii < (ln1 : Int)) = false := by have := HI.out; simp; omega
      all_goals
        clear hq hlt
        go_wp2_with (go_at_call 26; (with_reducible refine (ricklaw04_puts.calls true _ rfl).mono ?_); rintro e w7 ⟨rfl, hb⟩; have HB7 := Aside0.mk (below_step HBw.out hb); have hcv := own_string (P := Try.prog) Try.underlying22 Try.underlying5 Try.underlying9 (Kd.own_of_R (Kd.R_below HO.out hb)); clear hb HBw HB HO HO' HS HV)
        go_ret
        exact ⟨rfl, HB7.out⟩

/-- THE ONE PURE STATEMENT of ricklaw04_BitsTakes: yours. -/
def ricklaw04_BitsTakes.Pure : Prop := ∀ (l0 : List Int) (l1 : List Int), l0.length ≤ maxLen → l0.length * 1 ≤ 140737488351232 → (∀ x ∈ l0, (Lit.int .u8 x).wf = true) → l1.length ≤ maxLen → l1.length * 8 ≤ 140737488351232 → (∀ x ∈ l1, (Lit.int .i64 x).wf = true) → ricklaw04_BitsTakes.f l0 l1 = some true
theorem ricklaw04_BitsTakes.walk (P : ricklaw04_BitsTakes.Pure) (a0 : Option Addr) (len0 cap0 : Nat) (z0 : List Int) (a1 : Option Addr) (len1 cap1 : Nat) (z1 : List Int) (w : World) (w0 : (a0 = none ∧ len0 = 0 ∧ cap0 = 0 ∧ z0 = []) ∨ ∃ x, a0 = some x ∧ len0 ≤ cap0 ∧ cap0 ≤ maxLen ∧ z0.length = cap0 ∧ (∀ i, i < z0.length → w.cell? (x.add i) = some (.int .u8 (z0.getD i 0))) ∧ ∀ n ∈ z0, (Lit.int .u8 n).wf = true) (y0 : len0 * 1 ≤ 140737488351232) (w1 : (a1 = none ∧ len1 = 0 ∧ cap1 = 0 ∧ z1 = []) ∨ ∃ x, a1 = some x ∧ len1 ≤ cap1 ∧ cap1 ≤ maxLen ∧ z1.length = cap1 ∧ (∀ i, i < z1.length → w.cell? (x.add i) = some (.int .i64 (z1.getD i 0))) ∧ ∀ n ∈ z1, (Lit.int .i64 n).wf = true) (y1 : len1 * 8 ≤ 140737488351232) :
    Calls Try.prog 8 #[.slice a0 len0 cap0, .slice a1 len1 cap1] w fun e w' => e = .returned (.bool true) ∧ Below w.heap.size w w' := by
  obtain ⟨l0, rfl, hr0, hm0, hw0, hc0⟩ := ReadsInt.ofRowC w0
  obtain ⟨l1, rfl, hr1, hm1, hw1, hc1⟩ := ReadsInt.ofRowC w1
  have h := P l0 l1 hm0 y0 hw0 hm1 y1 hw1
  refine (ricklaw04_BitsTakes.calls _ _ l0 _ _ l1 true w (Kd.C_of_reads (d := (0 : Int)) (h1 := fun _ => rfl) hr0) hc0 (Kd.C_of_reads (d := (0 : Int)) (h1 := fun _ => rfl) hr1) hc1 h).mono ?_
  rintro e w' ⟨rfl, hd⟩
  exact ⟨rfl, hd⟩

end Go.Proofs.Ytmlbppfcpejlpaa.X

/- BitsTakes: of all bytes the bits are told, till there are too few. No conditions. -/
namespace Go.Proofs.Ytmlbppfcpejlpaa.Pure
open Go Go.RowKit Go.Proofs.Ytmlbppfcpejlpaa.X Go.Proofs.Ytmlbppfcpejlpaa.S

theorem BitsTakes : ricklaw04_BitsTakes.Pure := by
  intro l0 l1 h1 h2 h3 h4 h5 h6
  unfold ricklaw04_BitsTakes.f
  rw [if_pos]
  refine ⟨List.all_eq_true.2 (fun x hx => ?_), by omega, by omega⟩
  have := wf_u8 (h3 x hx)
  simpa using this
end Go.Proofs.Ytmlbppfcpejlpaa.Pure
