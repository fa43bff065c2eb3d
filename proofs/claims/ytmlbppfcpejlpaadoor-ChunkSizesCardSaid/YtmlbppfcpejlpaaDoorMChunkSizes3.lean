/- Texts of this claim, laid together (wip/merge.py): XRickref04Bytes, Q04, Q04r, Q06b, XPackGet, XVarintGet, XRunsPair, XBitsMul64, XBitsMul, XSlicesRepeatUint64Uint64, XRunsGet, XXorsTake, XXorsGet, XChunkGetvalues, XChunkRefused, XVarintZag, XTimesGetdelta, XTimesNumber, XTimesGetpacked. No conditions. -/
import Derived.Test.YtmlbppfcpejlpaaDoorMChunkSizes1
import Derived.Test.YtmlbppfcpejlpaaDoorMChunkSizes2
import Derived.Deep.RegionHeld3
import Derived.Deep.DrawnRows
import Derived.Deep.OwnRows
import Derived.Laws.CopyOwn
import Derived.Deep.RegionLaw
namespace Go.Proofs.YtmlbppfcpejlpaaDoor.X
open Go.RowKit Go.Proofs.YtmlbppfcpejlpaaDoorW.PrintWords Go.Proofs.YtmlbppfcpejlpaaDoorW.PrintLast Go.Proofs.YtmlbppfcpejlpaaDoorW.PrintMore
attribute [local go_sem] max2_int min2_int max_two min_two max_three min_three max_four min_four   -- for this text's walks alone
set_option linter.unusedVariables false
set_option linter.unusedSimpArgs false

/-! ### rickref04_Bytes: function 26 -/
def rickref04_Bytes.l0 : Nat → List Int → List Int → Int → Option (List Int)
 | 0, _, _, _ => none
 | k + 1, x0, x3, x4 => if x4 < (x0.length : Int) then (if 0 ≤ (wrap64 (Int.tdiv x4 8)) then (if (wrap64 (Int.tdiv x4 8)) < (x3.length : Int) then (if 0 ≤ x4 then (if 0 ≤ (wrap64 (7 - (Int.tmod x4 8))) then (rickref04_Bytes.l0 k x0 (x3.set ((wrap64 (Int.tdiv x4 8)) : Int).toNat (Go.bits .or .u8 (rd x3 (wrap64 (Int.tdiv x4 8))) (shl .u8 (rd x0 x4) (wrap64 (7 - (Int.tmod x4 8)))))) (wrap64 (x4 + 1))) else (none)) else (none)) else (none)) else (none)) else (some x3)
def rickref04_Bytes.f (k : Nat) (l0 : List Int) : Option (List Int) := if 0 ≤ (wrap64 (Int.tdiv (wrap64 ((l0.length : Int) + 7)) 8)) then (if (wrap64 (Int.tdiv (wrap64 ((l0.length : Int) + 7)) 8) : Int).toNat ≤ 281474976710656 then (rickref04_Bytes.l0 k l0 (List.replicate (wrap64 (Int.tdiv (wrap64 ((l0.length : Int) + 7)) 8) : Int).toNat 0) 0) else (none)) else (none)
theorem rickref04_Bytes.mono_l : ∀ k, (∀ y0 y1 y2, LeO (rickref04_Bytes.l0 k y0 y1 y2) (rickref04_Bytes.l0 (k + 1) y0 y1 y2))
 | 0 => fun _ _ _ r h => by simp [rickref04_Bytes.l0] at h
 | k + 1 => by
  have ih0 := rickref04_Bytes.mono_l k
  ·intro y0 y1 y2
   unfold rickref04_Bytes.l0
   repeat' first
   | (with_reducible exact ih0 _ _ _)
   | (with_reducible exact LeO.refl _)
   | (with_reducible exact LeO.none _)
   | (with_reducible refine LeO.ite ?_ ?_)
   | (with_reducible refine LeO.bind ?_ (fun _ => ?_))
   | exact ih0 _ _ _
   | exact LeO.none _
   | refine LeO.ite ?_ ?_
   | refine LeO.bind ?_ (fun _ => ?_)
theorem rickref04_Bytes.mono : ∀ a0 k, LeO (rickref04_Bytes.f k a0) (rickref04_Bytes.f (k + 1) a0) := by
 intro a0 k
 have ih0 := rickref04_Bytes.mono_l k
 unfold rickref04_Bytes.f
 repeat' first
   | (with_reducible exact ih0 _ _ _)
   | (with_reducible exact LeO.refl _)
   | (with_reducible exact LeO.none _)
   | (with_reducible refine LeO.ite ?_ ?_)
   | (with_reducible refine LeO.bind ?_ (fun _ => ?_))
   | exact ih0 _ _ _
   | exact LeO.none _
   | refine LeO.ite ?_ ?_
   | refine LeO.bind ?_ (fun _ => ?_)
def rickref04_Bytes.T5 : Bool × List (List Nat × List Nat) := (true, [([], []), ([], []), ([1], [1]), ([], []), ([], []), ([4], [4]), ([3, 5], [3, 5]), ([6], [6]), ([], []), ([], []), ([8, 9], [8, 9]), ([10], [10]), ([], []), ([12], [12]), ([13], [13]), ([11, 14], [11, 14]), ([7, 15], [7, 15]), ([0, 2, 0, 1, 2, 3, 4, 5, 6, 7, 8, 9, 10, 11, 12, 13, 14, 15, 16], [0, 2]), ([17, 16, 0, 1, 2, 3, 4, 5, 6, 7, 8, 9, 10, 11, 12, 13, 14, 15, 16], [16, 17])])
def rickref04_Bytes.B5 : List Nat := [0, 0, 2, 0, 0, 16, 56, 120, 0, 0, 768, 1792, 0, 4096, 12288, 32512, 65528, 131071, 262143]
theorem rickref04_Bytes.tab5 : rtab .any (opsOf Tryd.f26 5) = rickref04_Bytes.T5 := by kernel_rfl
theorem rickref04_Bytes.bits5 : waitsOk rickref04_Bytes.T5.2 rickref04_Bytes.B5 = true := by kernel_rfl
set_option maxHeartbeats 8000000 in
set_option maxRecDepth 100000 in
theorem rickref04_Bytes.calls (k : Nat) (A0 : Option Addr) (c0 : Nat) (l0 : List Int) (r : List Int) (w : World) (hr0 : Kd.C (Kd.int .u8) w A0 l0.length l0) (hc0 : l0.length ≤ c0) (h : rickref04_Bytes.f k l0 = some r) :
  Calls Tryd.prog 26 #[.slice A0 l0.length c0] w fun e w' => ∃ v0_ : Value, e = .returned (v0_) ∧ Kd.R (Kd.int .u8) 5 w' w.heap.size (fun _ => True) v0_ r ∧ Below w.heap.size w w' := by
 have HR0 := Aside0.mk hr0
 have HC0 := Aside0.mk hc0
 clear hr0 hc0
 have HB := Aside0.mk (Below.refl w.heap.size w)
 have H : (if 0 ≤ (wrap64 (Int.tdiv (wrap64 ((l0.length : Int) + 7)) 8)) then (if (wrap64 (Int.tdiv (wrap64 ((l0.length : Int) + 7)) 8) : Int).toNat ≤ 281474976710656 then (rickref04_Bytes.l0 k l0 (List.replicate (wrap64 (Int.tdiv (wrap64 ((l0.length : Int) + 7)) 8) : Int).toNat 0) 0) else (none)) else (none)) = some r := h
 clear h
 obtain ⟨ji2, hji2⟩ : ∃ j_ : Int, (wrap64 (Int.tdiv (wrap64 ((l0.length : Int) + 7)) 8)) = j_ := ⟨_, rfl⟩
 replace H : (if 0 ≤ (ji2) then (if (ji2 : Int).toNat ≤ 281474976710656 then (rickref04_Bytes.l0 k l0 (List.replicate (ji2 : Int).toNat 0) 0) else (none)) else (none)) = some r := by first | (rw [hji2] at H; exact H) | (simp only [hji2] at H ⊢; exact H)
 have hji2w : (IntKind.i64.wrap (Int.tdiv (wrap64 ((l0.length : Int) + 7)) 8)) = ji2 := (i64_w _).trans hji2
 by_cases c3 : 0 ≤ (ji2)
 ·rw [if_pos c3] at H
  have c3b0 := eq_true c3
  have c3b1 : decide (0 ≤ (ji2)) = true := decide_eq_true c3
  clear c3
  by_cases c4 : (ji2 : Int).toNat ≤ 281474976710656
  ·rw [if_pos c4] at H
   have c4b0 := eq_true c4
   have c4b1 : decide ((ji2 : Int).toNat ≤ 281474976710656) = true := decide_eq_true c4
   clear c4
   obtain ⟨y109, hy109⟩ : ∃ y_ : List Int, y_ = (List.replicate (ji2 : Int).toNat 0) := ⟨_, rfl⟩
   replace H : (rickref04_Bytes.l0 k l0 y109 0) = some r := by first | (rw [hy109]; with_reducible exact H) | (have H2_ := (Option.bind_some _ _).symm.trans H; rw [hy109]; with_reducible exact H2_) | (have H2_ := (Option.bind_some _ _).symm.trans H; with_reducible exact H2_) | with_reducible exact H | (rw [hy109]; exact H) | exact H
   have Ny109 := Aside0.mk hy109
   clear hy109
   have H' := Aside0.mk H
   clear H
   go_enter Tryd.func26, Tryd.ntmps26
   go_wp2_with (first | ((with_reducible refine gate_dst (N := 9) rfl ?_); refine Kd.R_make (Kd.int .u8) _ 5 rfl (N := 9) rfl 23 _ _ rfl ji2 rfl rfl Tryd.underlying23 (.int .u8 0) 1 info5 rfl (by decide) (by omega) 0 (ok := fun _ => True) (okp := fun _ => True) rfl (fun _ hk => hk) trivial (of_decide_eq_true (by first | (with_reducible assumption) | assumption)) (Nat.le_trans (Nat.mul_le_mul_right _ (of_decide_eq_true (by first | (with_reducible assumption) | assumption) : ji2.toNat ≤ 281474976710656)) (by omega)) (Below.refl _ _) (Nat.le_refl _) ?_; intro v110 w5 ho6 hb hg_ hnew_; clear hg_ hnew_; (first | rw [← Ny109.out] at ho6 | (simp only [Int.reduceToNat] at ho6; rw [← Ny109.out] at ho6)); have n0_ := Aside0.mk (Kd.R_lower ho6 (below_size bB)); have n1_ := Aside0.mk (below_step bB hb); clear HB; have HO111 := n0_; have HB := n1_; clear n0_ n1_; clear hb ho6))
   go_loopg [4] k (fun kq v4 w' => ∃ (x3_1 : List Int) (x4_1 : Int), v4 = .int .i64 x4_1 ∧ Aside0 (rickref04_Bytes.l0 kq l0 x3_1 x4_1 = some r) ∧ Aside0 (kq ≤ k) ∧ Aside0 (Kd.R (Kd.int .u8) 5 w' w.heap.size (fun _ => True) v110 x3_1) ∧ Aside0 (Below w.heap.size w w'))
   case atStart => exact ⟨(y109), (0), (by first | rfl | (simp; done) | (simp [*]; done)), H', ⟨Nat.le_refl _⟩, ⟨rR HO111.out⟩, ⟨bB⟩⟩
   case round =>
    clear H'
    (try clear c2);(try clear p2);(try clear c3);(try clear c3b0);(try clear c3b1);(try clear c4);(try clear c4b0);(try clear c4b1);(try clear p6)
    obtain ⟨x3_1, x4_1, rfl, HA, HK1, HO_3, HB⟩ := hrel
    cases gk with
    | zero => exact absurd HA.out (by simp [rickref04_Bytes.l0])
    | succ k1 =>
     have H := HA.out
     clear HA
     simp only [rickref04_Bytes.l0] at H
     by_cases c7 : x4_1 < (l0.length : Int)
     ·rw [if_pos c7] at H
      have c7b0 : decide (x4_1 < (l0.length : Int)) = true := decide_eq_true c7
      clear c7
      obtain ⟨ji8, hji8⟩ : ∃ j_ : Int, (wrap64 (Int.tdiv x4_1 8)) = j_ := ⟨_, rfl⟩
      replace H : (if 0 ≤ (ji8) then (if (ji8) < (x3_1.length : Int) then (if 0 ≤ x4_1 then (if 0 ≤ (wrap64 (7 - (Int.tmod x4_1 8))) then (rickref04_Bytes.l0 k1 l0 (x3_1.set ((ji8) : Int).toNat (Go.bits .or .u8 (rd x3_1 (ji8)) (shl .u8 (rd l0 x4_1) (wrap64 (7 - (Int.tmod x4_1 8)))))) (wrap64 (x4_1 + 1))) else (none)) else (none)) else (none)) else (none)) = some r := by first | (rw [hji8] at H; exact H) | (simp only [hji8] at H ⊢; exact H)
      have hji8w : (IntKind.i64.wrap (Int.tdiv x4_1 8)) = ji8 := (i64_w _).trans hji8
      by_cases c9 : 0 ≤ (ji8)
      ·rw [if_pos c9] at H
       have c9b0 : decide (0 ≤ (ji8)) = true := decide_eq_true c9
       clear c9
       by_cases c10 : (ji8) < (x3_1.length : Int)
       ·rw [if_pos c10] at H
        have c10b0 : decide ((ji8) < (x3_1.length : Int)) = true := decide_eq_true c10
        clear c10
        by_cases c11 : 0 ≤ x4_1
        ·rw [if_pos c11] at H
         have c11b0 : decide (0 ≤ x4_1) = true := decide_eq_true c11
         clear c11
         obtain ⟨ji12, hji12⟩ : ∃ j_ : Int, (wrap64 (7 - (Int.tmod x4_1 8))) = j_ := ⟨_, rfl⟩
         replace H : (if 0 ≤ (ji12) then (rickref04_Bytes.l0 k1 l0 (x3_1.set ((ji8) : Int).toNat (Go.bits .or .u8 (rd x3_1 (ji8)) (shl .u8 (rd l0 x4_1) (ji12)))) (wrap64 (x4_1 + 1))) else (none)) = some r := by first | (rw [hji12] at H; exact H) | (simp only [hji12] at H ⊢; exact H)
         have hji12w : (IntKind.i64.wrap (7 - (Int.tmod x4_1 8))) = ji12 := (i64_w _).trans hji12
         by_cases c13 : 0 ≤ (ji12)
         ·rw [if_pos c13] at H
          have c13b0 := eq_true c13
          have c13b1 : decide (0 ≤ (ji12)) = true := decide_eq_true c13
          clear c13
          obtain ⟨ji14, hji14⟩ : ∃ j_ : Int, (shl .u8 (rd l0 x4_1) (ji12)) = j_ := ⟨_, rfl⟩
          replace H : (rickref04_Bytes.l0 k1 l0 (x3_1.set ((ji8) : Int).toNat (Go.bits .or .u8 (rd x3_1 (ji8)) (ji14))) (wrap64 (x4_1 + 1))) = some r := by first | (rw [hji14] at H; exact H) | (simp only [hji14] at H ⊢; exact H)
          have hji14_ : (IntKind.u8.wrap ((rd l0 x4_1) * 2 ^ min (ji12).toNat 8)) = ji14 := hji14
          have hji14z : (ji12) ≤ 8 → (IntKind.u8.wrap ((rd l0 x4_1) * 2 ^ (ji12).toNat)) = ji14 := shl_small hji14
          obtain ⟨y114, hy114⟩ : ∃ y_ : List Int, y_ = (x3_1.set ((ji8) : Int).toNat (Go.bits .or .u8 (rd x3_1 (ji8)) (ji14))) := ⟨_, rfl⟩
          replace H : (rickref04_Bytes.l0 k1 l0 y114 (wrap64 (x4_1 + 1))) = some r := by first | (rw [hy114]; with_reducible exact H) | (have H2_ := (Option.bind_some _ _).symm.trans H; rw [hy114]; with_reducible exact H2_) | (have H2_ := (Option.bind_some _ _).symm.trans H; with_reducible exact H2_) | with_reducible exact H | (rw [hy114]; exact H) | exact H
          have Ny114 := Aside0.mk hy114
          clear hy114
          have H' := Aside0.mk H
          clear H
          try go_wp2
          have n0_ := Aside0.mk (Kd.R_drew HO_3.out)
          have n1_ := Aside0.mk (below_drew1 HB.out)
          clear HO_3
          clear HB
          have HO_3 := n0_
          have HB := n1_
          clear n0_ n1_
          obtain ⟨Ao17, co17, eo17⟩ := Kd.R_slice HO_3.out
          (first | subst eo17 | (injection eo17 with f1_ f2_ f3_; have f4_ := f1_.symm; have f5_ := f3_.symm; clear f1_ f2_ f3_; subst f4_; subst f5_))
          have p112 : 0 ≤ ((ji8) : Int) := of_decide_eq_true (by first | (with_reducible assumption) | assumption)
          have q112 : (ji8) < (x3_1.length : Int) := of_decide_eq_true (by first | (with_reducible assumption) | assumption)
          obtain ⟨ad112, e112, hx112_0⟩ := Kd.at_int (Kd.R_reads' HO_3.out).2.2 (ji8) p112 q112
          cases e112
          replace p112 := eq_true p112
          replace q112 := eq_true q112
          have p113 : 0 ≤ (x4_1 : Int) := of_decide_eq_true (by first | (with_reducible assumption) | assumption)
          have q113 : x4_1 < (l0.length : Int) := of_decide_eq_true (by first | (with_reducible assumption) | assumption)
          obtain ⟨ad113, e113, hx113_0⟩ := Kd.at_int HR0.out x4_1 p113 q113
          have hw113_0 := hx113_0
          cases e113
          replace hx113_0 := (HB.out.cell (World.block_lt_of_cell? w _ hx113_0)).trans hx113_0
          replace p113 := eq_true p113
          replace q113 := eq_true q113
          have p15 : 0 ≤ ((ji8) : Int) := of_decide_eq_true (by first | (with_reducible assumption) | assumption)
          have q15 : ((ji8) : Int) < ((x3_1.length : Int) : Int) := of_decide_eq_true (by first | (with_reducible assumption) | assumption)
          obtain ⟨go15, co15, eo15, gb15, gl15, cl15, HG15⟩ := Kd.R_form HO_3.out (by omega)
          (first | cases eo15 | (injection eo15 with ea_ en_ ec_; (first | subst ea_ | (injection ea_ with ea_; subst ea_)); subst ec_; clear en_))
          have GB15 := Aside0.mk gb15
          have GG15 := Aside0.mk HG15
          clear gb15 gl15 HG15
          (first | simp only [add_plain] at hx112_0 | skip)
          obtain ⟨hx15_0, hf15_0⟩ := Kd.R_celln 0 HO_3.out ((ji8) : Int) p15 q15
          replace p15 := eq_true p15
          replace q15 := eq_true q15
          have HP18 := Kd.R_putn HO_3.out ((ji8) : Int) (Go.bits .or .u8 (rd x3_1 (ji8)) (ji14))
          rw [← Ny114.out] at HP18
          have HQ18 := Aside0.mk HP18
          clear HP18
          refine start_ (n := 19) (S := fun w' => w'.cell? ⟨go15, ((ji8)).toNat, none⟩ = some (.int .u8 (rd x3_1 (ji8))) ∧ w'.cell? (ad113.add (x4_1).toNat) = some (.int .u8 (rd l0 x4_1))) (ds := [18]) #[false, false, false, false, false, false, false, false, false, false, false, false, false, false, false, false, false, false, false] (by kernel_rfl) rfl rfl ⟨hx112_0, ((HB.out.cell (World.block_lt_of_cell? w _ hw113_0)).trans hw113_0)⟩ (fun hHeld => ?_); refine with_tabW rickref04_Bytes.tab5 rickref04_Bytes.bits5 (fun HT_ HW_ => ?_)
          generalize wr.drew = w16 at HO_3 HB GG15 HQ18 hf15_0 hx112_0 hx113_0 hx15_0 hHeld ⊢
          refine pure_ (i := 0) (N := some 16) (v := ?_) (a' := ?_) #[true, false, false, false, false, false, false, false, false, false, false, false, false, false, false, false, false, false, false] rfl rfl (any_of HT_.out (by kernel_rfl)) (fun _ _ _ h => h) (Or.inl ⟨by rfl, ?_⟩) ?_ ?_
          rotate_left
          ·intro w'
           go_simp
           with_reducible rfl
          rotate_left
          ·simp only [Act.put, List.setIfInBounds_toArray, List.set_cons_zero, List.set_cons_succ, i64_w, i32_w]
           rfl
          refine pure_ (i := 1) (N := some 17) (v := ?_) (a' := ?_) #[true, true, false, false, false, false, false, false, false, false, false, false, false, false, false, false, false, false, false] rfl rfl (any_of HT_.out (by kernel_rfl)) (fun _ _ _ h => h) (Or.inl ⟨by rfl, ?_⟩) ?_ ?_
          rotate_left
          ·intro w'
           go_simp
           with_reducible rfl
          rotate_left
          ·simp only [Act.put, List.setIfInBounds_toArray, List.set_cons_zero, List.set_cons_succ, i64_w, i32_w]
           rfl
          refine pure_ (i := 2) (N := some 18) (v := ?_) (a' := ?_) #[true, true, true, false, false, false, false, false, false, false, false, false, false, false, false, false, false, false, false] rfl rfl (any_of HT_.out (by kernel_rfl)) (fun _ _ _ h => h) (Or.inl ⟨by rfl, ?_⟩) ?_ ?_
          rotate_left
          ·intro w'
           go_simp
           with_reducible rfl
          rotate_left
          ·simp only [Act.put, List.setIfInBounds_toArray, List.set_cons_zero, List.set_cons_succ, i64_w, i32_w]
           rfl
          refine pure_ (i := 3) (N := some 19) (v := ?_) (a' := ?_) #[true, true, true, true, false, false, false, false, false, false, false, false, false, false, false, false, false, false, false] rfl rfl (any_of HT_.out (by kernel_rfl)) (fun _ _ _ h => h) (Or.inl ⟨by rfl, ?_⟩) ?_ ?_
          rotate_left
          ·intro w'
           go_simp
           with_reducible rfl
          rotate_left
          ·simp only [Act.put, List.setIfInBounds_toArray, List.set_cons_zero, List.set_cons_succ, i64_w, i32_w]
           rfl
          refine pure_ (i := 4) (N := some 20) (v := ?_) (a' := ?_) #[true, true, true, true, true, false, false, false, false, false, false, false, false, false, false, false, false, false, false] rfl rfl (any_of HT_.out (by kernel_rfl)) (fun _ _ _ h => h) (Or.inl ⟨by rfl, ?_⟩) ?_ ?_
          rotate_left
          ·intro w'
           go_simp
           with_reducible rfl
          rotate_left
          ·simp only [Act.put, List.setIfInBounds_toArray, List.set_cons_zero, List.set_cons_succ, i64_w, i32_w]
           rfl
          refine pure_ (i := 5) (N := some 21) (v := ?_) (a' := ?_) #[true, true, true, true, true, true, false, false, false, false, false, false, false, false, false, false, false, false, false] rfl rfl (any_of HT_.out (by kernel_rfl)) (fun _ _ _ h => h) (Or.inl ⟨by rfl, ?_⟩) ?_ ?_
          rotate_left
          ·intro w'
           go_simp
           with_reducible rfl
          rotate_left
          ·simp only [Act.put, List.setIfInBounds_toArray, List.set_cons_zero, List.set_cons_succ, i64_w, i32_w]
           rfl
          refine pure_ (i := 6) (N := some 22) (v := ?_) (a' := ?_) #[true, true, true, true, true, true, true, false, false, false, false, false, false, false, false, false, false, false, false] rfl rfl (any_of HT_.out (by kernel_rfl)) (fun _ _ _ h => h) (Or.inl ⟨by rfl, ?_⟩) ?_ ?_
          rotate_left
          ·intro w'
           go_simp
           with_reducible rfl
          rotate_left
          ·simp only [Act.put, List.setIfInBounds_toArray, List.set_cons_zero, List.set_cons_succ, i64_w, i32_w]
           rfl
          refine pure_ (i := 8) (N := some 24) (v := ?_) (a' := ?_) #[true, true, true, true, true, true, true, false, true, false, false, false, false, false, false, false, false, false, false] rfl rfl (any_of HT_.out (by kernel_rfl)) (fun _ _ _ h => h) (Or.inl ⟨by rfl, ?_⟩) ?_ ?_
          rotate_left
          ·intro w'
           go_simp
           with_reducible rfl
          rotate_left
          ·simp only [Act.put, List.setIfInBounds_toArray, List.set_cons_zero, List.set_cons_succ, i64_w, i32_w]
           rfl
          refine pure_ (i := 9) (N := some 25) (v := ?_) (a' := ?_) #[true, true, true, true, true, true, true, false, true, true, false, false, false, false, false, false, false, false, false] rfl rfl (any_of HT_.out (by kernel_rfl)) (fun _ _ _ h => h) (Or.inl ⟨by rfl, ?_⟩) ?_ ?_
          rotate_left
          ·intro w'
           go_simp
           with_reducible rfl
          rotate_left
          ·simp only [Act.put, List.setIfInBounds_toArray, List.set_cons_zero, List.set_cons_succ, i64_w, i32_w]
           rfl
          refine pure_ (i := 10) (N := some 26) (v := ?_) (a' := ?_) #[true, true, true, true, true, true, true, false, true, true, true, false, false, false, false, false, false, false, false] rfl rfl (any_of HT_.out (by kernel_rfl)) (fun _ _ _ h => h) (Or.inl ⟨by rfl, ?_⟩) ?_ ?_
          rotate_left
          ·intro w'
           go_simp
           with_reducible rfl
          rotate_left
          ·simp only [Act.put, List.setIfInBounds_toArray, List.set_cons_zero, List.set_cons_succ, i64_w, i32_w]
           rfl
          refine pure_ (i := 12) (N := some 28) (v := ?_) (a' := ?_) #[true, true, true, true, true, true, true, false, true, true, true, false, true, false, false, false, false, false, false] rfl rfl (any_of HT_.out (by kernel_rfl)) (fun _ _ _ h => h) (Or.inl ⟨by rfl, ?_⟩) ?_ ?_
          rotate_left
          ·intro w'
           go_simp
           with_reducible rfl
          rotate_left
          ·simp only [Act.put, List.setIfInBounds_toArray, List.set_cons_zero, List.set_cons_succ, i64_w, i32_w]
           rfl
          refine pure_ (i := 13) (N := some 29) (v := ?_) (a' := ?_) #[true, true, true, true, true, true, true, false, true, true, true, false, true, true, false, false, false, false, false] rfl rfl (any_of HT_.out (by kernel_rfl)) (fun _ _ _ h => h) (Or.inl ⟨by rfl, ?_⟩) ?_ ?_
          rotate_left
          ·intro w'
           go_simp
           with_reducible rfl
          rotate_left
          ·simp only [Act.put, List.setIfInBounds_toArray, List.set_cons_zero, List.set_cons_succ, i64_w, i32_w]
           rfl
          refine pure_ (i := 14) (N := some 30) (v := ?_) (a' := ?_) #[true, true, true, true, true, true, true, false, true, true, true, false, true, true, true, false, false, false, false] rfl rfl (any_of HT_.out (by kernel_rfl)) (fun _ _ _ h => h) (Or.inl ⟨by rfl, ?_⟩) ?_ ?_
          rotate_left
          ·intro w'
           go_simp
           with_reducible rfl
          rotate_left
          ·simp only [Act.put, List.setIfInBounds_toArray, List.set_cons_zero, List.set_cons_succ, i64_w, i32_w]
           rfl
          refine take_ (i := 7) (N := some 23) (v := ?_) (a' := ?_) #[true, true, true, true, true, true, true, true, true, true, true, false, true, true, true, false, false, false, false] rfl rfl (take_ofW HT_.out HW_.out (by kernel_rfl)) (fun _ _ _ h => h) (Or.inl ⟨by rfl, ?_⟩) hHeld ?_ ?_
          rotate_left
          ·rintro w' ⟨s0, s1⟩
           go_simp
           with_reducible rfl
          rotate_left
          ·simp only [Act.put, List.setIfInBounds_toArray, List.set_cons_zero, List.set_cons_succ, i64_w, i32_w]
           rfl
          refine take_ (i := 11) (N := some 27) (v := ?_) (a' := ?_) #[true, true, true, true, true, true, true, true, true, true, true, true, true, true, true, false, false, false, false] rfl rfl (take_ofW HT_.out HW_.out (by kernel_rfl)) (fun _ _ _ h => h) (Or.inl ⟨by rfl, ?_⟩) hHeld ?_ ?_
          rotate_left
          ·rintro w' ⟨s0, s1⟩
           go_simp
           with_reducible rfl
          rotate_left
          ·simp only [Act.put, List.setIfInBounds_toArray, List.set_cons_zero, List.set_cons_succ, i64_w, i32_w]
           rfl
          refine pure_ (i := 15) (N := some 31) (v := ?_) (a' := ?_) #[true, true, true, true, true, true, true, true, true, true, true, true, true, true, true, true, false, false, false] rfl rfl (any_of HT_.out (by kernel_rfl)) (fun _ _ _ h => h) (Or.inl ⟨by rfl, ?_⟩) ?_ ?_
          rotate_left
          ·intro w'
           go_simp
           with_reducible rfl
          rotate_left
          ·simp only [Act.put, List.setIfInBounds_toArray, List.set_cons_zero, List.set_cons_succ, i64_w, i32_w]
           rfl
          refine pure_ (i := 16) (N := some 32) (v := ?_) (a' := ?_) #[true, true, true, true, true, true, true, true, true, true, true, true, true, true, true, true, true, false, false] rfl rfl (any_of HT_.out (by kernel_rfl)) (fun _ _ _ h => h) (Or.inl ⟨by rfl, ?_⟩) ?_ ?_
          rotate_left
          ·intro w'
           go_simp
           with_reducible rfl
          rotate_left
          ·simp only [Act.put, List.setIfInBounds_toArray, List.set_cons_zero, List.set_cons_succ, i64_w, i32_w]
           rfl
          refine pure_ (i := 17) (N := some 33) (v := ?_) (a' := ?_) #[true, true, true, true, true, true, true, true, true, true, true, true, true, true, true, true, true, true, false] rfl rfl (any_of HT_.out (by kernel_rfl)) (fun _ _ _ h => h) (Or.inl ⟨by rfl, ?_⟩) ?_ ?_
          rotate_left
          ·intro w'
           go_simp
           with_reducible rfl
          rotate_left
          ·simp only [Act.put, List.setIfInBounds_toArray, List.set_cons_zero, List.set_cons_succ, i64_w, i32_w]
           rfl
          refine last_ (i := 18) (N := none) #[true, true, true, true, true, true, true, true, true, true, true, true, true, true, true, true, true, true, true] rfl rfl (one_of HT_.out (by kernel_rfl)) (by decide) (fun K hK => ?_)
          refine skip_ (w1 := ?_) (by rfl) rfl ?_ ?_
          rotate_left
          ·go_simp
           rfl
          refine hK.out _ _ ?_
          clear hK K
          refine done_ (done_of HT_.out (by kernel_rfl)) ?_
          try go_wp2
          go_roundg k1
          case measure => have := HK1.out; omega
          case rel => exact ⟨(y114), (wrap64 (x4_1 + 1)), (by first | rfl | (simp; done) | (simp [*]; done)), H', ⟨by have := HK1.out; omega⟩, ⟨rR HQ18.out⟩, ⟨by repeat (first | (with_reducible first | exact HB.out | apply below_alloc | apply pw_below_drewN | apply below_drew1 | refine below_set ?_ GB15.out) | exact HB.out)⟩⟩
         ·rw [if_neg c13] at H
          exact absurd H (by simp)
        ·rw [if_neg c11] at H
         exact absurd H (by simp)
       ·rw [if_neg c10] at H
        exact absurd H (by simp)
      ·rw [if_neg c9] at H
       exact absurd H (by simp)
     ·rw [if_neg c7] at H
      have c7b0 : decide (x4_1 < (l0.length : Int)) = false := decide_eq_false c7
      clear c7
      obtain rfl := Option.some.inj H
      go_wp2
      go_ret
      exact ⟨_, by first | rfl | (simp [errW_none, errW_some] <;> rfl) | (simp only [← hji2]; first | rfl | (simp [errW_none, errW_some] <;> rfl)) | (simp [*, errW_none, errW_some] <;> rfl), rR HO_3.out, bB⟩
  ·rw [if_neg c4] at H
   exact absurd H (by simp)
 ·rw [if_neg c3] at H
  exact absurd H (by simp)

end Go.Proofs.YtmlbppfcpejlpaaDoor.X

/- What the printed functions of layer 4 (bits) tell: rows of bits, their bytes, and back. No conditions. -/
namespace Go.Proofs.YtmlbppfcpejlpaaDoor.Q04
open Go Go.RowKit Go.Proofs.YtmlbppfcpejlpaaDoorW.PrintWords Go.Proofs.YtmlbppfcpejlpaaDoorW.PrintMore Go.Proofs.YtmlbppfcpejlpaaDoor.S Go.Proofs.YtmlbppfcpejlpaaDoor.B Go.Proofs.YtmlbppfcpejlpaaDoor.X
set_option linter.unusedVariables false
set_option linter.unusedSimpArgs false

theorem and_one_u8 {x : Int} (h0 : 0 ≤ x) (h1 : x < 256) : Go.bits .and .u8 x 1 = x % 2 := by
 simpa using bits_mask .u8 8 (by decide) wraps_u8 1 (by decide) x h0 (by omega)
theorem and_one_u64 {x : Int} (h0 : 0 ≤ x) (h1 : x < 18446744073709551616) : Go.bits .and .u64 x 1 = x % 2 := by
 simpa using bits_mask .u64 64 (by decide) wraps_u64 1 (by decide) x h0 (by omega)
theorem shr_nat (k : IntKind) (x : Int) {j : Nat} (h : j ≤ k.bits) : shr k x (j : Int) = x / 2 ^ j := by
 unfold shr
 rw [show min ((j : Int).toNat) k.bits = j by rw [Int.toNat_natCast]; omega]
theorem ediv_pow_range {x : Int} (h0 : 0 ≤ x) (j : Nat) : 0 ≤ x / 2 ^ j ∧ x / 2 ^ j ≤ x :=
 ⟨Int.ediv_nonneg h0 (Int.pow_nonneg (by omega)), Int.ediv_le_self _ h0⟩
theorem bit_u64 {v : Int} (h0 : 0 ≤ v) (h1 : v < 18446744073709551616) {j : Nat} (hj : j < 64) : (Go.bits .and .u64 (shr .u64 v (j : Int)) 1) % 256 = v / 2 ^ j % 2 := by
 have := ediv_pow_range h0 j
 rw [shr_nat .u64 v (by simp [IntKind.bits]; omega), and_one_u64 this.1 (by omega)]
 omega
theorem refput_l0 {v : Int} (h0 : 0 ≤ v) (h1 : v < 18446744073709551616) (j : Nat) : ∀ (k : Nat) (l : List Int), j ≤ 64 → j < k → l.length + j < 140737488355328 →
  rickref04_Put.l0 k l v ((j : Int) - 1) = some (l ++ bitsN j v) := by
 induction j with
 | zero =>
  intro k l _ hk _
  obtain ⟨k, rfl⟩ : ∃ q, k = q + 1 := ⟨k - 1, by omega⟩
  simp only [rickref04_Put.l0]
  rw [if_neg (by omega)]
  simp [bitsN]
 | succ j ih =>
  intro k l hj hk hl
  obtain ⟨k, rfl⟩ : ∃ q, k = q + 1 := ⟨k - 1, by omega⟩
  simp only [rickref04_Put.l0]
  rw [if_pos (by omega), if_pos (by omega), if_pos (by omega), show ((j + 1 : Nat) : Int) - 1 = (j : Int) by omega, bit_u64 h0 h1 (by omega), wrap64_id (by omega) (by omega)]
  rw [ih k _ (by omega) (by omega) (by simp; omega), List.append_assoc]
  rfl
theorem refput_spec {k : Nat} {l : List Int} {v m : Int} (h0 : 0 ≤ v) (h1 : v < 18446744073709551616) (hk : 64 < k) (hl : l.length < 1000000000000) :
  rickref04_Put.f k l v m = some (l ++ bitsN (cl m) v) := by
 unfold rickref04_Put.f
 rw [cl_eq]
 have := cl_le m
 exact refput_l0 h0 h1 (cl m) k l (by omega) (by omega) (by omega)

theorem shl_bit {b : Int} (hb : b = 0 ∨ b = 1) {r : Nat} (hr : r < 8) : shl .u8 b (r : Int) = b * 2 ^ r := by
 unfold shl
 rw [show min ((r : Int).toNat) IntKind.u8.bits = r by rw [Int.toNat_natCast]; simp [IntKind.bits]; omega, IntKind.wrap_u8]
 rcases pow_r hr with h | h | h | h | h | h | h | h <;> subst h <;> rcases hb with rfl | rfl <;> decide
theorem refbytes_l0 {l : List Int} (hb : Bits l) (hl : l.length < 1000000000000) (d : Nat) : ∀ (i k : Nat), i + d = l.length → d < k →
  rickref04_Bytes.l0 k l (rows (l.take i) ((l.length + 7) / 8)) (i : Int) = some (packB l) := by
 induction d with
 | zero =>
  intro i k hd hk
  obtain ⟨k, rfl⟩ : ∃ q, k = q + 1 := ⟨k - 1, by omega⟩
  simp only [rickref04_Bytes.l0]
  rw [if_neg (by omega), List.take_of_length_le (by omega)]
  rfl
 | succ d ih =>
  intro i k hd hk
  obtain ⟨k, rfl⟩ : ∃ q, k = q + 1 := ⟨k - 1, by omega⟩
  have hlt : i < l.length := by omega
  have hli : (l.take i).length = i := by rw [List.length_take]; omega
  have hbit := hb _ (List.getElem_mem hlt)
  have e1 : wrap64 (Int.tdiv (i : Int) 8) = ((i / 8 : Nat) : Int) := by
   rw [Int.tdiv_eq_ediv_of_nonneg (by omega), wrap64_id (by omega) (by omega)]; omega
  have e2 : wrap64 (7 - Int.tmod (i : Int) 8) = ((7 - i % 8 : Nat) : Int) := by
   rw [Int.tmod_eq_emod_of_nonneg (by omega), wrap64_id (by omega) (by omega)]; omega
  simp only [rickref04_Bytes.l0]
  rw [e1, e2, if_pos (by omega), if_pos (by omega), if_pos (by rw [rows_len]; omega), if_pos (by omega), if_pos (by omega), rd_get hlt, rd_rows _ (by omega), shl_bit hbit (by omega), Int.toNat_natCast]
  have := rows_push (l.take i) (fun x hx => hb x (List.mem_of_mem_take hx)) l[i] hbit ((l.length + 7) / 8) (by rw [hli]; omega)
  rw [hli] at this
  rw [this, ← List.take_succ_eq_append_getElem hlt, show wrap64 ((i : Int) + 1) = ((i + 1 : Nat) : Int) by rw [wrap64_id] <;> omega]
  exact ih (i + 1) k (by omega) (by omega)
theorem refbytes_spec {k : Nat} {l : List Int} (hb : Bits l) (hl : l.length < 1000000000000) (hk : l.length < k) : rickref04_Bytes.f k l = some (packB l) := by
 have e : wrap64 (Int.tdiv (wrap64 ((l.length : Int) + 7)) 8) = (((l.length + 7) / 8 : Nat) : Int) := by
  rw [wrap64_id (n := (l.length : Int) + 7) (by omega) (by omega), Int.tdiv_eq_ediv_of_nonneg (by omega), wrap64_id (by omega) (by omega)]; omega
 unfold rickref04_Bytes.f
 rw [e, if_pos (by omega), if_pos (by rw [Int.toNat_natCast]; omega), Int.toNat_natCast, ← rows_nil]
 have := refbytes_l0 hb hl l.length 0 k (by omega) hk
 simpa using this
end Go.Proofs.YtmlbppfcpejlpaaDoor.Q04

/- What the printed reader of layer 4 (bits) tells. No conditions. -/
namespace Go.Proofs.YtmlbppfcpejlpaaDoor.Q04
open Go Go.RowKit Go.Proofs.YtmlbppfcpejlpaaDoorW.PrintWords Go.Proofs.YtmlbppfcpejlpaaDoorW.PrintMore Go.Proofs.YtmlbppfcpejlpaaDoor.S Go.Proofs.YtmlbppfcpejlpaaDoor.B Go.Proofs.YtmlbppfcpejlpaaDoor.X
set_option linter.unusedVariables false
set_option linter.unusedSimpArgs false

theorem bit_u8 {b : List Int} (hb : Bs b) {i : Nat} (hi : i < 8 * b.length) :
  Go.bits .and .u8 (shr .u8 (rd b ((i / 8 : Nat) : Int)) ((7 - i % 8 : Nat) : Int)) 1 = bitAt b i := by
 have hlt : i / 8 < b.length := by omega
 obtain ⟨r0, r1⟩ := hb _ (List.getElem_mem hlt)
 have := ediv_pow_range r0 (7 - i % 8)
 rw [rd_get hlt, shr_nat .u8 _ (by simp [IntKind.bits]; omega), and_one_u8 this.1 (by omega)]
 unfold bitAt
 rw [List.getD_eq_getElem?_getD, List.getElem?_eq_getElem hlt]; rfl
theorem idx8 {i : Nat} (h : i < 10000000000000) : wrap64 (Int.tdiv (i : Int) 8) = ((i / 8 : Nat) : Int) ∧ wrap64 (7 - Int.tmod (i : Int) 8) = ((7 - i % 8 : Nat) : Int) := by
 constructor
 ·rw [Int.tdiv_eq_ediv_of_nonneg (by omega), wrap64_id (by omega) (by omega)]; omega
 ·rw [Int.tmod_eq_emod_of_nonneg (by omega), wrap64_id (by omega) (by omega)]; omega
theorem succ64 {i : Nat} (h : i < 10000000000000) : wrap64 ((i : Int) + 1) = ((i + 1 : Nat) : Int) := by rw [wrap64_id] <;> omega
theorem pow_le64 {n : Nat} (h : n ≤ 64) : (2 : Int) ^ n ≤ 18446744073709551616 := by
 have : (2 : Int) ^ n ≤ 2 ^ 64 := by exact_mod_cast Nat.pow_le_pow_right (by decide) h
 simpa using this
theorem or_one {x b : Int} (h0 : 0 ≤ x) (h1 : x % 2 = 0) (h2 : x < 18446744073709551616) (hb : b = 0 ∨ b = 1) : Go.bits .or .u64 x b = x + b :=
 or_join 1 h0 (by simpa using h1) h2 (by omega) (by simp; omega) (by omega)
theorem take_l0 {b : List Int} (hb : Bs b) (hl : b.length < 1000000000000) (n at0 : Nat) (hn : n ≤ 64) (hnl : at0 + n ≤ 8 * b.length) (d : Nat) : ∀ (i k : Nat), i + d = n → d < k →
  bits_Reader_Take.l0 k (valB (((bitsOf b).drop at0).take i)) (n : Int) (i : Int) b ((at0 + i : Nat) : Int) false = some (valB (((bitsOf b).drop at0).take n), ((at0 + n : Nat) : Int), false) := by
 induction d with
 | zero =>
  intro i k hd hk
  obtain ⟨k, rfl⟩ : ∃ q, k = q + 1 := ⟨k - 1, by omega⟩
  obtain rfl : i = n := by omega
  simp only [bits_Reader_Take.l0]
  rw [if_neg (by omega)]
 | succ d ih =>
  intro i k hd hk
  obtain ⟨k, rfl⟩ : ∃ q, k = q + 1 := ⟨k - 1, by omega⟩
  obtain ⟨e1, e2⟩ := idx8 (i := at0 + i) (by omega)
  have hlen : ((bitsOf b).drop at0).length = 8 * b.length - at0 := by rw [List.length_drop, bitsOf_len]
  have hlt : i < ((bitsOf b).drop at0).length := by omega
  have hB := bitsOf_bits b
  have hbd : Bits ((bitsOf b).drop at0) := fun x hx => hB x (List.mem_of_mem_drop hx)
  have hr := valB_range (l := ((bitsOf b).drop at0).take (i + 1)) (fun x hx => hbd x (List.mem_of_mem_take hx))
  have hr0 := valB_range (l := ((bitsOf b).drop at0).take i) (fun x hx => hbd x (List.mem_of_mem_take hx))
  rw [List.length_take, show min (i + 1) ((bitsOf b).drop at0).length = i + 1 by omega] at hr
  have hp := pow_le64 (n := i + 1) (by omega)
  rw [List.take_succ_eq_append_getElem hlt, valB_snoc] at hr
  have hbit := hbd _ (List.getElem_mem hlt)
  have hget : ((bitsOf b).drop at0)[i] = bitAt b (at0 + i) := by rw [List.getElem_drop, bitsOf_get]
  simp only [bits_Reader_Take.l0]
  rw [if_pos (by omega), e1, e2, if_pos (by omega), if_pos (by omega), if_pos (by omega), bit_u8 hb (by omega), ← hget, wrap_u64_id (n := valB _ * 2) (by omega) (by omega), wrap_u64_id (n := ((bitsOf b).drop at0)[i]) (by omega) (by omega), or_one (by omega) (by omega) (by omega) hbit, ← valB_snoc, ← List.take_succ_eq_append_getElem hlt, succ64 (by omega), succ64 (by omega)]
  exact ih (i + 1) k (by omega) (by omega)
theorem left_spec {b : List Int} {at0 : Nat} (hl : b.length < 1000000000000) (ha : at0 ≤ 8 * b.length) : bits_Reader_Left.f b (at0 : Int) false = some (((8 * b.length - at0 : Nat) : Int), (at0 : Int), false) := by
 unfold bits_Reader_Left.f
 have e : wrap64 (wrap64 (8 * (b.length : Int)) - (at0 : Int)) = ((8 * b.length - at0 : Nat) : Int) := by
  rw [wrap64_id (n := 8 * (b.length : Int)) (by omega) (by omega), wrap64_id (by omega) (by omega)]; omega
 rw [e]
theorem held_spec (m : Int) : bits_held.f m = some (cl m : Int) := by unfold bits_held.f; rw [cl_eq]
theorem take_bad {k : Nat} {b : List Int} {m at0 : Int} : bits_Reader_Take.f k b at0 true m = some (0, at0, true) := by
 unfold bits_Reader_Take.f
 exact if_pos rfl
theorem take_short {k : Nat} {b : List Int} {m : Int} {at0 : Nat} (hl : b.length < 1000000000000) (ha : at0 ≤ 8 * b.length) (h : ¬ at0 + cl m ≤ 8 * b.length) : bits_Reader_Take.f k b (at0 : Int) false m = some (0, (at0 : Int), true) := by
 unfold bits_Reader_Take.f
 rw [if_neg (by decide), held_spec, Option.bind_some, left_spec hl ha, Option.bind_some]
 exact if_pos (by omega)
theorem take_ok {k : Nat} {b : List Int} {m : Int} {at0 : Nat} (hb : Bs b) (hl : b.length < 1000000000000) (h : at0 + cl m ≤ 8 * b.length) (hk : 64 < k) : bits_Reader_Take.f k b (at0 : Int) false m = some (valB (((bitsOf b).drop at0).take (cl m)), ((at0 + cl m : Nat) : Int), false) := by
 have hc := cl_le m
 unfold bits_Reader_Take.f
 rw [if_neg (by decide), held_spec, Option.bind_some, left_spec hl (by omega), Option.bind_some]
 refine (if_neg (by omega)).trans ?_
 exact take_l0 hb hl (cl m) at0 (by omega) h (cl m) 0 k (by omega) (by omega)
end Go.Proofs.YtmlbppfcpejlpaaDoor.Q04

/- Whole numbers told by bits at a place. No conditions. -/
namespace Go.Proofs.YtmlbppfcpejlpaaDoor.Q06
open Go Go.RowKit Go.Proofs.YtmlbppfcpejlpaaDoorW.PrintWords Go.Proofs.YtmlbppfcpejlpaaDoorW.PrintMore Go.Proofs.YtmlbppfcpejlpaaDoor.S Go.Proofs.YtmlbppfcpejlpaaDoor.B Go.Proofs.YtmlbppfcpejlpaaDoor.X Go.Proofs.YtmlbppfcpejlpaaDoor.Q04
set_option linter.unusedVariables false
set_option linter.unusedSimpArgs false

/-- The number of the n bits at a place. -/
def gv (b : List Int) (at0 n : Nat) : Int := valB (((bitsOf b).drop at0).take n)
theorem gv_range (b : List Int) (at0 n : Nat) : 0 ≤ gv b at0 n ∧ gv b at0 n < 2 ^ n := by
 have hb : Bits (((bitsOf b).drop at0).take n) := fun x hx => bitsOf_bits b x (List.mem_of_mem_drop (List.mem_of_mem_take hx))
 have h := valB_range hb
 refine ⟨h.1, Int.lt_of_lt_of_le h.2 ?_⟩
 exact_mod_cast Nat.pow_le_pow_right (by decide) (List.length_take_le _ _)
theorem gv_range64 (b : List Int) (at0 : Nat) {n : Nat} (hn : n ≤ 64) : 0 ≤ gv b at0 n ∧ gv b at0 n < 18446744073709551616 := by
 have h := gv_range b at0 n
 have := pow_le64 hn
 omega
theorem cl_id {m : Int} (h0 : 0 ≤ m) (h1 : m ≤ 64) : cl m = m.toNat := by unfold cl mn mx; split <;> split <;> omega
theorem take_good {b : List Int} {m : Int} {at0 : Nat} (hb : Bs b) (hl : b.length < 1000000000000) (h0 : 0 ≤ m) (h1 : m ≤ 64) (h : at0 + m.toNat ≤ 8 * b.length) :
  bits_Reader_Take.f 65 b (at0 : Int) false m = some (gv b at0 m.toNat, ((at0 + m.toNat : Nat) : Int), false) := by
 have := take_ok (k := 65) (m := m) hb hl (by rw [cl_id h0 h1]; exact h) (by omega)
 rw [cl_id h0 h1] at this
 exact this
theorem take_any {b : List Int} {m : Int} {at0 : Nat} {bad : Bool} (hb : Bs b) (hl : b.length < 1000000000000) (ha : at0 ≤ 8 * b.length) (h0 : 0 ≤ m) (h1 : m ≤ 64) :
  ∃ (tv : Int) (a1 : Nat) (bad1 : Bool), bits_Reader_Take.f 65 b (at0 : Int) bad m = some (tv, (a1 : Int), bad1) ∧ 0 ≤ tv ∧ tv < 18446744073709551616 ∧ a1 ≤ 8 * b.length ∧
   ((bad = true ∧ bad1 = true ∧ tv = 0 ∧ a1 = at0) ∨ (bad = false ∧ bad1 = false ∧ at0 + m.toNat ≤ 8 * b.length ∧ a1 = at0 + m.toNat ∧ tv = gv b at0 m.toNat) ∨ (bad = false ∧ bad1 = true ∧ 8 * b.length < at0 + m.toNat ∧ tv = 0 ∧ a1 = at0)) := by
 cases bad with
 | true => exact ⟨0, at0, true, take_bad, by omega, by omega, ha, .inl ⟨rfl, rfl, rfl, rfl⟩⟩
 | false =>
  by_cases h : at0 + m.toNat ≤ 8 * b.length
  ·have := gv_range64 b at0 (n := m.toNat) (by omega)
   exact ⟨_, _, false, take_good hb hl h0 h1 h, this.1, this.2, h, .inr (.inl ⟨rfl, rfl, h, rfl, rfl⟩)⟩
  ·exact ⟨0, at0, true, take_short hl ha (by rw [cl_id h0 h1]; exact h), by omega, by omega, ha, .inr (.inr ⟨rfl, rfl, by omega, rfl, rfl⟩)⟩
theorem gv_byte {b : List Int} (hb : Bs b) {q : Nat} (hq : q < b.length) : gv b (8 * q) 8 = b[q] := by
 have e : ((bitsOf b).drop (8 * q)).take 8 = (List.range 8).map (fun j => bitAt b (8 * q + j)) := by
  apply List.ext_getElem
  ·rw [List.length_take, List.length_drop, bitsOf_len, List.length_map, List.length_range]; omega
  ·intro i h1 h2
   rw [List.getElem_take, List.getElem_drop, bitsOf_get, List.getElem_map, List.getElem_range]
 obtain ⟨r0, r1⟩ := hb _ (List.getElem_mem hq)
 have hbit : ∀ j, j < 8 → bitAt b (8 * q + j) = b[q] / 2 ^ (7 - j) % 2 := fun j hj => by
  unfold bitAt
  rw [show (8 * q + j) / 8 = q by omega, show (8 * q + j) % 8 = j by omega, List.getD_eq_getElem?_getD, List.getElem?_eq_getElem hq]; rfl
 unfold gv
 rw [e, show List.range 8 = [0, 1, 2, 3, 4, 5, 6, 7] by rfl]
 simp only [List.map_cons, List.map_nil, valB, List.foldl_cons, List.foldl_nil]
 rw [hbit 0 (by omega), hbit 1 (by omega), hbit 2 (by omega), hbit 3 (by omega), hbit 4 (by omega), hbit 5 (by omega), hbit 6 (by omega), hbit 7 (by omega)]
 generalize b[q] = y at *
 simp only [Nat.reduceSub, show (2 : Int) ^ 7 = 128 by decide, show (2 : Int) ^ 6 = 64 by decide, show (2 : Int) ^ 5 = 32 by decide, show (2 : Int) ^ 4 = 16 by decide, show (2 : Int) ^ 3 = 8 by decide, show (2 : Int) ^ 2 = 4 by decide, show (2 : Int) ^ 1 = 2 by decide, show (2 : Int) ^ 0 = 1 by decide]
 omega
def okB (l : List Int) : Bool := l.all (fun x => decide (0 ≤ x ∧ x < 256)) && decide (l.length < 1000000000)
theorem okB_bs {l : List Int} (h : okB l = true) : Bs l ∧ l.length < 1000000000 := by
 unfold okB at h
 rw [Bool.and_eq_true] at h
 exact ⟨fun x hx => by simpa using List.all_eq_true.1 h.1 x hx, by simpa using h.2⟩
theorem bs_okB {l : List Int} (h : Bs l) (hl : l.length < 1000000000) : okB l = true := by
 unfold okB
 rw [Bool.and_eq_true]
 exact ⟨List.all_eq_true.2 (fun x hx => by simpa using h x hx), by simpa using hl⟩
end Go.Proofs.YtmlbppfcpejlpaaDoor.Q06

namespace Go.Proofs.YtmlbppfcpejlpaaDoor.X
open Go.RowKit Go.Proofs.YtmlbppfcpejlpaaDoorW.PrintWords Go.Proofs.YtmlbppfcpejlpaaDoorW.PrintLast Go.Proofs.YtmlbppfcpejlpaaDoorW.PrintMore
attribute [local go_sem] max2_int min2_int max_two min_two max_three min_three max_four min_four   -- for this text's walks alone
set_option linter.unusedVariables false
set_option linter.unusedSimpArgs false

/-! ### pack_Get: function 56 -/
open Go.Proofs.YtmlbppfcpejlpaaDoor.S Go.Proofs.YtmlbppfcpejlpaaDoor.B Go.Proofs.YtmlbppfcpejlpaaDoor.W04 Go.Proofs.YtmlbppfcpejlpaaDoor.Q06
/-- The numbers that bits tell from place 72 on, w bits each, above lo. -/
def pack_Get.outs (b : List Int) (lo : Int) (w i : Nat) : List Int := (List.range i).map (fun j => IntKind.u64.wrap (lo + gv b (72 + j * w) w))
def pack_Get.f (l0 : List Int) (a1 : Int) : Option (List Int × Int × Int) :=
 if a1 < 0 ∨ 200 < a1 then some ([], 0, 1) else if a1 = 0 then some ([], 0, 0) else if l0.length < 9 then some ([], 0, 4) else if 64 < rd l0 8 then some ([], 0, 3)
 else if okB l0 = true then (if 8 * l0.length < 72 + a1.toNat * (rd l0 8).toNat then some ([], 0, 4)
  else (pack_Put.f (pack_Get.outs l0 (gv l0 0 64) (rd l0 8).toNat a1.toNat)).bind fun p => (bytes_HasPrefix.f l0 p.1).bind fun t => if t = true then some (pack_Get.outs l0 (gv l0 0 64) (rd l0 8).toNat a1.toNat, (p.1.length : Int), 0) else some ([], 0, 3))
 else none
def pack_Get.Three (B : Nat) (xs : List Int) (n m : Int) (w : World) (e : Ending) (w' : World) : Prop :=
 ∃ v0_ : Value, e = .returned (.tuple #[v0_, .int .i64 n, .int .i64 m]) ∧ Kd.R (Kd.int .u64) 34 w' B (fun _ => True) v0_ xs ∧ Below w.heap.size w w'
theorem pack_Get.calls_early (A0 : Option Addr) (c0 : Nat) (l0 : List Int) (a1 m : Int) (w : World) (hr0 : Kd.C (Kd.int .u8) w A0 l0.length l0)
  (hn : ((a1 < 0 ∨ 200 < a1) ∧ m = 1) ∨ (a1 = 0 ∧ m = 0) ∨ (0 < a1 ∧ a1 ≤ 200 ∧ l0.length < 9 ∧ m = 4) ∨ (0 < a1 ∧ a1 ≤ 200 ∧ 9 ≤ l0.length ∧ 64 < rd l0 8 ∧ m = 3)) :
  Calls Tryd.prog 56 #[.slice A0 l0.length c0, .int .i64 a1] w (pack_Get.Three w.heap.size [] 0 m w) := by
 have HR0 := Aside0.mk hr0
 clear hr0
 rcases hn with ⟨hn, rfl⟩ | ⟨rfl, rfl⟩ | ⟨h1, h2, h3, rfl⟩ | ⟨h1, h2, h3, h4, rfl⟩
 ·rcases hn with hn | hn
  ·have t1 : decide (a1 < 0) = true := by simpa using hn
   go_enter Tryd.func56, Tryd.ntmps56
   go_wp2
   go_ret3
   exact ⟨_, rfl, Kd.R_nil _ _ _ _ _, Below.refl _ _⟩
  ·have t1 : decide (a1 < 0) = false := by simp; omega
   have t2 : decide (200 < a1) = true := by simpa using hn
   go_enter Tryd.func56, Tryd.ntmps56
   go_wp2
   go_ret3
   exact ⟨_, rfl, Kd.R_nil _ _ _ _ _, Below.refl _ _⟩
 ·go_enter Tryd.func56, Tryd.ntmps56
  go_wp2
  go_ret3
  exact ⟨_, rfl, Kd.R_nil _ _ _ _ _, Below.refl _ _⟩
 ·have t1 : decide (a1 < 0) = false := by simp; omega
  have t2 : decide (200 < a1) = false := by simp; omega
  have t3 : (a1 == 0) = false := by rw [beq_eq_false_iff_ne]; omega
  have t4 : decide ((l0.length : Int) < 9) = true := by simp; omega
  have t5 : decide (l0.length < 9) = true := by simpa using h3
  go_enter Tryd.func56, Tryd.ntmps56
  go_wp2
  go_ret3
  exact ⟨_, rfl, Kd.R_nil _ _ _ _ _, Below.refl _ _⟩
 ·have t1 : decide (a1 < 0) = false := by simp; omega
  have t2 : decide (200 < a1) = false := by simp; omega
  have t3 : (a1 == 0) = false := by rw [beq_eq_false_iff_ne]; omega
  have t4 : decide ((l0.length : Int) < 9) = false := by simp; omega
  have t5 : decide (l0.length < 9) = false := by simp; omega
  have t6 : decide (64 < rd l0 8) = true := by simpa using h4
  have t7 : ((8 : Int) < (l0.length : Int)) = True := eq_true (by omega)
  have t8 : (8 < l0.length) = True := eq_true (by omega)
  have t9 : decide (8 < l0.length) = true := by simp; omega
  obtain ⟨ad, e, hx⟩ := Kd.at_int HR0.out 8 (by omega) (by omega)
  cases e
  have hx' : w.cell? ⟨ad.block, ad.off + 8, none⟩ = some (.int .u8 (rd l0 8)) := by simpa [Addr.add] using hx
  go_enter Tryd.func56, Tryd.ntmps56
  go_wp2
  go_ret3
  exact ⟨_, rfl, Kd.R_nil _ _ _ _ _, Below.refl _ _⟩
theorem pack_Get.outs_len (b : List Int) (lo : Int) (w i : Nat) : (pack_Get.outs b lo w i).length = i := by simp [pack_Get.outs]
theorem pack_Get.outs_succ (b : List Int) (lo : Int) (w i : Nat) : pack_Get.outs b lo w (i + 1) = pack_Get.outs b lo w i ++ [IntKind.u64.wrap (lo + gv b (72 + i * w) w)] := by
 simp [pack_Get.outs, List.range_succ]
theorem pack_Get.outs_ok (b : List Int) (lo : Int) (w i : Nat) : pack_Put.ok (pack_Get.outs b lo w i) = true := by
 refine List.all_eq_true.2 (fun x hx => ?_)
 obtain ⟨j, _, rfl⟩ := List.mem_map.1 hx
 rw [wrap_u64]
 simp; omega
/-- A round's head: i numbers are taken; the reader is right, or it is bad, and then there were too few bits. -/
def pack_Get.Rel (w1 : World) (g : Nat) (b : List Int) (lo : Int) (wn n : Nat) (i : Nat) (vo : Value) (wr : World) : Prop :=
 ∃ (a : Nat) (bad : Bool) (out : List Int), IsS75 w1 wr g b (a : Int) bad ∧ Below w1.heap.size w1 wr ∧ Kd.R (Kd.int .u64) 34 wr w1.heap.size (fun _ => True) vo out ∧ out.length = i ∧ a ≤ 8 * b.length ∧
  ((bad = false ∧ a = 72 + i * wn ∧ out = pack_Get.outs b lo wn i) ∨ (bad = true ∧ 8 * b.length < 72 + n * wn))
set_option maxHeartbeats 8000000 in
set_option maxRecDepth 100000 in
theorem pack_Get.calls_main (A0 : Option Addr) (c0 : Nat) (l0 : List Int) (n : Nat) (r1 : List Int) (r2 r3 : Int) (w : World) (hr0 : Kd.C (Kd.int .u8) w A0 l0.length l0) (hc0 : l0.length ≤ c0) (h1 : 0 < n) (h2 : n ≤ 200) (h9 : 9 ≤ l0.length) (h64 : rd l0 8 ≤ 64) (hb : Bs l0) (hl : l0.length < 1000000000)
  (h : (if 8 * l0.length < 72 + n * (rd l0 8).toNat then some ([], 0, 4) else (pack_Put.f (pack_Get.outs l0 (gv l0 0 64) (rd l0 8).toNat n)).bind fun p => (bytes_HasPrefix.f l0 p.1).bind fun t => if t = true then some (pack_Get.outs l0 (gv l0 0 64) (rd l0 8).toNat n, (p.1.length : Int), 0) else some ([], 0, 3)) = some (r1, r2, r3)) :
  Calls Tryd.prog 56 #[.slice A0 l0.length c0, .int .i64 (n : Int)] w (pack_Get.Three w.heap.size r1 r2 r3 w) := by
 have hrd : rd l0 8 = l0[8] := rd_get (i := 8) (by omega)
 obtain ⟨q0, q1⟩ := hb _ (List.getElem_mem (show 8 < l0.length by omega))
 have hwv : gv l0 64 8 = rd l0 8 := by rw [hrd]; exact gv_byte hb (q := 8) (by omega)
 rw [← hrd] at q0 q1
 have hlo := gv_range64 l0 0 (n := 64) (by omega)
 have T1 := Aside0.mk (take_good (m := 64) (at0 := 0) hb (by omega) (by omega) (by omega) (by simp; omega))
 have T2 := Aside0.mk (take_good (m := 8) (at0 := 64) hb (by omega) (by omega) (by omega) (by simp; omega))
 obtain ⟨lo, hlo1⟩ : ∃ lo, lo = gv l0 0 64 := ⟨_, rfl⟩
 obtain ⟨wv, hwv1⟩ : ∃ wv, wv = rd l0 8 := ⟨_, rfl⟩
 obtain ⟨nn, hnn⟩ : ∃ nn : Int, nn = (n : Int) := ⟨_, rfl⟩
 simp only [show (64 : Int).toNat = 64 from rfl, show (8 : Int).toNat = 8 from rfl, Nat.zero_add, Nat.reduceAdd] at T1 T2
 rw [← hlo1] at T1 h hlo
 rw [hwv] at T2
 rw [← hwv1] at T2 h q0 q1 h64
 replace T1 : Aside0 (bits_Reader_Take.f 65 l0 0 false 64 = some (lo, 64, false)) := ⟨T1.out⟩
 replace T2 : Aside0 (bits_Reader_Take.f 65 l0 64 false 8 = some (wv, 72, false)) := ⟨T2.out⟩
 have H := Aside0.mk h
 have HR0 := Aside0.mk hr0
 have HC0 := Aside0.mk hc0
 have HBS := Aside0.mk hb
 have t1 : decide (nn < 0) = false := by simp; omega
 have t2 : decide (200 < nn) = false := by simp; omega
 have t3 : (nn == 0) = false := by rw [beq_eq_false_iff_ne]; omega
 have t4 : decide ((l0.length : Int) < 9) = false := by simp; omega
 have t5 : decide (l0.length < 9) = false := by simp; omega
 have t6 : decide (64 < wv) = false := by simp; omega
 have t7 : ((8 : Int) < (l0.length : Int)) = True := eq_true (by omega)
 have t8 : (8 < l0.length) = True := eq_true (by omega)
 have t9 : decide (8 < l0.length) = true := by simp; omega
 have hwv2 : IntKind.i64.wrap wv = wv := by rw [IntKind.wrap_i64]; omega
 obtain ⟨ad, e, hx⟩ := Kd.at_int hr0 8 (by omega) (by omega)
 rw [← hwv1] at hx
 cases e
 have hx' : w.cell? ⟨ad.block, ad.off + 8, none⟩ = some (.int .u8 wv) := by simpa [Addr.add] using hx
 rw [← hnn]
 have HNN := Aside0.mk hnn
 clear hr0 hc0 hx hlo1 hwv1 hnn h hrd hwv hb
 go_enter Tryd.func56, Tryd.ntmps56
 go_wp2_with (first
  | (go_at_call 27; (with_reducible refine (new_calls _ _ l0 _ HR0.out HC0.out (by omega)).mono ?_); rintro e w2 ⟨g, w1, rfl, hb1, hs, hb2⟩; have HS0 := Aside0.mk hs; have HB1 := Aside0.mk hb1; have HB2 := Aside0.mk hb2; clear hb1 hs hb2)
  | (go_at_call 28; (with_reducible refine (bits_Reader_Take.calls 65 g l0 0 false 64 lo 64 false w1 w2 HS0.out HB2.out T1.out).mono ?_); rintro e w3 ⟨rfl, hs, hb2, hk⟩; have HS1 := Aside0.mk hs; have HB3 := Aside0.mk hb2; clear hs hb2 hk HS0 HB2)
  | (go_at_call 28; (with_reducible refine (bits_Reader_Take.calls 65 g l0 64 false 8 wv 72 false w1 w3 HS1.out HB3.out T2.out).mono ?_); rintro e w4 ⟨rfl, hs, hb2, hk⟩; have HS2 := Aside0.mk hs; have HB4 := Aside0.mk hb2; clear hs hb2 hk HS1 HB3))
 have HW : Aside0 (wv.toNat ≤ 64) := ⟨by omega⟩
 have HR : Aside0 (pack_Get.Rel w1 g l0 lo wv.toNat n 0 (.slice none 0 0) w4) := ⟨⟨72, false, [], HS2.out, HB4.out, Kd.R_nil _ _ _ _ _, rfl, by omega, .inl ⟨rfl, by omega, rfl⟩⟩⟩
 clear HS2 HB4 T1 T2 hx'
 go_loopw [10, 40] (fun v10 v40 wr => ∃ (i : Nat) (ii : Int), v40 = .int .i64 ii ∧ Aside0 (ii = (i : Int)) ∧ Aside0 (i ≤ n) ∧ Aside0 (pack_Get.Rel w1 g l0 lo wv.toNat n i v10 wr)) (fun _ v40 _ => (nn - intOf v40).toNat)
 case atStart => exact ⟨0, _, rfl, ⟨rfl⟩, ⟨Nat.zero_le _⟩, HR⟩
 case round =>
  clear HR t1 t2 t3 t4 t5 t6 t7 t8 t9 hwv2
  obtain ⟨i, ii, rfl, HI, HIL, HR⟩ := hrel
  obtain ⟨a, bad, out, hs, hbl, ho, hlen, ha, hst⟩ := HR.out
  have HS := Aside0.mk hs
  have HB := Aside0.mk hbl
  have HO := Aside0.mk ho
  have HST := Aside0.mk hst
  have HLEN := Aside0.mk hlen
  clear HR hs hbl ho hst hlen
  have hin := HI.out
  by_cases hlt : i < n
  ·have hi0 : 0 ≤ ii := by omega
   have hi1 : ii ≤ 200 := by omega
   have hi2 : decide (ii < nn) = true := by have := HNN.out; simp; omega
   obtain ⟨tv, a1, bad1, hT, tv0, tv1, ha1, hst1⟩ := take_any (at0 := a) (bad := bad) (m := wv) HBS.out (by omega) ha q0 h64
   obtain ⟨ai, hai⟩ : ∃ ai : Int, ai = (a : Int) := ⟨_, rfl⟩
   obtain ⟨ai1, hai1⟩ : ∃ ai1 : Int, ai1 = (a1 : Int) := ⟨_, rfl⟩
   obtain ⟨sv, hsv⟩ : ∃ sv : Int, sv = IntKind.u64.wrap (lo + tv) := ⟨_, rfl⟩
   have hsv1 : IntKind.u64.wrap (lo + tv) = sv := hsv.symm
   rw [← hai] at hT HS
   rw [← hai1] at hT
   have HT := Aside0.mk hT
   have HA := Aside0.mk hai
   have HA1 := Aside0.mk hai1
   have HSV := Aside0.mk hsv
   have HST1 := Aside0.mk hst1
   clear hT hai hai1 hsv hst1 hin
   go_wp2_with (first
    | (go_at_call 28; (with_reducible refine (bits_Reader_Take.calls 65 g l0 ai bad wv tv ai1 bad1 w1 wr HS.out HB.out HT.out).mono ?_); rintro e w5 ⟨rfl, hs, hb2, hk⟩; have HS5 := Aside0.mk hs; have HB5 := Aside0.mk hb2; have HO5 := Aside0.mk (Kd.R_mono (ok' := fun _ => True) (Kd.R_keep (HS.out.apart HO.out (by decide)) hk (fun _ h => h.2)) (fun _ _ => trivial)); clear hs hb2 hk HS HB HO)
    | ((with_reducible refine gate_builtin (b := .append) (xs := #[.tmp 42, .tmp 48]) rfl ?_); at_builtin; refine Kd.R_append (Kd.int .u64) (w0 := w1) w1.heap.size rfl (.tmp 42) (.tmp 48) 22 34 (.int .u64 0) 8 rfl Tryd.underlying22 info34 rfl (by decide) (by omega) u10 out sv [.int .u64 sv] (fun _ => True) (fun _ => False) rfl rfl ?aP (fun _ hk => hk.elim) ?aF ?aO ?aB ?aS ?aL ?_; (case aP => exact rfl); (case aB => exact HB5.out); (case aF => exact (fun _ _ => trivial)); (case aO => exact HO5.out); (case aS => exact (below_size HB5.out)); (case aL => have := HLEN.out; omega); intro v6 w6 ho hb hg hat; have HO6 := Aside0.mk ho; have HB6 := Aside0.mk hb; have HS6 := Aside0.mk (HS5.out.grown hg (HS5.out.own_ne HO5.out (by decide))); clear ho hb hg hat HS5 HB5 HO5))
   go_roundw
   case rel => exact ⟨i + 1, _, rfl, ⟨by have := HI.out; omega⟩, ⟨hlt⟩, ⟨a1, bad1, out ++ [sv], by have := HS6.out; rw [HA1.out] at this; exact this, HB6.out, HO6.out, by have := HLEN.out; simp; omega, ha1, by
     have hw := HW.out
     rcases HST1.out with ⟨b1, b2, b3, b4⟩ | ⟨b1, b2, b3, b4, b5⟩ | ⟨b1, b2, b3, b4, b5⟩
     ·rcases HST.out with ⟨s1, s2, s3⟩ | ⟨s1, s2⟩
      ·rw [s1] at b1; cases b1
      ·exact .inr ⟨b2, s2⟩
     ·rcases HST.out with ⟨s1, s2, s3⟩ | ⟨s1, s2⟩
      ·refine .inl ⟨b2, ?_, ?_⟩
       ·rw [b4, s2, Nat.succ_mul]; omega
       ·rw [pack_Get.outs_succ, HSV.out, b5, s3, s2]
      ·rw [s1] at b1; cases b1
     ·rcases HST.out with ⟨s1, s2, s3⟩ | ⟨s1, s2⟩
      ·refine .inr ⟨b2, ?_⟩
       have : (i + 1) * wv.toNat ≤ n * wv.toNat := Nat.mul_le_mul_right _ hlt
       rw [Nat.succ_mul] at this
       omega
      ·rw [s1] at b1; cases b1⟩⟩
   case measure => simp [intOf]; have := HI.out; have := HNN.out; omega
  ·have hi2 : decide (ii < nn) = false := by have := HNN.out; simp; omega
   have hil : i = n := by have := HIL.out; omega
   subst hil
   obtain ⟨ai, hai⟩ : ∃ ai : Int, ai = (a : Int) := ⟨_, rfl⟩
   rw [← hai] at HS
   clear hai hin
   cases bad with
   | true =>
    have hsh : 8 * l0.length < 72 + i * wv.toNat := by
     rcases HST.out with ⟨s1, _⟩ | ⟨_, s2⟩
     ·cases s1
     ·exact s2
    have hH := H.out
    rw [if_pos hsh] at hH
    injection hH with hH; injection hH with e1 e2; injection e2 with e2 e3; subst e1; subst e2; subst e3
    clear hsh H
    have HBD : Aside0 (bits_Reader_Bad.f l0 ai true = some (true, ai, true)) := ⟨rfl⟩
    go_wp2_with (go_at_call 30; (with_reducible refine (bits_Reader_Bad.calls g l0 ai true true ai true w1 wr HS.out HB.out HBD.out).mono ?_); rintro e w5 ⟨rfl, hs, hb2, hk⟩; have HB5 := Aside0.mk hb2; clear hs hb2 hk)
    go_ret3
    exact ⟨_, rfl, Kd.R_nil _ _ _ _ _, below_step HB1.out HB5.out⟩
   | false =>
    have hst := HST.out
    obtain ⟨s2, s3⟩ : a = 72 + i * wv.toNat ∧ out = pack_Get.outs l0 lo wv.toNat i := by
     rcases hst with ⟨_, s2, s3⟩ | ⟨s1, _⟩
     ·exact ⟨s2, s3⟩
     ·cases s1
    have hH := H.out
    rw [if_neg (by omega), ← s3] at hH
    have hlen := HLEN.out
    have hok : pack_Put.ok out = true := by rw [s3]; exact pack_Get.outs_ok _ _ _ _
    obtain ⟨ag, hag⟩ : ∃ ag, ag = packB (pack_Put.bits out) := ⟨_, rfl⟩
    have hput : pack_Put.f out = some (ag, 0) := by
     unfold pack_Put.f
     rw [if_neg (by omega), if_neg (by omega), if_pos hok, hag]
    rw [hput, Option.bind_some] at hH
    obtain ⟨t, hp, hH⟩ := Option.bind_eq_some_iff.1 hH
    replace hp : bytes_HasPrefix.f l0 ag = some t := hp
    replace hH : (if t = true then some (out, (ag.length : Int), (0 : Int)) else some ([], 0, 3)) = some (r1, r2, r3) := hH
    obtain ⟨A, c, rfl, hc, hr⟩ := Kd.R_reads HO.out
    have HRO := Aside0.mk hr
    have HCO := Aside0.mk hc
    have HPUT := Aside0.mk hput
    have HHP := Aside0.mk hp
    have HH := Aside0.mk hH
    have HBD : Aside0 (bits_Reader_Bad.f l0 ai false = some (false, ai, false)) := ⟨rfl⟩
    clear hst s2 s3 hH hlen hok hag hput hp hc hr HST HLEN H ha
    cases t <;> (
    go_wp2_with (first
     | (go_at_call 30; (with_reducible refine (bits_Reader_Bad.calls g l0 ai false false ai false w1 wr HS.out HB.out HBD.out).mono ?_); rintro e w5 ⟨rfl, hs, hb2, hk⟩; have HB5 := Aside0.mk hb2; have HO5 := Aside0.mk (Kd.R_mono (ok' := fun _ => True) (Kd.R_keep (HS.out.apart HO.out (by decide)) hk (fun _ h => h.2)) (fun _ _ => trivial)); clear hs hb2 hk HS HB HO HRO)
     | (go_at_call 51; (with_reducible refine (pack_Put.calls _ _ out ag 0 _ (Kd.R_reads' HO5.out).2.2 HCO.out HPUT.out).mono ?_); rintro e w6 ⟨v6, rfl, hR, hB⟩; obtain ⟨A2, c2, rfl, hc2, hr2⟩ := Kd.R_reads hR; have HC6 := Aside0.mk hc2; have HR6 := Aside0.mk hr2; have HO6 := Aside0.mk (Kd.R_below HO5.out hB); have HB6 := Aside0.mk (below_step HB1.out (below_step HB5.out hB)); clear hR hB hc2 hr2 HO5 HB5)
     | (go_at_call 31; (with_reducible refine (bytes_HasPrefix.calls _ _ l0 _ _ ag _ _ (Kd.C_below HR0.out HB6.out) HC0.out HR6.out HC6.out HHP.out).mono ?_); rintro e w7 ⟨rfl, hdr⟩; have HO7 := Aside0.mk (Kd.R_below HO6.out (Drawn0.below hdr)); have HB7 := Aside0.mk (below_step HB6.out (Drawn0.below hdr)); clear hdr HO6 HB6))
    go_ret3)
    ·have e := HH.out
     simp only [Bool.false_eq_true, if_false] at e
     injection e with e; injection e with e1 e2; injection e2 with e2 e3; subst e1; subst e2; subst e3
     exact ⟨_, rfl, Kd.R_nil _ _ _ _ _, HB7.out⟩
    ·have e := HH.out
     simp only [if_true] at e
     injection e with e; injection e with e1 e2; injection e2 with e2 e3; subst e2; subst e3
     rw [← e1]
     exact ⟨_, rfl, Kd.R_lower HO7.out HB1.out.size, HB7.out⟩
theorem pack_Get.calls (A0 : Option Addr) (c0 : Nat) (l0 : List Int) (a1 : Int) (r1 : List Int) (r2 : Int) (r3 : Int) (w : World) (hr0 : Kd.C (Kd.int .u8) w A0 l0.length l0) (hc0 : l0.length ≤ c0) (h : pack_Get.f l0 a1 = some (r1, r2, r3)) :
  Calls Tryd.prog 56 #[.slice A0 l0.length c0, .int .i64 a1] w fun e w' => ∃ v0_ : Value, e = .returned (.tuple #[v0_, .int .i64 r2, .int .i64 r3]) ∧ Kd.R (Kd.int .u64) 34 w' w.heap.size (fun _ => True) v0_ r1 ∧ Below w.heap.size w w' := by
 unfold pack_Get.f at h
 by_cases h1 : a1 < 0 ∨ 200 < a1
 ·rw [if_pos h1] at h; injection h with h; injection h with e1 e2; injection e2 with e2 e3; subst e1; subst e2; subst e3
  exact pack_Get.calls_early A0 c0 l0 a1 1 w hr0 (.inl ⟨h1, rfl⟩)
 rw [if_neg h1] at h
 by_cases h2 : a1 = 0
 ·rw [if_pos h2] at h; injection h with h; injection h with e1 e2; injection e2 with e2 e3; subst e1; subst e2; subst e3
  exact pack_Get.calls_early A0 c0 l0 a1 0 w hr0 (.inr (.inl ⟨h2, rfl⟩))
 rw [if_neg h2] at h
 by_cases h3 : l0.length < 9
 ·rw [if_pos h3] at h; injection h with h; injection h with e1 e2; injection e2 with e2 e3; subst e1; subst e2; subst e3
  exact pack_Get.calls_early A0 c0 l0 a1 4 w hr0 (.inr (.inr (.inl ⟨by omega, by omega, h3, rfl⟩)))
 rw [if_neg h3] at h
 by_cases h4 : 64 < rd l0 8
 ·rw [if_pos h4] at h; injection h with h; injection h with e1 e2; injection e2 with e2 e3; subst e1; subst e2; subst e3
  exact pack_Get.calls_early A0 c0 l0 a1 3 w hr0 (.inr (.inr (.inr ⟨by omega, by omega, by omega, h4, rfl⟩)))
 rw [if_neg h4] at h
 by_cases h5 : okB l0 = true
 ·rw [if_pos h5] at h
  obtain ⟨k1, k2⟩ := okB_bs h5
  obtain ⟨n, rfl⟩ := Int.eq_ofNat_of_zero_le (show 0 ≤ a1 by omega)
  rw [Int.toNat_natCast] at h
  exact pack_Get.calls_main A0 c0 l0 n r1 r2 r3 w hr0 hc0 (by omega) (by omega) (by omega) (by omega) k1 k2 h
 ·rw [if_neg h5] at h; cases h

end Go.Proofs.YtmlbppfcpejlpaaDoor.X

namespace Go.Proofs.YtmlbppfcpejlpaaDoor.X
open Go.RowKit Go.Proofs.YtmlbppfcpejlpaaDoorW.PrintWords Go.Proofs.YtmlbppfcpejlpaaDoorW.PrintLast Go.Proofs.YtmlbppfcpejlpaaDoorW.PrintMore
attribute [local go_sem] max2_int min2_int max_two min_two max_three min_three max_four min_four   -- for this text's walks alone
set_option linter.unusedVariables false
set_option linter.unusedSimpArgs false

/-! ### varint_Get: function 72 -/
mutual
def varint_Get.l0 : Nat → Int → List Int → Int → Int → Option (Int × Int × Int)
 | 0, _, _, _, _ => none
 | k + 1, x5, x8, x9, x10 => if x10 < x9 then (if 0 ≤ x10 then (if x10 < (x8.length : Int) then (if x10 = 10 then (varint_Get.j1 k x5 x10 (rd x8 x10) x8 x9 x10 true) else (if x10 = 9 then (varint_Get.j1 k x5 x10 (rd x8 x10) x8 x9 x10 (decide ((rd x8 x10) > 1))) else (varint_Get.j1 k x5 x10 (rd x8 x10) x8 x9 x10 false))) else (none)) else (none)) else (some (0, 0, 4))
def varint_Get.j1 : Nat → Int → Int → Int → List Int → Int → Int → Bool → Option (Int × Int × Int)
 | 0, _, _, _, _, _, _, _ => none
 | k + 1, x5, x6, x7, x8, x9, x10, x24 => if x24 = true then (some (0, 0, 3)) else (if 0 ≤ (wrap64 (7 * x6)) then (if (Go.bits .and .u8 x7 128) = 0 then (if x7 = 0 then (if x6 > 0 then (some (0, 0, 3)) else (some (Go.bits .or .u64 x5 (shl .u64 (IntKind.u64.wrap (Go.bits .andNot .u8 x7 128)) (wrap64 (7 * x6))), wrap64 (x6 + 1), 0))) else (some (Go.bits .or .u64 x5 (shl .u64 (IntKind.u64.wrap (Go.bits .andNot .u8 x7 128)) (wrap64 (7 * x6))), wrap64 (x6 + 1), 0))) else (varint_Get.l0 k (Go.bits .or .u64 x5 (shl .u64 (IntKind.u64.wrap (Go.bits .andNot .u8 x7 128)) (wrap64 (7 * x6)))) x8 x9 (wrap64 (x10 + 1)))) else (none))
end
def varint_Get.f (k : Nat) (l0 : List Int) : Option (Int × Int × Int) := varint_Get.l0 k 0 l0 (l0.length : Int) 0
theorem varint_Get.mono_l : ∀ k, (∀ y0 y1 y2 y3, LeO (varint_Get.l0 k y0 y1 y2 y3) (varint_Get.l0 (k + 1) y0 y1 y2 y3)) ∧ (∀ y0 y1 y2 y3 y4 y5 y6, LeO (varint_Get.j1 k y0 y1 y2 y3 y4 y5 y6) (varint_Get.j1 (k + 1) y0 y1 y2 y3 y4 y5 y6))
 | 0 => ⟨fun _ _ _ _ r h => by simp [varint_Get.l0] at h, fun _ _ _ _ _ _ _ r h => by simp [varint_Get.j1] at h⟩
 | k + 1 => by
  obtain ⟨ih0, ih1⟩ := varint_Get.mono_l k
  refine ⟨?_, ?_⟩
  ·intro y0 y1 y2 y3
   unfold varint_Get.l0
   repeat' first
   | (with_reducible exact ih0 _ _ _ _)
   | (with_reducible exact ih1 _ _ _ _ _ _ _)
   | (with_reducible exact LeO.refl _)
   | (with_reducible exact LeO.none _)
   | (with_reducible refine LeO.ite ?_ ?_)
   | (with_reducible refine LeO.bind ?_ (fun _ => ?_))
   | exact ih0 _ _ _ _
   | exact ih1 _ _ _ _ _ _ _
   | exact LeO.none _
   | refine LeO.ite ?_ ?_
   | refine LeO.bind ?_ (fun _ => ?_)
  ·intro y0 y1 y2 y3 y4 y5 y6
   unfold varint_Get.j1
   repeat' first
   | (with_reducible exact ih0 _ _ _ _)
   | (with_reducible exact ih1 _ _ _ _ _ _ _)
   | (with_reducible exact LeO.refl _)
   | (with_reducible exact LeO.none _)
   | (with_reducible refine LeO.ite ?_ ?_)
   | (with_reducible refine LeO.bind ?_ (fun _ => ?_))
   | exact ih0 _ _ _ _
   | exact ih1 _ _ _ _ _ _ _
   | exact LeO.none _
   | refine LeO.ite ?_ ?_
   | refine LeO.bind ?_ (fun _ => ?_)
theorem varint_Get.mono : ∀ a0 k, LeO (varint_Get.f k a0) (varint_Get.f (k + 1) a0) := by
 intro a0 k
 obtain ⟨ih0, ih1⟩ := varint_Get.mono_l k
 unfold varint_Get.f
 repeat' first
   | (with_reducible exact ih0 _ _ _ _)
   | (with_reducible exact ih1 _ _ _ _ _ _ _)
   | (with_reducible exact LeO.refl _)
   | (with_reducible exact LeO.none _)
   | (with_reducible refine LeO.ite ?_ ?_)
   | (with_reducible refine LeO.bind ?_ (fun _ => ?_))
   | exact ih0 _ _ _ _
   | exact ih1 _ _ _ _ _ _ _
   | exact LeO.none _
   | refine LeO.ite ?_ ?_
   | refine LeO.bind ?_ (fun _ => ?_)
set_option maxHeartbeats 8000000 in
set_option maxRecDepth 100000 in
theorem varint_Get.calls (k : Nat) (A0 : Option Addr) (c0 : Nat) (l0 : List Int) (r1 : Int) (r2 : Int) (r3 : Int) (w : World) (hr0 : Kd.C (Kd.int .u8) w A0 l0.length l0) (hc0 : l0.length ≤ c0) (h : varint_Get.f k l0 = some (r1, r2, r3)) :
  Calls Tryd.prog 72 #[.slice A0 l0.length c0] w fun e w' => e = .returned (.tuple #[.int .u64 r1, .int .i64 r2, .int .i64 r3]) ∧ Drawn0 w w' := by
 have HR0 := Aside0.mk hr0
 have HC0 := Aside0.mk hc0
 clear hr0 hc0
 have H : (varint_Get.l0 k 0 l0 (l0.length : Int) 0) = some (r1, r2, r3) := h
 clear h
 have H' := Aside0.mk H
 clear H
 go_enter Tryd.func72, Tryd.ntmps72
 go_wp2
 go_loopg [5, 10] k (fun kq v5 v10 w' => ∃ (x5_1 : Int) (x10_1 : Int), v5 = .int .u64 x5_1 ∧ v10 = .int .i64 x10_1 ∧ Aside0 (varint_Get.l0 kq x5_1 l0 (l0.length : Int) x10_1 = some (r1, r2, r3)) ∧ Aside0 (kq ≤ k) ∧ Drawn0 w w')
 case atStart => exact ⟨(0), (0), (by first | rfl | (simp; done) | (simp [*]; done)), (by first | rfl | (simp; done) | (simp [*]; done)), H', ⟨Nat.le_refl _⟩, by repeat (first | exact Drawn0.refl _ | apply Drawn0.step)⟩
 case round =>
  clear H'
  obtain ⟨x5_1, x10_1, rfl, rfl, HA, HK1, ⟨m1, rfl⟩⟩ := hrel
  cases gk with
  | zero => exact absurd HA.out (by simp [varint_Get.l0])
  | succ k1 =>
   have H := HA.out
   clear HA
   simp only [varint_Get.l0] at H
   by_cases c2 : x10_1 < (l0.length : Int)
   ·rw [if_pos c2] at H
    have c2b0 : decide (x10_1 < (l0.length : Int)) = true := decide_eq_true c2
    clear c2
    by_cases c3 : 0 ≤ x10_1
    ·rw [if_pos c3] at H
     have c3b0 : decide (0 ≤ x10_1) = true := decide_eq_true c3
     clear c3
     by_cases c4 : x10_1 < (l0.length : Int)
     ·rw [if_pos c4] at H
      have c4b0 : decide (x10_1 < (l0.length : Int)) = true := decide_eq_true c4
      clear c4
      have HC5 := Aside0.mk H
      clear H
      have p381 : 0 ≤ (x10_1 : Int) := of_decide_eq_true (by first | (with_reducible assumption) | assumption)
      have q381 : x10_1 < (l0.length : Int) := of_decide_eq_true (by first | (with_reducible assumption) | assumption)
      obtain ⟨ad381, e381, hx381_0⟩ := Kd.at_int HR0.out x10_1 p381 q381
      cases e381
      replace p381 := eq_true p381
      replace q381 := eq_true q381
      go_upto_region 5 with (fail)
      go_cut [24] (fun v24 wc => ∃ (kq : Nat) (x24_4 : Bool), v24 = .bool x24_4 ∧ Aside0 (varint_Get.j1 kq x5_1 x10_1 (rd l0 x10_1) l0 (l0.length : Int) x10_1 x24_4 = some (r1, r2, r3)) ∧ Aside0 (kq ≤ k1) ∧ Drawn0 w wc)
      case first =>
       have H := HC5.out
       clear HC5
       by_cases c6 : x10_1 = 10
       ·rw [if_pos c6] at H
        have c6b0 : (x10_1 == 10) = true := beq_iff_eq.mpr c6
        have c6b1 : (x10_1 != 10) = false := bne_eq_false_iff_eq.mpr c6
        clear c6
        (first | rw [c6b0] | (simp only [i64_w, i32_w]; rw [c6b0]) | skip)
        have H' := Aside0.mk H
        clear H
        go_wp2
        go_meet
        case rel => exact ⟨_, (true), (by first | rfl | (simp; done) | (simp [*]; done)), H', ⟨by have := HK1.out; first | omega | exact Nat.le_refl _⟩, by repeat (first | exact Drawn0.refl _ | apply Drawn0.step)⟩
       ·rw [if_neg c6] at H
        have c6b0 : (x10_1 == 10) = false := beq_eq_false_iff_ne.mpr c6
        have c6b1 : (x10_1 != 10) = true := bne_iff_ne.mpr c6
        (first | rw [c6b0] | (simp only [i64_w, i32_w]; rw [c6b0]) | skip)
        by_cases c7 : x10_1 = 9
        ·rw [if_pos c7] at H
         have c7b0 : (x10_1 == 9) = true := beq_iff_eq.mpr c7
         have c7b1 : (x10_1 != 9) = false := bne_eq_false_iff_eq.mpr c7
         clear c7
         have H' := Aside0.mk H
         clear H
         go_wp2
         go_meet
         case rel => exact ⟨_, (decide ((rd l0 x10_1) > 1)), (by first | rfl | (simp; done) | (simp [*]; done)), H', ⟨by have := HK1.out; first | omega | exact Nat.le_refl _⟩, by repeat (first | exact Drawn0.refl _ | apply Drawn0.step)⟩
        ·rw [if_neg c7] at H
         have c7b0 : (x10_1 == 9) = false := beq_eq_false_iff_ne.mpr c7
         have c7b1 : (x10_1 != 9) = true := bne_iff_ne.mpr c7
         have H' := Aside0.mk H
         clear H
         go_wp2
         go_meet
         case rel => exact ⟨_, (false), (by first | rfl | (simp; done) | (simp [*]; done)), H', ⟨by have := HK1.out; first | omega | exact Nat.le_refl _⟩, by repeat (first | exact Drawn0.refl _ | apply Drawn0.step)⟩
      case rest =>
       clear HC5
       (try clear c2);(try clear c2b0);(try clear p2);(try clear c3);(try clear c3b0);(try clear p3);(try clear q3);(try clear hx3);(try clear c4);(try clear c4b0);(try clear c6);(try clear c6b0);(try clear c6b1);(try clear c7);(try clear c7b0);(try clear c7b1);(try clear hx381_0);(try clear p381);(try clear q381)
       obtain ⟨kq, x24_4, rfl, HA, HJ4, ⟨mc4, rfl⟩⟩ := hcut
       cases kq with
       | zero => exact absurd HA.out (by simp [varint_Get.j1])
       | succ kj4 =>
        have H := HA.out
        clear HA
        simp only [varint_Get.j1] at H
        by_cases c8 : x24_4 = true
        ·subst c8
         have H1 : (some (0, 0, 3)) = some (r1, r2, r3) := by rw [if_pos rfl] at H; exact H
         clear H
         have H := H1
         clear H1
         simp only [Option.some.injEq, Prod.mk.injEq] at H
         obtain ⟨rfl, rfl, rfl⟩ := H
         go_wp2
         go_ret3
         exact ⟨by first | rfl | (simp; done) | (simp [*]; done), by repeat (first | exact Drawn0.refl _ | apply Drawn0.step)⟩
        ·replace c8 := Bool.eq_false_iff.mpr c8
         subst c8
         have H1 : (if 0 ≤ (wrap64 (7 * x10_1)) then (if (Go.bits .and .u8 (rd l0 x10_1) 128) = 0 then (if (rd l0 x10_1) = 0 then (if x10_1 > 0 then (some (0, 0, 3)) else (some (Go.bits .or .u64 x5_1 (shl .u64 (IntKind.u64.wrap (Go.bits .andNot .u8 (rd l0 x10_1) 128)) (wrap64 (7 * x10_1))), wrap64 (x10_1 + 1), 0))) else (some (Go.bits .or .u64 x5_1 (shl .u64 (IntKind.u64.wrap (Go.bits .andNot .u8 (rd l0 x10_1) 128)) (wrap64 (7 * x10_1))), wrap64 (x10_1 + 1), 0))) else (varint_Get.l0 kj4 (Go.bits .or .u64 x5_1 (shl .u64 (IntKind.u64.wrap (Go.bits .andNot .u8 (rd l0 x10_1) 128)) (wrap64 (7 * x10_1)))) l0 (l0.length : Int) (wrap64 (x10_1 + 1)))) else (none)) = some (r1, r2, r3) := by rw [if_neg (show ¬ (false = true) by decide)] at H; exact H
         clear H
         have H := H1
         clear H1
         obtain ⟨ji9, hji9⟩ : ∃ j_ : Int, (wrap64 (7 * x10_1)) = j_ := ⟨_, rfl⟩
         replace H : (if 0 ≤ (ji9) then (if (Go.bits .and .u8 (rd l0 x10_1) 128) = 0 then (if (rd l0 x10_1) = 0 then (if x10_1 > 0 then (some (0, 0, 3)) else (some (Go.bits .or .u64 x5_1 (shl .u64 (IntKind.u64.wrap (Go.bits .andNot .u8 (rd l0 x10_1) 128)) (ji9)), wrap64 (x10_1 + 1), 0))) else (some (Go.bits .or .u64 x5_1 (shl .u64 (IntKind.u64.wrap (Go.bits .andNot .u8 (rd l0 x10_1) 128)) (ji9)), wrap64 (x10_1 + 1), 0))) else (varint_Get.l0 kj4 (Go.bits .or .u64 x5_1 (shl .u64 (IntKind.u64.wrap (Go.bits .andNot .u8 (rd l0 x10_1) 128)) (ji9))) l0 (l0.length : Int) (wrap64 (x10_1 + 1)))) else (none)) = some (r1, r2, r3) := by first | (rw [hji9] at H; exact H) | (simp only [hji9] at H ⊢; exact H)
         have hji9w : (IntKind.i64.wrap (7 * x10_1)) = ji9 := (i64_w _).trans hji9
         by_cases c10 : 0 ≤ (ji9)
         ·rw [if_pos c10] at H
          have c10b0 := eq_true c10
          have c10b1 : decide (0 ≤ (ji9)) = true := decide_eq_true c10
          clear c10
          obtain ⟨ji11, hji11⟩ : ∃ j_ : Int, (shl .u64 (IntKind.u64.wrap (Go.bits .andNot .u8 (rd l0 x10_1) 128)) (ji9)) = j_ := ⟨_, rfl⟩
          replace H : (if (Go.bits .and .u8 (rd l0 x10_1) 128) = 0 then (if (rd l0 x10_1) = 0 then (if x10_1 > 0 then (some (0, 0, 3)) else (some (Go.bits .or .u64 x5_1 (ji11), wrap64 (x10_1 + 1), 0))) else (some (Go.bits .or .u64 x5_1 (ji11), wrap64 (x10_1 + 1), 0))) else (varint_Get.l0 kj4 (Go.bits .or .u64 x5_1 (ji11)) l0 (l0.length : Int) (wrap64 (x10_1 + 1)))) = some (r1, r2, r3) := by first | (rw [hji11] at H; exact H) | (simp only [hji11] at H ⊢; exact H)
          have hji11_ : (IntKind.u64.wrap ((IntKind.u64.wrap (Go.bits .andNot .u8 (rd l0 x10_1) 128)) * 2 ^ min (ji9).toNat 64)) = ji11 := hji11
          have hji11z : (ji9) ≤ 64 → (IntKind.u64.wrap ((IntKind.u64.wrap (Go.bits .andNot .u8 (rd l0 x10_1) 128)) * 2 ^ (ji9).toNat)) = ji11 := shl_small hji11
          by_cases c12 : (Go.bits .and .u8 (rd l0 x10_1) 128) = 0
          ·rw [if_pos c12] at H
           have c12b0 : ((Go.bits .and .u8 (rd l0 x10_1) 128) == 0) = true := beq_iff_eq.mpr c12
           have c12b1 : ((Go.bits .and .u8 (rd l0 x10_1) 128) != 0) = false := bne_eq_false_iff_eq.mpr c12
           clear c12
           by_cases c13 : (rd l0 x10_1) = 0
           ·rw [if_pos c13] at H
            have c13b0 : ((rd l0 x10_1) == 0) = true := beq_iff_eq.mpr c13
            have c13b1 : ((rd l0 x10_1) != 0) = false := bne_eq_false_iff_eq.mpr c13
            clear c13
            by_cases c14 : x10_1 > 0
            ·rw [if_pos c14] at H
             have c14b0 : decide (0 < x10_1) = true := decide_eq_true c14
             clear c14
             simp only [Option.some.injEq, Prod.mk.injEq] at H
             obtain ⟨rfl, rfl, rfl⟩ := H
             go_wp2
             go_ret3
             exact ⟨by first | rfl | (simp; done) | (simp only [← hji9, ← hji11] <;> (first | rfl | simp)) | (simp [*]; done), by repeat (first | exact Drawn0.refl _ | apply Drawn0.step)⟩
            ·rw [if_neg c14] at H
             have c14b0 : decide (0 < x10_1) = false := decide_eq_false c14
             clear c14
             simp only [Option.some.injEq, Prod.mk.injEq] at H
             obtain ⟨rfl, rfl, rfl⟩ := H
             go_wp2
             go_ret3
             exact ⟨by first | rfl | (simp; done) | (simp only [← hji9, ← hji11] <;> (first | rfl | simp)) | (simp [*]; done), by repeat (first | exact Drawn0.refl _ | apply Drawn0.step)⟩
           ·rw [if_neg c13] at H
            have c13b0 : ((rd l0 x10_1) == 0) = false := beq_eq_false_iff_ne.mpr c13
            have c13b1 : ((rd l0 x10_1) != 0) = true := bne_iff_ne.mpr c13
            simp only [Option.some.injEq, Prod.mk.injEq] at H
            obtain ⟨rfl, rfl, rfl⟩ := H
            go_wp2
            go_ret3
            exact ⟨by first | rfl | (simp; done) | (simp only [← hji9, ← hji11] <;> (first | rfl | simp)) | (simp [*]; done), by repeat (first | exact Drawn0.refl _ | apply Drawn0.step)⟩
          ·rw [if_neg c12] at H
           have c12b0 : ((Go.bits .and .u8 (rd l0 x10_1) 128) == 0) = false := beq_eq_false_iff_ne.mpr c12
           have c12b1 : ((Go.bits .and .u8 (rd l0 x10_1) 128) != 0) = true := bne_iff_ne.mpr c12
           have H' := Aside0.mk H
           clear H
           go_wp2
           go_roundg kj4
           case measure => have := HK1.out; have := HJ4.out; omega
           case rel => exact ⟨(Go.bits .or .u64 x5_1 (ji11)), (wrap64 (x10_1 + 1)), (by first | rfl | (simp; done) | (simp only [← hji11] <;> (first | rfl | simp)) | (simp [*]; done)), (by first | rfl | (simp; done) | (simp [*]; done)), H', ⟨by have := HK1.out; have := HJ4.out; omega⟩, by repeat (first | exact Drawn0.refl _ | apply Drawn0.step)⟩
         ·rw [if_neg c10] at H
          exact absurd H (by simp)
     ·rw [if_neg c4] at H
      exact absurd H (by simp)
    ·rw [if_neg c3] at H
     exact absurd H (by simp)
   ·rw [if_neg c2] at H
    have c2b0 : decide (x10_1 < (l0.length : Int)) = false := decide_eq_false c2
    clear c2
    simp only [Option.some.injEq, Prod.mk.injEq] at H
    obtain ⟨rfl, rfl, rfl⟩ := H
    go_wp2
    go_ret3
    exact ⟨by first | rfl | (simp; done) | (simp [*]; done), by repeat (first | exact Drawn0.refl _ | apply Drawn0.step)⟩


/-! ### runs_pair: function 67 -/
def runs_pair.f (k : Nat) (l0 : List Int) : Option (Int × Int × Int × Int) := (varint_Get.f k l0).bind fun bt454 => (if bt454.2.2 = 0 then (if 0 ≤ bt454.2.1 then (if bt454.2.1 ≤ (l0.length : Int) then ((varint_Get.f k (l0.drop (bt454.2.1 : Int).toNat)).bind fun bt458 => (some (bt454.1, bt458.1, wrap64 (bt454.2.1 + bt458.2.1), bt458.2.2))) else (none)) else (none)) else (some (0, 0, 0, bt454.2.2)))
theorem runs_pair.mono : ∀ a0 k, LeO (runs_pair.f k a0) (runs_pair.f (k + 1) a0) := by
 intro a0 k
 unfold runs_pair.f
 repeat' first
   | (with_reducible exact varint_Get.mono _ _)
   | (with_reducible exact LeO.refl _)
   | (with_reducible exact LeO.none _)
   | (with_reducible refine LeO.ite ?_ ?_)
   | (with_reducible refine LeO.bind ?_ (fun _ => ?_))
   | exact varint_Get.mono _ _
   | exact LeO.none _
   | refine LeO.ite ?_ ?_
   | refine LeO.bind ?_ (fun _ => ?_)
set_option maxHeartbeats 8000000 in
set_option maxRecDepth 100000 in
theorem runs_pair.calls (k : Nat) (A0 : Option Addr) (c0 : Nat) (l0 : List Int) (r1 : Int) (r2 : Int) (r3 : Int) (r4 : Int) (w : World) (hr0 : Kd.C (Kd.int .u8) w A0 l0.length l0) (hc0 : l0.length ≤ c0) (h : runs_pair.f k l0 = some (r1, r2, r3, r4)) :
  Calls Tryd.prog 67 #[.slice A0 l0.length c0] w fun e w' => e = .returned (.tuple #[.int .u64 r1, .int .u64 r2, .int .i64 r3, .int .i64 r4]) ∧ Drawn0 w w' := by
 have HR0 := Aside0.mk hr0
 have HC0 := Aside0.mk hc0
 clear hr0 hc0
 have H : ((varint_Get.f k l0).bind fun bt454 => (if bt454.2.2 = 0 then (if 0 ≤ bt454.2.1 then (if bt454.2.1 ≤ (l0.length : Int) then ((varint_Get.f k (l0.drop (bt454.2.1 : Int).toNat)).bind fun bt458 => (some (bt454.1, bt458.1, wrap64 (bt454.2.1 + bt458.2.1), bt458.2.2))) else (none)) else (none)) else (some (0, 0, 0, bt454.2.2)))) = some (r1, r2, r3, r4) := h
 clear h
 replace H := Option.bind_eq_some_iff.mp H
 obtain ⟨⟨t454, t455, t456⟩, A20, H⟩ := H
 replace H : (if t456 = 0 then (if 0 ≤ t455 then (if t455 ≤ (l0.length : Int) then ((varint_Get.f k (l0.drop (t455 : Int).toNat)).bind fun bt458 => (some (t454, bt458.1, wrap64 (t455 + bt458.2.1), bt458.2.2))) else (none)) else (none)) else (some (0, 0, 0, t456))) = some (r1, r2, r3, r4) := H
 have A2 := Aside0.mk A20
 clear A20
 by_cases c3 : t456 = 0
 ·rw [if_pos c3] at H
  have c3b0 : (t456 == 0) = true := beq_iff_eq.mpr c3
  have c3b1 : (t456 != 0) = false := bne_eq_false_iff_eq.mpr c3
  clear c3
  by_cases c4 : 0 ≤ t455
  ·rw [if_pos c4] at H
   have c4b0 := eq_true c4
   have c4b1 : decide (0 ≤ t455) = true := decide_eq_true c4
   clear c4
   by_cases c5 : t455 ≤ (l0.length : Int)
   ·rw [if_pos c5] at H
    have c5b0 := eq_true c5
    have c5b1 : decide (t455 ≤ (l0.length : Int)) = true := decide_eq_true c5
    clear c5
    replace H := Option.bind_eq_some_iff.mp H
    obtain ⟨⟨t458, t459, t460⟩, A60, H⟩ := H
    replace H : (some (t454, t458, wrap64 (t455 + t459), t460)) = some (r1, r2, r3, r4) := H
    have A6 := Aside0.mk A60
    clear A60
    simp only [Option.some.injEq, Prod.mk.injEq] at H
    obtain ⟨rfl, rfl, rfl, rfl⟩ := H
    obtain ⟨i07, hi07, _, hsz7, _⟩ := info_parts info5
    obtain ⟨A7, hcut7, hA7, hC7⟩ := print_drop_of (P := Tryd.prog) (Value.int .u8) 0 23 5 .i64 Tryd.underlying23 hi07 hsz7 A0 c0 l0 t455 (of_decide_eq_true (by first | (with_reducible assumption) | assumption)) (of_decide_eq_true (by first | (with_reducible assumption) | assumption)) HC0.out
    have HR457 := Aside0.mk (Kd.C_of_reads (h1 := fun _ => rfl) (hA7 _ (Kd.reads_of_C HR0.out)))
    have HC457 := Aside0.mk hC7
    clear hA7 hC7 hi07 hsz7
    go_enter Tryd.func67, Tryd.ntmps67
    go_wp2_with (first | ((with_reducible refine gate_callee (f := 72) rfl ?_); refine goesL_ (some 13) rfl rfl Tryd.func72 (by kernel_rfl) rfl #[.slice A0 l0.length c0] rfl (by (try simp only [List.map_toArray, List.map_cons, List.map_nil]); first | done | rfl | (simp only [List.length_drop, List.length_take]; rfl)) ?_; (with_reducible refine (varint_Get.calls k _ _ l0 t454 t455 t456 _ ?side1 ?side2 A2.out).mono ?_); (case side1 => exact cC HR0.out); (case side2 => exact HC0.out); rintro e w' ⟨rfl, ⟨nd, rfl⟩⟩; refine ⟨_, rfl, ?_⟩) | ((with_reducible refine gate_callee (f := 72) rfl ?_); refine goesL_ (some 24) rfl rfl Tryd.func72 (by kernel_rfl) rfl #[.slice A7 (l0.drop (t455 : Int).toNat).length (c0 - t455.toNat)] rfl (by (try simp only [List.map_toArray, List.map_cons, List.map_nil]); first | done | (rw [show (l0.drop (t455 : Int).toNat).length = (l0.length - t455.toNat) from List.length_drop] <;> rfl) | rfl | (simp only [List.length_drop, List.length_take]; rfl)) ?_; (with_reducible refine (varint_Get.calls k _ _ (l0.drop (t455 : Int).toNat) t458 t459 t460 _ ?side1 ?side2 A6.out).mono ?_); (case side1 => exact cC HR457.out); (case side2 => exact HC457.out); rintro e w' ⟨rfl, ⟨nd, rfl⟩⟩; refine ⟨_, rfl, ?_⟩))
    refine bodyPost_ret (results_list (rs := [.tmp 2, .tmp 3, .tmp 4, .tmp 5]) rfl (by simp) (.tmp (.tmp (.tmp (.tmp .nil))))) rfl ?_
    exact ⟨by first | rfl | (simp; done) | (simp [*]; done), by repeat (first | exact Drawn0.refl _ | apply Drawn0.step)⟩
   ·rw [if_neg c5] at H
    exact absurd H (by simp)
  ·rw [if_neg c4] at H
   exact absurd H (by simp)
 ·rw [if_neg c3] at H
  have c3b0 : (t456 == 0) = false := beq_eq_false_iff_ne.mpr c3
  have c3b1 : (t456 != 0) = true := bne_iff_ne.mpr c3
  simp only [Option.some.injEq, Prod.mk.injEq] at H
  obtain ⟨rfl, rfl, rfl, rfl⟩ := H
  go_enter Tryd.func67, Tryd.ntmps67
  go_wp2_with (first | ((with_reducible refine gate_callee (f := 72) rfl ?_); refine goesL_ (some 13) rfl rfl Tryd.func72 (by kernel_rfl) rfl #[.slice A0 l0.length c0] rfl (by (try simp only [List.map_toArray, List.map_cons, List.map_nil]); first | done | rfl | (simp only [List.length_drop, List.length_take]; rfl)) ?_; (with_reducible refine (varint_Get.calls k _ _ l0 t454 t455 t456 _ ?side1 ?side2 A2.out).mono ?_); (case side1 => exact cC HR0.out); (case side2 => exact HC0.out); rintro e w' ⟨rfl, ⟨nd, rfl⟩⟩; refine ⟨_, rfl, ?_⟩))
  refine bodyPost_ret (results_list (rs := [.tmp 2, .tmp 3, .tmp 4, .tmp 5]) rfl (by simp) (.tmp (.tmp (.tmp (.tmp .nil))))) rfl ?_
  exact ⟨by first | rfl | (simp; done) | (simp [*]; done), by repeat (first | exact Drawn0.refl _ | apply Drawn0.step)⟩


/-! ### bits_Mul64: function 77 -/
def bits_Mul64.f (a0 : Int) (a1 : Int) : Option (Int × Int) := some (IntKind.u64.wrap ((IntKind.u64.wrap ((IntKind.u64.wrap ((a0 / 4294967296) * (a1 / 4294967296))) + ((IntKind.u64.wrap ((IntKind.u64.wrap ((a0 / 4294967296) * (Go.bits .and .u64 a1 4294967295))) + ((IntKind.u64.wrap ((Go.bits .and .u64 a0 4294967295) * (Go.bits .and .u64 a1 4294967295))) / 4294967296))) / 4294967296))) + ((IntKind.u64.wrap ((Go.bits .and .u64 (IntKind.u64.wrap ((IntKind.u64.wrap ((a0 / 4294967296) * (Go.bits .and .u64 a1 4294967295))) + ((IntKind.u64.wrap ((Go.bits .and .u64 a0 4294967295) * (Go.bits .and .u64 a1 4294967295))) / 4294967296))) 4294967295) + (IntKind.u64.wrap ((Go.bits .and .u64 a0 4294967295) * (a1 / 4294967296))))) / 4294967296)), IntKind.u64.wrap (a0 * a1))
set_option maxHeartbeats 8000000 in
set_option maxRecDepth 100000 in
theorem bits_Mul64.calls (a0 : Int) (a1 : Int) (r1 : Int) (r2 : Int) (w : World) (h : bits_Mul64.f a0 a1 = some (r1, r2)) :
  Calls Tryd.prog 77 #[.int .u64 a0, .int .u64 a1] w fun e w' => e = .returned (.tuple #[.int .u64 r1, .int .u64 r2]) ∧ Drawn0 w w' := by
 have H : (some (IntKind.u64.wrap ((IntKind.u64.wrap ((IntKind.u64.wrap ((a0 / 4294967296) * (a1 / 4294967296))) + ((IntKind.u64.wrap ((IntKind.u64.wrap ((a0 / 4294967296) * (Go.bits .and .u64 a1 4294967295))) + ((IntKind.u64.wrap ((Go.bits .and .u64 a0 4294967295) * (Go.bits .and .u64 a1 4294967295))) / 4294967296))) / 4294967296))) + ((IntKind.u64.wrap ((Go.bits .and .u64 (IntKind.u64.wrap ((IntKind.u64.wrap ((a0 / 4294967296) * (Go.bits .and .u64 a1 4294967295))) + ((IntKind.u64.wrap ((Go.bits .and .u64 a0 4294967295) * (Go.bits .and .u64 a1 4294967295))) / 4294967296))) 4294967295) + (IntKind.u64.wrap ((Go.bits .and .u64 a0 4294967295) * (a1 / 4294967296))))) / 4294967296)), IntKind.u64.wrap (a0 * a1))) = some (r1, r2) := h
 clear h
 simp only [Option.some.injEq, Prod.mk.injEq] at H
 obtain ⟨rfl, rfl⟩ := H
 go_enter Tryd.func77, Tryd.ntmps77
 go_wp2
 go_ret2
 exact ⟨by first | rfl | (simp; done) | (simp [*]; done), by repeat (first | exact Drawn0.refl _ | apply Drawn0.step)⟩


/-! ### bits_Mul: function 75 -/
def bits_Mul.f (a0 : Int) (a1 : Int) : Option (Int × Int) := (bits_Mul64.f a0 a1).bind fun bt461 => (some (bt461.1, bt461.2))
set_option maxHeartbeats 8000000 in
set_option maxRecDepth 100000 in
theorem bits_Mul.calls (a0 : Int) (a1 : Int) (r1 : Int) (r2 : Int) (w : World) (h : bits_Mul.f a0 a1 = some (r1, r2)) :
  Calls Tryd.prog 75 #[.int .u64 a0, .int .u64 a1] w fun e w' => e = .returned (.tuple #[.int .u64 r1, .int .u64 r2]) ∧ Drawn0 w w' := by
 have H : ((bits_Mul64.f a0 a1).bind fun bt461 => (some (bt461.1, bt461.2))) = some (r1, r2) := h
 clear h
 replace H := Option.bind_eq_some_iff.mp H
 obtain ⟨⟨t461, t462⟩, A30, H⟩ := H
 replace H : (some (t461, t462)) = some (r1, r2) := H
 have A3 := Aside0.mk A30
 clear A30
 simp only [Option.some.injEq, Prod.mk.injEq] at H
 obtain ⟨rfl, rfl⟩ := H
 go_enter Tryd.func75, Tryd.ntmps75
 go_wp2_with (first | ((with_reducible refine gate_callee (f := 77) rfl ?_); refine goesL_ (some 25) rfl rfl Tryd.func77 (by kernel_rfl) rfl #[.int .u64 a0, .int .u64 a1] rfl (by (try simp only [List.map_toArray, List.map_cons, List.map_nil]); first | done | rfl | (simp only [List.length_drop, List.length_take]; rfl)) ?_; (with_reducible refine (bits_Mul64.calls a0 a1 t461 t462 _ A3.out).mono ?_); rintro e w' ⟨rfl, ⟨nd, rfl⟩⟩; refine ⟨_, rfl, ?_⟩))
 go_ret2
 exact ⟨by first | rfl | (simp; done) | (simp [*]; done), by repeat (first | exact Drawn0.refl _ | apply Drawn0.step)⟩

end Go.Proofs.YtmlbppfcpejlpaaDoor.X

namespace Go.Proofs.YtmlbppfcpejlpaaDoor.X
open Go.RowKit Go.Proofs.YtmlbppfcpejlpaaDoorW.PrintWords Go.Proofs.YtmlbppfcpejlpaaDoorW.PrintLast Go.Proofs.YtmlbppfcpejlpaaDoorW.PrintMore
attribute [local go_sem] max2_int min2_int max_two min_two max_three min_three max_four min_four   -- for this text's walks alone
set_option linter.unusedVariables false
set_option linter.unusedSimpArgs false

/-! ### slices_Repeat_uint64_uint64: function 68 -/
open Go.Proofs.YtmlbppfcpejlpaaDoor.S Go.Proofs.YtmlbppfcpejlpaaDoor.W04
attribute [local go_sem ↓] Go.wp_at_zero Go.wp_at_succ
/-- One value, so often: up to the greatest count of samples. -/
def slices_Repeat_uint64_uint64.f (l0 : List Int) (a1 : Int) : Option (List Int) := if l0.length = 1 ∧ 1 ≤ a1 ∧ a1 ≤ 200 then some (List.replicate a1.toNat (rd l0 0)) else none
def slices_Repeat_uint64_uint64.blk (x : Int) (j n : Nat) : List Value := List.replicate j (.int .u64 x) ++ List.replicate (n - j) (.int .u64 0)
theorem slices_Repeat_uint64_uint64.blk_len (x : Int) {j n : Nat} (h : j ≤ n) : (slices_Repeat_uint64_uint64.blk x j n).length = n := by simp [slices_Repeat_uint64_uint64.blk]; omega
theorem slices_Repeat_uint64_uint64.mul_all : ∀ k : Fin 201, bits_Mul.f 1 ((k.val : Nat) : Int) = some (0, ((k.val : Nat) : Int)) := by decide +kernel
theorem slices_Repeat_uint64_uint64.mul (k : Int) (h0 : 0 ≤ k) (h1 : k ≤ 200) : bits_Mul.f 1 k = some (0, k) := by
 have := slices_Repeat_uint64_uint64.mul_all ⟨k.toNat, by omega⟩
 simpa [show ((k.toNat : Nat) : Int) = k by omega] using this
theorem slices_Repeat_uint64_uint64.made (n : Nat) : madeCells #[.int .u64 0] n = (List.replicate n (.int .u64 0)).toArray := by
 unfold madeCells
 apply Array.ext
 ·simp
 ·intro i h1 h2
  simp [Nat.mod_one]
theorem slices_Repeat_uint64_uint64.first (x : Int) {n : Nat} (hn : 1 ≤ n) : splice (List.replicate n (.int .u64 0)) 0 [Value.int .u64 x] = slices_Repeat_uint64_uint64.blk x 1 n := by
 simp [splice, slices_Repeat_uint64_uint64.blk]
theorem slices_Repeat_uint64_uint64.next (x : Int) {j m n : Nat} (h : j + m ≤ n) : splice (slices_Repeat_uint64_uint64.blk x j n) j (List.replicate m (.int .u64 x)) = slices_Repeat_uint64_uint64.blk x (j + m) n := by
 unfold splice slices_Repeat_uint64_uint64.blk
 rw [List.take_left' (by simp), List.length_replicate, ← List.drop_drop, List.drop_left' (by simp), List.drop_replicate, ← List.append_assoc, List.replicate_append_replicate, Nat.sub_sub]
theorem slices_Repeat_uint64_uint64.cut1 (W : World) (g kn j : Nat) (hj : j < kn) : (Instr.slice 22 (.slice (some ⟨g, 0, none⟩) kn kn) (some (.int .i64 (j : Int))) none none).run Tryd.prog W = .ok (.slice (some ⟨g, j, none⟩) (kn - j) (kn - j)) W := by
 have h1 : (0 : Int) ≤ (j : Int) := by omega
 have h2 : (j : Int) ≤ (kn : Int) := by omega
 obtain ⟨i0, hi0, hz0, hsz0, hby0⟩ := info_parts info34
 rw [run_slice_l (t := 22) (len := kn) (cap := kn) (ht := by kernel_rfl) (kl := .i64) (h0 := h1) (h1 := h2)]
 simp [sizeOf, typeInfo, hi0, hsz0, sliced, go_sem, Addr.add]
 rw [if_neg (by omega)]
 split
 ·rename_i e; subst e; rfl
 ·rfl
theorem slices_Repeat_uint64_uint64.cut2 (W : World) (g kn j : Nat) (hj : j < kn) : (Instr.slice 22 (.slice (some ⟨g, 0, none⟩) kn kn) none (some (.int .i64 (j : Int))) none).run Tryd.prog W = .ok (.slice (some ⟨g, 0, none⟩) j kn) W := by
 have h1 : (0 : Int) ≤ (j : Int) := by omega
 have h2 : (j : Int) ≤ (kn : Int) := by omega
 obtain ⟨i0, hi0, hz0, hsz0, hby0⟩ := info_parts info34
 rw [run_slice_h (t := 22) (len := kn) (cap := kn) (ht := by kernel_rfl) (kh := .i64) (h0 := h1) (h2 := h2)]
 simp [sizeOf, typeInfo, hi0, hsz0, sliced, go_sem, Addr.add]
theorem slices_Repeat_uint64_uint64.src (x : Int) {w : World} {g j kn : Nat} (hj : j ≤ kn) (hg : w.heap[g]? = some (.cells (slices_Repeat_uint64_uint64.blk x j kn).toArray 34 (0, 0))) {m : Nat} (hm : m ≤ j) : ∀ i v, (List.replicate m (Value.int .u64 x))[i]? = some v → w.cell? ((⟨g, 0, none⟩ : Addr).add i) = some v := by
 intro i v hv
 have hi : i < m := by
  have := (List.getElem?_eq_some_iff.1 hv).1
  simpa using this
 have e : v = .int .u64 x := by
  rw [List.getElem?_replicate, if_pos hi] at hv
  exact (Option.some.inj hv).symm
 have ha : (⟨g, 0, none⟩ : Addr).add i = ⟨g, i, none⟩ := by unfold Addr.add; split <;> simp_all
 rw [ha, blk_cell hg i, e]
 have : i < j := by omega
 simp [slices_Repeat_uint64_uint64.blk, List.getElem?_append_left, this]
def slices_Repeat_uint64_uint64.Gives (B : Nat) (xs : List Int) (w : World) (e : Ending) (w' : World) : Prop :=
 ∃ v0_ : Value, e = .returned (v0_) ∧ Kd.R (Kd.int .u64) 34 w' B (fun _ => True) v0_ xs ∧ Below w.heap.size w w'
set_option maxHeartbeats 8000000 in
set_option maxRecDepth 100000 in
theorem slices_Repeat_uint64_uint64.calls_main (A0 : Option Addr) (c0 : Nat) (l0 : List Int) (k : Int) (w : World) (hr0 : Kd.C (Kd.int .u64) w A0 l0.length l0) (hc0 : l0.length ≤ c0) (hl : l0.length = 1) (k0 : 1 ≤ k) (k1 : k ≤ 200) :
  Calls Tryd.prog 68 #[.slice A0 l0.length c0, .int .i64 k] w (slices_Repeat_uint64_uint64.Gives w.heap.size (List.replicate k.toNat (rd l0 0)) w) := by
 obtain ⟨kn, hkn⟩ : ∃ kn : Nat, (kn : Int) = k := ⟨k.toNat, by omega⟩
 have HKN := Aside0.mk hkn
 have hkt : k.toNat = kn := by omega
 rw [hkt]
 clear hkt
 obtain ⟨i0, hi0, hz0, hsz0, hby0⟩ := info_parts info34
 obtain ⟨ad, hA, hx⟩ := Kd.at_int hr0 0 (Int.le_refl 0) (by rw [hl]; decide)
 obtain ⟨xv, hxv⟩ : ∃ x, rd l0 0 = x := ⟨_, rfl⟩
 rw [hxv] at hx ⊢
 cases hA
 have hm := slices_Repeat_uint64_uint64.mul k (by omega) k1
 have HM := Aside0.mk hm
 have hu : IntKind.u64.wrap k = k := wrap_u64_id (by omega) (by omega)
 rw [hl] at hc0 ⊢
 have hk0 : decide (k < 0) = false := by simp; omega
 have hk2 : decide (9223372036854775807 < k) = false := by simp; omega
 have HX := Aside0.mk hx
 clear hr0 hxv hm hl hx hkn
 go_enter Tryd.func68, Tryd.ntmps68
 go_wp2_with (first
  | (go_at_call 75; (with_reducible refine (bits_Mul.calls _ _ _ _ _ HM.out).mono ?_); rintro e w1 ⟨rfl, hd⟩; have HB1 := Aside0.mk (Drawn0.below hd); clear hd)
  | ((with_reducible refine gate_dst (N := 30) rfl ?_); refine wpList_make_row _ rfl (.tmp 29) (.tmp 29) 22 rfl 34 i0 (.int .u64 0) Tryd.underlying22 hi0 hz0 hsz0 rfl .i64 .i64 kn (by show Value.int .i64 k = _; rw [HKN.out]) (by show Value.int .i64 k = _; rw [HKN.out]) (by rw [hby0]; have := HKN.out; omega) (by have := HKN.out; omega) ?_; have hg2 : (w1.alloc (.cells (madeCells #[.int .u64 0] kn) 34)).heap[w1.heap.size]? = some (.cells (List.replicate kn (.int .u64 0)).toArray 34 (0, 0)) := (heap_alloc_new w1 _).trans (by rw [slices_Repeat_uint64_uint64.made]); have hb2 := below_alloc HB1.out (.cells (madeCells #[.int .u64 0] kn) 34); have hge := HB1.out.size; obtain ⟨g, hgq⟩ : ∃ g, w1.heap.size = g := ⟨_, rfl⟩; rw [hgq] at hg2 hge ⊢; clear hgq; generalize w1.alloc (.cells (madeCells #[.int .u64 0] kn) 34) = w2 at hg2 hb2 ⊢; have HG2 := Aside0.mk hg2; have HB2 := Aside0.mk hb2; clear hg2 hb2 HB1)
  | ((with_reducible refine gate_builtin (b := .copy) (xs := #[.tmp 31, .tmp 32]) rfl ?_); refine wpList_copy_splice rfl (.tmp 31) (.tmp 32) 22 22 rfl 34 Tryd.underlying22 (by rw [hi0]; simp [hsz0]) _ _ _ _ _ _ rfl rfl g 0 (List.replicate kn (.int .u64 0)) 34 HG2.out [.int .u64 xv] ?hn ?hpos ?hfit ?h1 w.heap.size w HB2.out hge ?_; (case hn => have := HKN.out; simp [Nat.min_def]; omega); (case hpos => exact fun _ => ⟨rfl, ad, rfl, fun j v hj => by
    cases j with
    | zero => simp at hj; subst hj; exact pw_cell_below HB2.out HX.out
    | succ j => simp at hj⟩); (case hfit => have := HKN.out; simp; omega); (case h1 => intro v hv; simp at hv; subst hv; rfl); intro w3 hg3 hb3; have HG3 : Aside0 (w3.heap[g]? = some (.cells (slices_Repeat_uint64_uint64.blk xv 1 kn).toArray 34 (0, 0))) := ⟨by have := hg3.out; rwa [slices_Repeat_uint64_uint64.first xv (by have := HKN.out; omega)] at this⟩; have HB3 := Aside0.mk hb3; clear hg3 hb3 HG2 HB2))
 go_loopw [8] (fun v8 wr => ∃ (j : Nat) (jj : Int), v8 = .int .i64 jj ∧ Aside0 (jj = (j : Int)) ∧ Aside0 (1 ≤ j ∧ j ≤ kn) ∧ Aside0 (wr.heap[g]? = some (.cells (slices_Repeat_uint64_uint64.blk xv j kn).toArray 34 (0, 0))) ∧ Aside0 (Below w.heap.size w wr)) (fun v8 _ => ((kn : Int) - intOf v8).toNat)
 case atStart => exact ⟨1, 1, rfl, ⟨rfl⟩, ⟨Nat.le_refl _, by have := HKN.out; omega⟩, HG3, HB3⟩
 case round =>
  clear HG3 HB3
  obtain ⟨j, jj, rfl, HJ, HJ1, HG, HB⟩ := hrel
  have hj0 : 0 ≤ jj := by have := HJ.out; omega
  have hj1 : jj ≤ 200 := by have := HJ.out; have := HJ1.out; have := HKN.out; omega
  by_cases hlt : j < kn
  ·have hj2 : decide (jj < (kn : Int)) = true := by have := HJ.out; simp; omega
   have hs1 : ∀ W, (Instr.slice 22 (.slice (some ⟨g, 0, none⟩) kn kn) (some (.int .i64 jj)) none none).run Tryd.prog W = .ok (.slice (some ⟨g, j, none⟩) (kn - j) (kn - j)) W := by rw [HJ.out]; exact fun W => slices_Repeat_uint64_uint64.cut1 W g kn j hlt
   have hs2 : ∀ W, (Instr.slice 22 (.slice (some ⟨g, 0, none⟩) kn kn) none (some (.int .i64 jj)) none).run Tryd.prog W = .ok (.slice (some ⟨g, 0, none⟩) j kn) W := by rw [HJ.out]; exact fun W => slices_Repeat_uint64_uint64.cut2 W g kn j hlt
   obtain ⟨m, hm⟩ : ∃ m, m = Nat.min j (kn - j) := ⟨_, rfl⟩
   obtain ⟨mm, hmm⟩ : ∃ mm : Int, mm = (m : Int) := ⟨_, rfl⟩
   have hm1 : m ≤ j ∧ m ≤ kn - j ∧ 1 ≤ m := by have := HJ1.out; rw [hm]; simp [Nat.min_def]; split <;> omega
   have hmm0 : 0 ≤ mm := by omega
   have hmm1 : mm ≤ 200 := by have := HKN.out; omega
   have HM' := Aside0.mk hm
   have HMM := Aside0.mk hmm
   have HM1 := Aside0.mk hm1
   obtain ⟨sm, hsm⟩ : ∃ sm : Int, sm = jj + mm := ⟨_, rfl⟩
   have hsw : IntKind.i64.wrap (jj + mm) = sm := by rw [IntKind.wrap_i64]; omega
   have HSM := Aside0.mk hsm
   clear hm hmm hm1 hsm
   go_wp2
   have HG7 : Aside0 (wr.drew.heap[g]? = some (.cells (slices_Repeat_uint64_uint64.blk xv j kn).toArray 34 (0, 0))) := ⟨HG.out⟩
   have HB7 : Aside0 (Below w.heap.size w wr.drew) := ⟨below_drew1 HB.out⟩
   clear HG HB
   have hszm : (Tryd.prog.info? 34).map (·.size) = some 1 := by rw [hi0]; simp [hsz0]
   have HSZ := Aside0.mk hszm
   clear hszm
   go_region_held3 (fun w' => True) (trivial) ((refine step_copy_splice (by rfl) (.tmp 41) (.tmp 44) 22 22 (by rfl) 34 Tryd.underlying22 HSZ.out _ _ _ _ _ _ (by rfl) (by rfl) g j (slices_Repeat_uint64_uint64.blk xv j kn) 34 HG7.out (List.replicate m (.int .u64 xv)) ?hn ?hpos ?hfit ?h1 w.heap.size w HB7.out hge ?_; (case hn => rw [List.length_replicate]; exact HM'.out); (case hpos => exact fun _ => ⟨rfl, ⟨g, 0, none⟩, rfl, slices_Repeat_uint64_uint64.src xv HJ1.out.2 HG7.out HM1.out.1⟩); (case hfit => rw [slices_Repeat_uint64_uint64.blk_len xv HJ1.out.2, List.length_replicate]; have := HM1.out; omega); (case h1 => intro v hv; rw [List.eq_of_mem_replicate hv]; rfl); intro w8 hg8 hb8; rw [show goInt ((List.replicate m (Value.int .u64 xv)).length : Int) = Value.int .i64 mm by rw [List.length_replicate, HMM.out]; rfl]; have HG8 : Aside0 (w8.heap[g]? = some (.cells (slices_Repeat_uint64_uint64.blk xv (j + m) kn).toArray 34 (0, 0))) := ⟨by have := hg8.out; rwa [slices_Repeat_uint64_uint64.next xv (by have := HM1.out; omega)] at this⟩; have HB8 := Aside0.mk hb8; clear hg8 hb8 HG7 HB7))
   go_wp2
   go_roundw
   case rel => exact ⟨j + m, _, rfl, ⟨by have := HJ.out; have := HMM.out; have := HSM.out; omega⟩, ⟨by have := HM1.out; omega⟩, HG8, HB8⟩
   case measure => simp [intOf]; have := HM1.out; have := HMM.out; have := HJ.out; have := HSM.out; omega
  ·have hj2 : decide (jj < (kn : Int)) = false := by have := HJ.out; simp; omega
   obtain rfl : j = kn := by have := HJ1.out; omega
   go_wp2
   go_ret
   refine ⟨.slice (some ⟨g, 0, none⟩) j j, rfl, ?_, HB.out⟩
   refine Kd.R_of_own ?_ (fun _ _ => trivial)
   refine ⟨by simp [encs], .inr ⟨g, j, (slices_Repeat_uint64_uint64.blk xv j j).toArray, by rw [List.length_replicate], hge, HG.out, by rw [List.length_replicate]; exact Nat.le_refl _, by unfold maxLen; have := HKN.out; omega, by rw [List.size_toArray, slices_Repeat_uint64_uint64.blk_len xv (Nat.le_refl _), Nat.mul_one], ?_⟩⟩
   simp [slices_Repeat_uint64_uint64.blk, encs]
theorem slices_Repeat_uint64_uint64.calls (A0 : Option Addr) (c0 : Nat) (l0 : List Int) (a1 : Int) (r : List Int) (w : World) (hr0 : Kd.C (Kd.int .u64) w A0 l0.length l0) (hc0 : l0.length ≤ c0) (h : slices_Repeat_uint64_uint64.f l0 a1 = some r) :
  Calls Tryd.prog 68 #[.slice A0 l0.length c0, .int .i64 a1] w fun e w' => ∃ v0_ : Value, e = .returned (v0_) ∧ Kd.R (Kd.int .u64) 34 w' w.heap.size (fun _ => True) v0_ r ∧ Below w.heap.size w w' := by
 unfold slices_Repeat_uint64_uint64.f at h
 by_cases hh : l0.length = 1 ∧ 1 ≤ a1 ∧ a1 ≤ 200
 ·rw [if_pos hh] at h
  obtain rfl := Option.some.inj h
  exact slices_Repeat_uint64_uint64.calls_main A0 c0 l0 a1 w hr0 hc0 hh.1 hh.2.1 hh.2.2
 ·rw [if_neg hh] at h; cases h

end Go.Proofs.YtmlbppfcpejlpaaDoor.X

namespace Go.Proofs.YtmlbppfcpejlpaaDoor.X
open Go.RowKit Go.Proofs.YtmlbppfcpejlpaaDoorW.PrintWords Go.Proofs.YtmlbppfcpejlpaaDoorW.PrintLast Go.Proofs.YtmlbppfcpejlpaaDoorW.PrintMore
attribute [local go_sem] max2_int min2_int max_two min_two max_three min_three max_four min_four   -- for this text's walks alone
set_option linter.unusedVariables false
set_option linter.unusedSimpArgs false

/-! ### runs_Get: function 55 -/
mutual
def runs_Get.j0 : Nat → List Int → Int → Bool → Option (List Int × Int × Int)
 | 0, _, _, _ => none
 | k + 1, x0, x1, x19 => if x19 = true then (some (([] : List Int), 0, 1)) else (runs_Get.l0 k x0 x1 ([] : List Int) 0)
def runs_Get.l0 : Nat → List Int → Int → List Int → Int → Option (List Int × Int × Int)
 | 0, _, _, _, _ => none
 | k + 1, x0, x1, x7, x8 => if (x7.length : Int) < x1 then (if 0 ≤ x8 then (if x8 ≤ (x0.length : Int) then ((runs_pair.f k (x0.drop (x8 : Int).toNat)).bind fun bt464 => (if bt464.2.2.2 = 0 then (if bt464.1 = 0 then (some (([] : List Int), 0, 3)) else (if bt464.1 > (IntKind.u64.wrap (wrap64 (x1 - (x7.length : Int)))) then (some (([] : List Int), 0, 3)) else (if (x7.length : Int) > 0 then (if 0 ≤ (wrap64 ((x7.length : Int) - 1)) then (if (wrap64 ((x7.length : Int) - 1)) < (x7.length : Int) then (if (rd x7 (wrap64 ((x7.length : Int) - 1))) = bt464.2.1 then (some (([] : List Int), 0, 3)) else ((slices_Repeat_uint64_uint64.f (([bt464.2.1] : List Int)) (wrap64 (bt464.1))).bind fun t472 => (if x7.length + t472.length < 17592186044416 then (runs_Get.l0 k x0 x1 (x7 ++ t472) (wrap64 (x8 + bt464.2.2.1))) else (none)))) else (none)) else (none)) else ((slices_Repeat_uint64_uint64.f (([bt464.2.1] : List Int)) (wrap64 (bt464.1))).bind fun t481 => (if x7.length + t481.length < 17592186044416 then (runs_Get.l0 k x0 x1 (x7 ++ t481) (wrap64 (x8 + bt464.2.2.1))) else (none)))))) else (some (([] : List Int), 0, bt464.2.2.2)))) else (none)) else (none)) else (some (x7, x8, 0))
end
def runs_Get.f (k : Nat) (l0 : List Int) (a1 : Int) : Option (List Int × Int × Int) := if a1 < 0 then (runs_Get.j0 k l0 a1 true) else (runs_Get.j0 k l0 a1 (decide (a1 > 200)))
theorem runs_Get.mono_l : ∀ k, (∀ y0 y1 y2, LeO (runs_Get.j0 k y0 y1 y2) (runs_Get.j0 (k + 1) y0 y1 y2)) ∧ (∀ y0 y1 y2 y3, LeO (runs_Get.l0 k y0 y1 y2 y3) (runs_Get.l0 (k + 1) y0 y1 y2 y3))
 | 0 => ⟨fun _ _ _ r h => by simp [runs_Get.j0] at h, fun _ _ _ _ r h => by simp [runs_Get.l0] at h⟩
 | k + 1 => by
  obtain ⟨ih0, ih1⟩ := runs_Get.mono_l k
  refine ⟨?_, ?_⟩
  ·intro y0 y1 y2
   unfold runs_Get.j0
   repeat' first
   | (with_reducible exact ih0 _ _ _)
   | (with_reducible exact ih1 _ _ _ _)
   | (with_reducible exact runs_pair.mono _ _)
   | (with_reducible exact LeO.refl _)
   | (with_reducible exact LeO.none _)
   | (with_reducible refine LeO.ite ?_ ?_)
   | (with_reducible refine LeO.bind ?_ (fun _ => ?_))
   | exact ih0 _ _ _
   | exact ih1 _ _ _ _
   | exact runs_pair.mono _ _
   | exact LeO.none _
   | refine LeO.ite ?_ ?_
   | refine LeO.bind ?_ (fun _ => ?_)
  ·intro y0 y1 y2 y3
   unfold runs_Get.l0
   repeat' first
   | (with_reducible exact ih0 _ _ _)
   | (with_reducible exact ih1 _ _ _ _)
   | (with_reducible exact runs_pair.mono _ _)
   | (with_reducible exact LeO.refl _)
   | (with_reducible exact LeO.none _)
   | (with_reducible refine LeO.ite ?_ ?_)
   | (with_reducible refine LeO.bind ?_ (fun _ => ?_))
   | exact ih0 _ _ _
   | exact ih1 _ _ _ _
   | exact runs_pair.mono _ _
   | exact LeO.none _
   | refine LeO.ite ?_ ?_
   | refine LeO.bind ?_ (fun _ => ?_)
theorem runs_Get.mono : ∀ a0 a1 k, LeO (runs_Get.f k a0 a1) (runs_Get.f (k + 1) a0 a1) := by
 intro a0 a1 k
 obtain ⟨ih0, ih1⟩ := runs_Get.mono_l k
 unfold runs_Get.f
 repeat' first
   | (with_reducible exact ih0 _ _ _)
   | (with_reducible exact ih1 _ _ _ _)
   | (with_reducible exact runs_pair.mono _ _)
   | (with_reducible exact LeO.refl _)
   | (with_reducible exact LeO.none _)
   | (with_reducible refine LeO.ite ?_ ?_)
   | (with_reducible refine LeO.bind ?_ (fun _ => ?_))
   | exact ih0 _ _ _
   | exact ih1 _ _ _ _
   | exact runs_pair.mono _ _
   | exact LeO.none _
   | refine LeO.ite ?_ ?_
   | refine LeO.bind ?_ (fun _ => ?_)
set_option maxHeartbeats 8000000 in
set_option maxRecDepth 100000 in
theorem runs_Get.calls (k : Nat) (A0 : Option Addr) (c0 : Nat) (l0 : List Int) (a1 : Int) (r1 : List Int) (r2 : Int) (r3 : Int) (w : World) (hr0 : Kd.C (Kd.int .u8) w A0 l0.length l0) (hc0 : l0.length ≤ c0) (h : runs_Get.f k l0 a1 = some (r1, r2, r3)) :
  Calls Tryd.prog 55 #[.slice A0 l0.length c0, .int .i64 a1] w fun e w' => ∃ v0_ : Value, e = .returned (.tuple #[v0_, .int .i64 r2, .int .i64 r3]) ∧ Kd.R (Kd.int .u64) 34 w' w.heap.size (fun _ => True) v0_ r1 ∧ Below w.heap.size w w' := by
 have HR0 := Aside0.mk hr0
 have HC0 := Aside0.mk hc0
 clear hr0 hc0
 have HB := Aside0.mk (Below.refl w.heap.size w)
 have H : (if a1 < 0 then (runs_Get.j0 k l0 a1 true) else (runs_Get.j0 k l0 a1 (decide (a1 > 200)))) = some (r1, r2, r3) := h
 clear h
 have HC3 := Aside0.mk H
 clear H
 go_enter Tryd.func55, Tryd.ntmps55
 go_upto_region 1 with (fail)
 go_cut [19] (fun v19 wc => ∃ (kq : Nat) (x19_2 : Bool), v19 = .bool x19_2 ∧ Aside0 (runs_Get.j0 kq l0 a1 x19_2 = some (r1, r2, r3)) ∧ Aside0 (kq ≤ k) ∧ Aside0 (Below w.heap.size w wc))
 case first =>
  have H := HC3.out
  clear HC3
  by_cases c4 : a1 < 0
  ·rw [if_pos c4] at H
   have c4b0 : decide (a1 < 0) = true := decide_eq_true c4
   clear c4
   (first | rw [c4b0] | (simp only [i64_w, i32_w]; rw [c4b0]) | skip)
   have H' := Aside0.mk H
   clear H
   go_wp2
   go_meet
   case rel => exact ⟨_, (true), (by first | rfl | (simp; done) | (simp [*]; done)), H', ⟨by first | omega | exact Nat.le_refl _⟩, ⟨bB⟩⟩
  ·rw [if_neg c4] at H
   have c4b0 : decide (a1 < 0) = false := decide_eq_false c4
   clear c4
   (first | rw [c4b0] | (simp only [i64_w, i32_w]; rw [c4b0]) | skip)
   have H' := Aside0.mk H
   clear H
   go_wp2
   go_meet
   case rel => exact ⟨_, (decide (a1 > 200)), (by first | rfl | (simp; done) | (simp [*]; done)), H', ⟨by first | omega | exact Nat.le_refl _⟩, ⟨bB⟩⟩
 case rest =>
  clear HC3
  (try clear p2);(try clear c4);(try clear c4b0)
  obtain ⟨kq, x19_2, rfl, HA, HJ2, HB⟩ := hcut
  cases kq with
  | zero => exact absurd HA.out (by simp [runs_Get.j0])
  | succ kj2 =>
   have H := HA.out
   clear HA
   simp only [runs_Get.j0] at H
   by_cases c5 : x19_2 = true
   ·subst c5
    have H1 : (some (([] : List Int), 0, 1)) = some (r1, r2, r3) := by rw [if_pos rfl] at H; exact H
    clear H
    have H := H1
    clear H1
    simp only [Option.some.injEq, Prod.mk.injEq] at H
    obtain ⟨rfl, rfl, rfl⟩ := H
    go_wp2
    go_ret3
    exact ⟨_, by first | rfl | (simp [errW_none, errW_some] <;> rfl) | (simp [*, errW_none, errW_some] <;> rfl), by first | exact Kd.R_nil _ _ _ _ _ | exact Kd.N_nil _ _ _ _ _ | exact Kd.V_nil _ _ _ _ _ | exact Kd.Q_nil _ _ _ _ _ | exact Kd.S_nil _ _ _ _ _, bB⟩
   ·replace c5 := Bool.eq_false_iff.mpr c5
    subst c5
    have H1 : (runs_Get.l0 kj2 l0 a1 ([] : List Int) 0) = some (r1, r2, r3) := by rw [if_neg (show ¬ (false = true) by decide)] at H; exact H
    clear H
    have H := H1
    clear H1
    have H' := Aside0.mk H
    clear H
    go_wp2
    go_loopg [7, 8] kj2 (fun kq v7 v8 w' => ∃ (x7_2 : List Int) (x8_2 : Int), v8 = .int .i64 x8_2 ∧ Aside0 (runs_Get.l0 kq l0 a1 x7_2 x8_2 = some (r1, r2, r3)) ∧ Aside0 (kq ≤ kj2) ∧ Aside0 (Kd.R (Kd.int .u64) 34 w' w.heap.size (fun _ => True) v7 x7_2) ∧ Aside0 (Below w.heap.size w w'))
    case atStart => exact ⟨(([] : List Int)), (0), (by first | rfl | (simp; done) | (simp [*]; done)), H', ⟨Nat.le_refl _⟩, ⟨by first | exact Kd.R_nil _ _ _ _ _ | exact Kd.N_nil _ _ _ _ _ | exact Kd.V_nil _ _ _ _ _ | exact Kd.Q_nil _ _ _ _ _ | exact Kd.S_nil _ _ _ _ _⟩, ⟨bB⟩⟩
    case round =>
     clear H'
     (try clear p2);(try clear c4);(try clear c4b0);(try clear c5);(try clear p2)
     obtain ⟨x7_2, x8_2, rfl, HA, HK2, HO_7, HB⟩ := hrel
     cases gk with
     | zero => exact absurd HA.out (by simp [runs_Get.l0])
     | succ k2 =>
      have H := HA.out
      clear HA
      simp only [runs_Get.l0] at H
      by_cases c6 : (x7_2.length : Int) < a1
      ·rw [if_pos c6] at H
       have c6b0 : decide ((x7_2.length : Int) < a1) = true := decide_eq_true c6
       clear c6
       by_cases c7 : 0 ≤ x8_2
       ·rw [if_pos c7] at H
        have c7b0 := eq_true c7
        have c7b1 : decide (0 ≤ x8_2) = true := decide_eq_true c7
        clear c7
        by_cases c8 : x8_2 ≤ (l0.length : Int)
        ·rw [if_pos c8] at H
         have c8b0 := eq_true c8
         have c8b1 : decide (x8_2 ≤ (l0.length : Int)) = true := decide_eq_true c8
         clear c8
         replace H := Option.bind_eq_some_iff.mp H
         obtain ⟨⟨t464, t465, t466, t467⟩, A90, H⟩ := H
         replace H : (if t467 = 0 then (if t464 = 0 then (some (([] : List Int), 0, 3)) else (if t464 > (IntKind.u64.wrap (wrap64 (a1 - (x7_2.length : Int)))) then (some (([] : List Int), 0, 3)) else (if (x7_2.length : Int) > 0 then (if 0 ≤ (wrap64 ((x7_2.length : Int) - 1)) then (if (wrap64 ((x7_2.length : Int) - 1)) < (x7_2.length : Int) then (if (rd x7_2 (wrap64 ((x7_2.length : Int) - 1))) = t465 then (some (([] : List Int), 0, 3)) else ((slices_Repeat_uint64_uint64.f (([t465] : List Int)) (wrap64 (t464))).bind fun t472 => (if x7_2.length + t472.length < 17592186044416 then (runs_Get.l0 k2 l0 a1 (x7_2 ++ t472) (wrap64 (x8_2 + t466))) else (none)))) else (none)) else (none)) else ((slices_Repeat_uint64_uint64.f (([t465] : List Int)) (wrap64 (t464))).bind fun t481 => (if x7_2.length + t481.length < 17592186044416 then (runs_Get.l0 k2 l0 a1 (x7_2 ++ t481) (wrap64 (x8_2 + t466))) else (none)))))) else (some (([] : List Int), 0, t467))) = some (r1, r2, r3) := H
         have A9 := Aside0.mk A90
         clear A90
         by_cases c10 : t467 = 0
         ·rw [if_pos c10] at H
          have c10b0 : (t467 == 0) = true := beq_iff_eq.mpr c10
          have c10b1 : (t467 != 0) = false := bne_eq_false_iff_eq.mpr c10
          clear c10
          by_cases c11 : t464 = 0
          ·rw [if_pos c11] at H
           have c11b0 : (t464 == 0) = true := beq_iff_eq.mpr c11
           have c11b1 : (t464 != 0) = false := bne_eq_false_iff_eq.mpr c11
           clear c11
           simp only [Option.some.injEq, Prod.mk.injEq] at H
           obtain ⟨rfl, rfl, rfl⟩ := H
           obtain ⟨Ao12, co12, eo12⟩ := Kd.R_slice HO_7.out
           subst eo12
           obtain ⟨i013, hi013, _, hsz13, _⟩ := info_parts info5
           obtain ⟨A13, hcut13, hA13, hC13⟩ := print_drop_of (P := Tryd.prog) (Value.int .u8) 0 23 5 .i64 Tryd.underlying23 hi013 hsz13 A0 c0 l0 x8_2 (of_decide_eq_true (by first | (with_reducible assumption) | assumption)) (of_decide_eq_true (by first | (with_reducible assumption) | assumption)) HC0.out
           have HR463 := Aside0.mk (Kd.C_of_reads (h1 := fun _ => rfl) (hA13 _ (Kd.reads_of_C HR0.out)))
           have HC463 := Aside0.mk hC13
           clear hA13 hC13 hi013 hsz13
           go_wp2_with (first | ((with_reducible refine gate_callee (f := 67) rfl ?_); refine goesL_ (some 28) rfl rfl Tryd.func67 (by kernel_rfl) rfl #[.slice A13 (l0.drop (x8_2 : Int).toNat).length (c0 - x8_2.toNat)] rfl (by (try simp only [List.map_toArray, List.map_cons, List.map_nil]); first | done | (rw [show (l0.drop (x8_2 : Int).toNat).length = (l0.length - x8_2.toNat) from List.length_drop] <;> rfl) | rfl | (simp only [List.length_drop, List.length_take]; rfl)) ?_; (with_reducible refine (runs_pair.calls k2 _ _ (l0.drop (x8_2 : Int).toNat) t464 t465 t466 t467 _ ?side1 ?side2 A9.out).mono ?_); (case side1 => exact cC (Kd.C_below HR463.out HB.out)); (case side2 => exact HC463.out); rintro e w' ⟨rfl, ⟨nd, rfl⟩⟩; refine ⟨_, rfl, ?_⟩))
           go_ret3
           exact ⟨_, by first | rfl | (simp [errW_none, errW_some] <;> rfl) | (simp [*, errW_none, errW_some] <;> rfl), by first | exact Kd.R_nil _ _ _ _ _ | exact Kd.N_nil _ _ _ _ _ | exact Kd.V_nil _ _ _ _ _ | exact Kd.Q_nil _ _ _ _ _ | exact Kd.S_nil _ _ _ _ _, bB⟩
          ·rw [if_neg c11] at H
           have c11b0 : (t464 == 0) = false := beq_eq_false_iff_ne.mpr c11
           have c11b1 : (t464 != 0) = true := bne_iff_ne.mpr c11
           by_cases c14 : t464 > (IntKind.u64.wrap (wrap64 (a1 - (x7_2.length : Int))))
           ·rw [if_pos c14] at H
            have c14b0 : decide ((IntKind.u64.wrap (wrap64 (a1 - (x7_2.length : Int)))) < t464) = true := decide_eq_true c14
            clear c14
            simp only [Option.some.injEq, Prod.mk.injEq] at H
            obtain ⟨rfl, rfl, rfl⟩ := H
            obtain ⟨Ao15, co15, eo15⟩ := Kd.R_slice HO_7.out
            subst eo15
            obtain ⟨i016, hi016, _, hsz16, _⟩ := info_parts info5
            obtain ⟨A16, hcut16, hA16, hC16⟩ := print_drop_of (P := Tryd.prog) (Value.int .u8) 0 23 5 .i64 Tryd.underlying23 hi016 hsz16 A0 c0 l0 x8_2 (of_decide_eq_true (by first | (with_reducible assumption) | assumption)) (of_decide_eq_true (by first | (with_reducible assumption) | assumption)) HC0.out
            have HR463 := Aside0.mk (Kd.C_of_reads (h1 := fun _ => rfl) (hA16 _ (Kd.reads_of_C HR0.out)))
            have HC463 := Aside0.mk hC16
            clear hA16 hC16 hi016 hsz16
            go_wp2_with (first | ((with_reducible refine gate_callee (f := 67) rfl ?_); refine goesL_ (some 28) rfl rfl Tryd.func67 (by kernel_rfl) rfl #[.slice A16 (l0.drop (x8_2 : Int).toNat).length (c0 - x8_2.toNat)] rfl (by (try simp only [List.map_toArray, List.map_cons, List.map_nil]); first | done | (rw [show (l0.drop (x8_2 : Int).toNat).length = (l0.length - x8_2.toNat) from List.length_drop] <;> rfl) | rfl | (simp only [List.length_drop, List.length_take]; rfl)) ?_; (with_reducible refine (runs_pair.calls k2 _ _ (l0.drop (x8_2 : Int).toNat) t464 t465 t466 t467 _ ?side1 ?side2 A9.out).mono ?_); (case side1 => exact cC (Kd.C_below HR463.out HB.out)); (case side2 => exact HC463.out); rintro e w' ⟨rfl, ⟨nd, rfl⟩⟩; refine ⟨_, rfl, ?_⟩))
            go_ret3
            exact ⟨_, by first | rfl | (simp [errW_none, errW_some] <;> rfl) | (simp [*, errW_none, errW_some] <;> rfl), by first | exact Kd.R_nil _ _ _ _ _ | exact Kd.N_nil _ _ _ _ _ | exact Kd.V_nil _ _ _ _ _ | exact Kd.Q_nil _ _ _ _ _ | exact Kd.S_nil _ _ _ _ _, bB⟩
           ·rw [if_neg c14] at H
            have c14b0 : decide ((IntKind.u64.wrap (wrap64 (a1 - (x7_2.length : Int)))) < t464) = false := decide_eq_false c14
            clear c14
            by_cases c17 : (x7_2.length : Int) > 0
            ·rw [if_pos c17] at H
             have c17b0 : decide (0 < (x7_2.length : Int)) = true := decide_eq_true c17
             have c17b1 : decide (0 < x7_2.length) = true := decide_eq_true (by omega)
             clear c17
             obtain ⟨ji18, hji18⟩ : ∃ j_ : Int, (wrap64 ((x7_2.length : Int) - 1)) = j_ := ⟨_, rfl⟩
             replace H : (if 0 ≤ (ji18) then (if (ji18) < (x7_2.length : Int) then (if (rd x7_2 (ji18)) = t465 then (some (([] : List Int), 0, 3)) else ((slices_Repeat_uint64_uint64.f (([t465] : List Int)) (wrap64 (t464))).bind fun t472 => (if x7_2.length + t472.length < 17592186044416 then (runs_Get.l0 k2 l0 a1 (x7_2 ++ t472) (wrap64 (x8_2 + t466))) else (none)))) else (none)) else (none)) = some (r1, r2, r3) := by first | (rw [hji18] at H; exact H) | (simp only [hji18] at H ⊢; exact H)
             (try rw [hji18] at A9)
             have hji18w : (IntKind.i64.wrap ((x7_2.length : Int) - 1)) = ji18 := (i64_w _).trans hji18
             by_cases c19 : 0 ≤ (ji18)
             ·rw [if_pos c19] at H
              have c19b0 : decide (0 ≤ (ji18)) = true := decide_eq_true c19
              clear c19
              by_cases c20 : (ji18) < (x7_2.length : Int)
              ·rw [if_pos c20] at H
               have c20b0 : decide ((ji18) < (x7_2.length : Int)) = true := decide_eq_true c20
               clear c20
               by_cases c21 : (rd x7_2 (ji18)) = t465
               ·rw [if_pos c21] at H
                have c21b0 : ((rd x7_2 (ji18)) == t465) = true := beq_iff_eq.mpr c21
                have c21b1 : ((rd x7_2 (ji18)) != t465) = false := bne_eq_false_iff_eq.mpr c21
                clear c21
                simp only [Option.some.injEq, Prod.mk.injEq] at H
                obtain ⟨rfl, rfl, rfl⟩ := H
                obtain ⟨Ao22, co22, eo22⟩ := Kd.R_slice HO_7.out
                subst eo22
                obtain ⟨i023, hi023, _, hsz23, _⟩ := info_parts info5
                obtain ⟨A23, hcut23, hA23, hC23⟩ := print_drop_of (P := Tryd.prog) (Value.int .u8) 0 23 5 .i64 Tryd.underlying23 hi023 hsz23 A0 c0 l0 x8_2 (of_decide_eq_true (by first | (with_reducible assumption) | assumption)) (of_decide_eq_true (by first | (with_reducible assumption) | assumption)) HC0.out
                have HR463 := Aside0.mk (Kd.C_of_reads (h1 := fun _ => rfl) (hA23 _ (Kd.reads_of_C HR0.out)))
                have HC463 := Aside0.mk hC23
                clear hA23 hC23 hi023 hsz23
                go_wp2_with (first | ((with_reducible refine gate_callee (f := 67) rfl ?_); refine goesL_ (some 28) rfl rfl Tryd.func67 (by kernel_rfl) rfl #[.slice A23 (l0.drop (x8_2 : Int).toNat).length (c0 - x8_2.toNat)] rfl (by (try simp only [List.map_toArray, List.map_cons, List.map_nil]); first | done | (rw [show (l0.drop (x8_2 : Int).toNat).length = (l0.length - x8_2.toNat) from List.length_drop] <;> rfl) | rfl | (simp only [List.length_drop, List.length_take]; rfl)) ?_; (with_reducible refine (runs_pair.calls k2 _ _ (l0.drop (x8_2 : Int).toNat) t464 t465 t466 t467 _ ?side1 ?side2 A9.out).mono ?_); (case side1 => exact cC (Kd.C_below HR463.out HB.out)); (case side2 => exact HC463.out); rintro e w' ⟨rfl, ⟨nd, rfl⟩⟩; refine ⟨_, rfl, ?_⟩; have p468 : 0 ≤ ((ji18) : Int) := of_decide_eq_true (by first | (with_reducible assumption) | assumption); have q468 : (ji18) < (x7_2.length : Int) := of_decide_eq_true (by first | (with_reducible assumption) | assumption); obtain ⟨ad468, e468, hx468_0⟩ := Kd.at_int (Kd.R_reads' HO_7.out).2.2 (ji18) p468 q468; cases e468; replace p468 := eq_true p468; replace q468 := eq_true q468))
                go_ret3
                exact ⟨_, by first | rfl | (simp [errW_none, errW_some] <;> rfl) | (simp only [← hji18]; first | rfl | (simp [errW_none, errW_some] <;> rfl)) | (simp [*, errW_none, errW_some] <;> rfl), by first | exact Kd.R_nil _ _ _ _ _ | exact Kd.N_nil _ _ _ _ _ | exact Kd.V_nil _ _ _ _ _ | exact Kd.Q_nil _ _ _ _ _ | exact Kd.S_nil _ _ _ _ _, bB⟩
               ·rw [if_neg c21] at H
                have c21b0 : ((rd x7_2 (ji18)) == t465) = false := beq_eq_false_iff_ne.mpr c21
                have c21b1 : ((rd x7_2 (ji18)) != t465) = true := bne_iff_ne.mpr c21
                obtain ⟨y469, hy469⟩ : ∃ y_ : List Int, y_ = (([t465] : List Int)) := ⟨_, rfl⟩
                replace H : ((slices_Repeat_uint64_uint64.f y469 (wrap64 (t464))).bind fun t472 => (if x7_2.length + t472.length < 17592186044416 then (runs_Get.l0 k2 l0 a1 (x7_2 ++ t472) (wrap64 (x8_2 + t466))) else (none))) = some (r1, r2, r3) := by first | (rw [hy469]; with_reducible exact H) | (have H2_ := (Option.bind_some _ _).symm.trans H; rw [hy469]; with_reducible exact H2_) | (have H2_ := (Option.bind_some _ _).symm.trans H; with_reducible exact H2_) | with_reducible exact H | (rw [hy469]; exact H) | exact H
                have Ny469 := Aside0.mk hy469
                clear hy469
                replace H := Option.bind_eq_some_iff.mp H
                obtain ⟨t472, A240, H⟩ := H
                replace H : (if x7_2.length + t472.length < 17592186044416 then (runs_Get.l0 k2 l0 a1 (x7_2 ++ t472) (wrap64 (x8_2 + t466))) else (none)) = some (r1, r2, r3) := H
                have A24 := Aside0.mk A240
                clear A240
                by_cases c25 : x7_2.length + t472.length < 17592186044416
                ·rw [if_pos c25] at H
                 have LMc25 := Aside0.mk c25
                 clear c25
                 obtain ⟨y475, hy475⟩ : ∃ y_ : List Int, y_ = (x7_2 ++ t472) := ⟨_, rfl⟩
                 replace H : (runs_Get.l0 k2 l0 a1 y475 (wrap64 (x8_2 + t466))) = some (r1, r2, r3) := by first | (rw [hy475]; with_reducible exact H) | (have H2_ := (Option.bind_some _ _).symm.trans H; rw [hy475]; with_reducible exact H2_) | (have H2_ := (Option.bind_some _ _).symm.trans H; with_reducible exact H2_) | with_reducible exact H | (rw [hy475]; exact H) | exact H
                 have Ny475 := Aside0.mk hy475
                 clear hy475
                 have H' := Aside0.mk H
                 clear H
                 obtain ⟨Ao26, co26, eo26⟩ := Kd.R_slice HO_7.out
                 subst eo26
                 obtain ⟨i027, hi027, _, hsz27, _⟩ := info_parts info5
                 obtain ⟨A27, hcut27, hA27, hC27⟩ := print_drop_of (P := Tryd.prog) (Value.int .u8) 0 23 5 .i64 Tryd.underlying23 hi027 hsz27 A0 c0 l0 x8_2 (of_decide_eq_true (by first | (with_reducible assumption) | assumption)) (of_decide_eq_true (by first | (with_reducible assumption) | assumption)) HC0.out
                 have HR463 := Aside0.mk (Kd.C_of_reads (h1 := fun _ => rfl) (hA27 _ (Kd.reads_of_C HR0.out)))
                 have HC463 := Aside0.mk hC27
                 clear hA27 hC27 hi027 hsz27
                 go_wp2_with (first | ((with_reducible refine gate_callee (f := 67) rfl ?_); refine goesL_ (some 28) rfl rfl Tryd.func67 (by kernel_rfl) rfl #[.slice A27 (l0.drop (x8_2 : Int).toNat).length (c0 - x8_2.toNat)] rfl (by (try simp only [List.map_toArray, List.map_cons, List.map_nil]); first | done | (rw [show (l0.drop (x8_2 : Int).toNat).length = (l0.length - x8_2.toNat) from List.length_drop] <;> rfl) | rfl | (simp only [List.length_drop, List.length_take]; rfl)) ?_; (with_reducible refine (runs_pair.calls k2 _ _ (l0.drop (x8_2 : Int).toNat) t464 t465 t466 t467 _ ?side1 ?side2 A9.out).mono ?_); (case side1 => exact cC (Kd.C_below HR463.out HB.out)); (case side2 => exact HC463.out); rintro e w' ⟨rfl, ⟨nd, rfl⟩⟩; refine ⟨_, rfl, ?_⟩; have p468 : 0 ≤ ((ji18) : Int) := of_decide_eq_true (by first | (with_reducible assumption) | assumption); have q468 : (ji18) < (x7_2.length : Int) := of_decide_eq_true (by first | (with_reducible assumption) | assumption); obtain ⟨ad468, e468, hx468_0⟩ := Kd.at_int (Kd.R_reads' HO_7.out).2.2 (ji18) p468 q468; cases e468; replace p468 := eq_true p468; replace q468 := eq_true q468) | ((with_reducible refine gate_dst (N := 67) rfl ?_); (try (refine gate_guard (by rfl) ?_; dsimp only)); refine Kd.R_lit (Kd.int .u64) _ 34 ?hg (N := 67) ?hd (xs := ([t465] : List Int)) (inner := [.int .u64 t465]) (ok := fun _ => True) (okp := fun _ => True) ?hr ?hp (fun _ hk => hk) trivial (Below.refl _ _) (Nat.le_refl _) (by simp) ?_; (case hd => rfl); (case hg => rfl); (case hr => first | (go_simp; done) | (go_simp; rfl)); (case hp => exact (Reps.one (show Kd.M (Kd.int .u64) _ _ _ t465 [.int .u64 t465] from rfl) (Reps.none _ _))); intro v470 w28 ho29 hb hg_ hnew_; clear hg_ hnew_; (first | rw [← Ny469.out] at ho29 | (simp only [Int.reduceToNat] at ho29; rw [← Ny469.out] at ho29)); have n0_ := Aside0.mk (Kd.R_elder' (rR HO_7.out) (Kd.R_base ho29) hb); have n1_ := Aside0.mk (Kd.R_lower (Kd.R_new' ho29 (Kd.R_lt (rR HO_7.out))) (below_size bB)); have n2_ := Aside0.mk (below_step bB hb); clear HO_7; clear HB; have HO_7 := n0_; have HO471 := n1_; have HB := n2_; clear n0_ n1_ n2_; clear hb ho29; obtain ⟨Ao30, co30, eo30⟩ := Kd.R_slice HO471.out; subst eo30) | ((with_reducible refine gate_callee (f := 68) rfl ?_); refine goesL_ (some 70) rfl rfl Tryd.func68 (by kernel_rfl) rfl #[.slice Ao30 y469.length co30, .int .i64 (wrap64 (t464))] rfl (by (try simp only [List.map_toArray, List.map_cons, List.map_nil]); first | done | rfl | (simp only [List.length_drop, List.length_take]; rfl)) ?_; (with_reducible refine (slices_Repeat_uint64_uint64.calls _ _ y469 (wrap64 (t464)) t472 _ ?side1 ?side2 A24.out).mono ?_); (case side1 => exact cC (Kd.R_reads' HO471.out).2.2); (case side2 => exact (Kd.R_reads' HO471.out).2.1); rintro e w31 ⟨v473, rfl, ho0, hb⟩; refine ⟨_, rfl, ?_⟩; have n0_ := Aside0.mk (Kd.R_elder' (rR HO_7.out) (Kd.R_base ho0) hb); have n1_ := Aside0.mk (Kd.R_elder' (rR HO471.out) (Kd.R_base ho0) hb); have n2_ := Aside0.mk (Kd.R_lower (Kd.R_new' (Kd.R_new' ho0 (Kd.R_lt (rR HO_7.out))) (Kd.R_lt (rR HO471.out))) (below_size bB)); have n3_ := Aside0.mk (below_step bB hb); clear HO_7; clear HO471; clear HB; have HO_7 := n0_; have HO471 := n1_; have HO474 := n2_; have HB := n3_; clear n0_ n1_ n2_ n3_; (try clear hb ho0); obtain ⟨Ao33, co33, eo33⟩ := Kd.R_slice HO474.out; subst eo33) | ((with_reducible refine gate_builtin (b := .append) (xs := #[.tmp 65, .tmp 70]) rfl ?_); (try (refine gate_guard (by rfl) ?_; dsimp only)); at_builtin; refine Kd.R_append_rows (Kd.int .u64) (w0 := w) w.heap.size rfl (.tmp 65) (.tmp 70) 22 34 (.int .u64 0) 8 rfl Tryd.underlying22 info34 rfl (by decide) (by omega) (.slice (some ad468) x7_2.length co26) x7_2 t472 _ _ _ (fun k_ => some k_ ≠ (.slice Ao30 y469.length co30 : Value).ownBlock ∧ some k_ ≠ (.slice Ao33 t472.length co33 : Value).ownBlock) (fun _ => False) rfl rfl ?aO ?aR (fun _ _ h => h) (fun _ h => h.elim) ?aF ?aB ?aS ?aL ?_; (case aR => repeat (first | exact (Kd.R_reads' HO474.out).2.2 | (with_reducible refine Kd.C_alloc ?_ _) | (with_reducible refine Kd.C_drewN ?_ _) | (with_reducible refine Kd.C_drew ?_))); (case aB => exact bB); (case aF => exact (fun k_ hk => ⟨Kd.fresh' (Kd.R_lt (rR HO471.out)) k_ hk, Kd.fresh' (Kd.R_lt (rR HO474.out)) k_ hk⟩)); (case aO => exact (by (with_reducible repeat (first | apply Kd.R_alloc | apply Kd.R_drewN | apply Kd.R_drew)); exact Kd.R_mono HO_7.out (fun _ hk => ⟨hk.1.2, hk.2⟩))); (case aS => exact (below_size bB)); (case aL => have := LMc25.out; omega); intro v476 w32 ho hb hg hat; rw [← Ny475.out] at ho; have n0_ := Aside0.mk (Kd.R_after (ok := (fun k_ => some k_ ≠ (.slice Ao33 t472.length co33 : Value).ownBlock)) (by (with_reducible repeat (first | apply Kd.R_alloc | apply Kd.R_drewN | apply Kd.R_drew)); exact Kd.R_mono HO471.out (fun _ hk => ⟨hk.2, hk.1.2⟩)) hg hat); have n1_ := Aside0.mk (Kd.R_after (ok := (fun k_ => some k_ ≠ (.slice Ao30 y469.length co30 : Value).ownBlock)) (by (with_reducible repeat (first | apply Kd.R_alloc | apply Kd.R_drewN | apply Kd.R_drew)); exact Kd.R_mono HO474.out (fun _ hk => ⟨hk.2, hk.1.2⟩)) hg hat); have n2_ := Aside0.mk (hb); have n3_ := Aside0.mk (ho); clear HO471; clear HO474; clear HB; clear HO_7; have HO471 := n0_; have HO474 := n1_; have HB := n2_; have HO477 := n3_; clear n0_ n1_ n2_ n3_; clear ho hb hg hat))
                 go_roundg k2
                 case measure => have := HJ2.out; have := HK2.out; omega
                 case rel => exact ⟨(y475), (wrap64 (x8_2 + t466)), (by first | rfl | (simp; done) | (simp [*]; done)), H', ⟨by have := HJ2.out; have := HK2.out; omega⟩, ⟨by (with_reducible repeat (first | apply Kd.R_alloc | apply Kd.R_drewN | apply Kd.R_drew)); exact Kd.R_mono HO477.out (fun _ hk => trivial)⟩, ⟨bB⟩⟩
                ·rw [if_neg c25] at H
                 exact absurd H (by simp)
              ·rw [if_neg c20] at H
               exact absurd H (by simp)
             ·rw [if_neg c19] at H
              exact absurd H (by simp)
            ·rw [if_neg c17] at H
             have c17b0 : decide (0 < (x7_2.length : Int)) = false := decide_eq_false c17
             have c17b1 : decide (0 < x7_2.length) = false := decide_eq_false (by omega)
             clear c17
             obtain ⟨y478, hy478⟩ : ∃ y_ : List Int, y_ = (([t465] : List Int)) := ⟨_, rfl⟩
             replace H : ((slices_Repeat_uint64_uint64.f y478 (wrap64 (t464))).bind fun t481 => (if x7_2.length + t481.length < 17592186044416 then (runs_Get.l0 k2 l0 a1 (x7_2 ++ t481) (wrap64 (x8_2 + t466))) else (none))) = some (r1, r2, r3) := by first | (rw [hy478]; with_reducible exact H) | (have H2_ := (Option.bind_some _ _).symm.trans H; rw [hy478]; with_reducible exact H2_) | (have H2_ := (Option.bind_some _ _).symm.trans H; with_reducible exact H2_) | with_reducible exact H | (rw [hy478]; exact H) | exact H
             have Ny478 := Aside0.mk hy478
             clear hy478
             replace H := Option.bind_eq_some_iff.mp H
             obtain ⟨t481, A340, H⟩ := H
             replace H : (if x7_2.length + t481.length < 17592186044416 then (runs_Get.l0 k2 l0 a1 (x7_2 ++ t481) (wrap64 (x8_2 + t466))) else (none)) = some (r1, r2, r3) := H
             have A34 := Aside0.mk A340
             clear A340
             by_cases c35 : x7_2.length + t481.length < 17592186044416
             ·rw [if_pos c35] at H
              have LMc35 := Aside0.mk c35
              clear c35
              obtain ⟨y484, hy484⟩ : ∃ y_ : List Int, y_ = (x7_2 ++ t481) := ⟨_, rfl⟩
              replace H : (runs_Get.l0 k2 l0 a1 y484 (wrap64 (x8_2 + t466))) = some (r1, r2, r3) := by first | (rw [hy484]; with_reducible exact H) | (have H2_ := (Option.bind_some _ _).symm.trans H; rw [hy484]; with_reducible exact H2_) | (have H2_ := (Option.bind_some _ _).symm.trans H; with_reducible exact H2_) | with_reducible exact H | (rw [hy484]; exact H) | exact H
              have Ny484 := Aside0.mk hy484
              clear hy484
              have H' := Aside0.mk H
              clear H
              obtain ⟨Ao36, co36, eo36⟩ := Kd.R_slice HO_7.out
              subst eo36
              obtain ⟨i037, hi037, _, hsz37, _⟩ := info_parts info5
              obtain ⟨A37, hcut37, hA37, hC37⟩ := print_drop_of (P := Tryd.prog) (Value.int .u8) 0 23 5 .i64 Tryd.underlying23 hi037 hsz37 A0 c0 l0 x8_2 (of_decide_eq_true (by first | (with_reducible assumption) | assumption)) (of_decide_eq_true (by first | (with_reducible assumption) | assumption)) HC0.out
              have HR463 := Aside0.mk (Kd.C_of_reads (h1 := fun _ => rfl) (hA37 _ (Kd.reads_of_C HR0.out)))
              have HC463 := Aside0.mk hC37
              clear hA37 hC37 hi037 hsz37
              go_wp2_with (first | ((with_reducible refine gate_callee (f := 67) rfl ?_); refine goesL_ (some 28) rfl rfl Tryd.func67 (by kernel_rfl) rfl #[.slice A37 (l0.drop (x8_2 : Int).toNat).length (c0 - x8_2.toNat)] rfl (by (try simp only [List.map_toArray, List.map_cons, List.map_nil]); first | done | (rw [show (l0.drop (x8_2 : Int).toNat).length = (l0.length - x8_2.toNat) from List.length_drop] <;> rfl) | rfl | (simp only [List.length_drop, List.length_take]; rfl)) ?_; (with_reducible refine (runs_pair.calls k2 _ _ (l0.drop (x8_2 : Int).toNat) t464 t465 t466 t467 _ ?side1 ?side2 A9.out).mono ?_); (case side1 => exact cC (Kd.C_below HR463.out HB.out)); (case side2 => exact HC463.out); rintro e w' ⟨rfl, ⟨nd, rfl⟩⟩; refine ⟨_, rfl, ?_⟩) | ((with_reducible refine gate_dst (N := 67) rfl ?_); (try (refine gate_guard (by rfl) ?_; dsimp only)); refine Kd.R_lit (Kd.int .u64) _ 34 ?hg (N := 67) ?hd (xs := ([t465] : List Int)) (inner := [.int .u64 t465]) (ok := fun _ => True) (okp := fun _ => True) ?hr ?hp (fun _ hk => hk) trivial (Below.refl _ _) (Nat.le_refl _) (by simp) ?_; (case hd => rfl); (case hg => rfl); (case hr => first | (go_simp; done) | (go_simp; rfl)); (case hp => exact (Reps.one (show Kd.M (Kd.int .u64) _ _ _ t465 [.int .u64 t465] from rfl) (Reps.none _ _))); intro v479 w38 ho39 hb hg_ hnew_; clear hg_ hnew_; (first | rw [← Ny478.out] at ho39 | (simp only [Int.reduceToNat] at ho39; rw [← Ny478.out] at ho39)); have n0_ := Aside0.mk (Kd.R_elder' (rR HO_7.out) (Kd.R_base ho39) hb); have n1_ := Aside0.mk (Kd.R_lower (Kd.R_new' ho39 (Kd.R_lt (rR HO_7.out))) (below_size bB)); have n2_ := Aside0.mk (below_step bB hb); clear HO_7; clear HB; have HO_7 := n0_; have HO480 := n1_; have HB := n2_; clear n0_ n1_ n2_; clear hb ho39; obtain ⟨Ao40, co40, eo40⟩ := Kd.R_slice HO480.out; subst eo40) | ((with_reducible refine gate_callee (f := 68) rfl ?_); refine goesL_ (some 70) rfl rfl Tryd.func68 (by kernel_rfl) rfl #[.slice Ao40 y478.length co40, .int .i64 (wrap64 (t464))] rfl (by (try simp only [List.map_toArray, List.map_cons, List.map_nil]); first | done | rfl | (simp only [List.length_drop, List.length_take]; rfl)) ?_; (with_reducible refine (slices_Repeat_uint64_uint64.calls _ _ y478 (wrap64 (t464)) t481 _ ?side1 ?side2 A34.out).mono ?_); (case side1 => exact cC (Kd.R_reads' HO480.out).2.2); (case side2 => exact (Kd.R_reads' HO480.out).2.1); rintro e w41 ⟨v482, rfl, ho0, hb⟩; refine ⟨_, rfl, ?_⟩; have n0_ := Aside0.mk (Kd.R_elder' (rR HO_7.out) (Kd.R_base ho0) hb); have n1_ := Aside0.mk (Kd.R_elder' (rR HO480.out) (Kd.R_base ho0) hb); have n2_ := Aside0.mk (Kd.R_lower (Kd.R_new' (Kd.R_new' ho0 (Kd.R_lt (rR HO_7.out))) (Kd.R_lt (rR HO480.out))) (below_size bB)); have n3_ := Aside0.mk (below_step bB hb); clear HO_7; clear HO480; clear HB; have HO_7 := n0_; have HO480 := n1_; have HO483 := n2_; have HB := n3_; clear n0_ n1_ n2_ n3_; (try clear hb ho0); obtain ⟨Ao43, co43, eo43⟩ := Kd.R_slice HO483.out; subst eo43) | ((with_reducible refine gate_builtin (b := .append) (xs := #[.tmp 65, .tmp 70]) rfl ?_); (try (refine gate_guard (by rfl) ?_; dsimp only)); at_builtin; refine Kd.R_append_rows (Kd.int .u64) (w0 := w) w.heap.size rfl (.tmp 65) (.tmp 70) 22 34 (.int .u64 0) 8 rfl Tryd.underlying22 info34 rfl (by decide) (by omega) (.slice Ao36 x7_2.length co36) x7_2 t481 _ _ _ (fun k_ => some k_ ≠ (.slice Ao40 y478.length co40 : Value).ownBlock ∧ some k_ ≠ (.slice Ao43 t481.length co43 : Value).ownBlock) (fun _ => False) rfl rfl ?aO ?aR (fun _ _ h => h) (fun _ h => h.elim) ?aF ?aB ?aS ?aL ?_; (case aR => repeat (first | exact (Kd.R_reads' HO483.out).2.2 | (with_reducible refine Kd.C_alloc ?_ _) | (with_reducible refine Kd.C_drewN ?_ _) | (with_reducible refine Kd.C_drew ?_))); (case aB => exact bB); (case aF => exact (fun k_ hk => ⟨Kd.fresh' (Kd.R_lt (rR HO480.out)) k_ hk, Kd.fresh' (Kd.R_lt (rR HO483.out)) k_ hk⟩)); (case aO => exact (by (with_reducible repeat (first | apply Kd.R_alloc | apply Kd.R_drewN | apply Kd.R_drew)); exact Kd.R_mono HO_7.out (fun _ hk => ⟨hk.1.2, hk.2⟩))); (case aS => exact (below_size bB)); (case aL => have := LMc35.out; omega); intro v485 w42 ho hb hg hat; rw [← Ny484.out] at ho; have n0_ := Aside0.mk (Kd.R_after (ok := (fun k_ => some k_ ≠ (.slice Ao43 t481.length co43 : Value).ownBlock)) (by (with_reducible repeat (first | apply Kd.R_alloc | apply Kd.R_drewN | apply Kd.R_drew)); exact Kd.R_mono HO480.out (fun _ hk => ⟨hk.2, hk.1.2⟩)) hg hat); have n1_ := Aside0.mk (Kd.R_after (ok := (fun k_ => some k_ ≠ (.slice Ao40 y478.length co40 : Value).ownBlock)) (by (with_reducible repeat (first | apply Kd.R_alloc | apply Kd.R_drewN | apply Kd.R_drew)); exact Kd.R_mono HO483.out (fun _ hk => ⟨hk.2, hk.1.2⟩)) hg hat); have n2_ := Aside0.mk (hb); have n3_ := Aside0.mk (ho); clear HO480; clear HO483; clear HB; clear HO_7; have HO480 := n0_; have HO483 := n1_; have HB := n2_; have HO486 := n3_; clear n0_ n1_ n2_ n3_; clear ho hb hg hat))
              go_roundg k2
              case measure => have := HJ2.out; have := HK2.out; omega
              case rel => exact ⟨(y484), (wrap64 (x8_2 + t466)), (by first | rfl | (simp; done) | (simp [*]; done)), H', ⟨by have := HJ2.out; have := HK2.out; omega⟩, ⟨by (with_reducible repeat (first | apply Kd.R_alloc | apply Kd.R_drewN | apply Kd.R_drew)); exact Kd.R_mono HO486.out (fun _ hk => trivial)⟩, ⟨bB⟩⟩
             ·rw [if_neg c35] at H
              exact absurd H (by simp)
         ·rw [if_neg c10] at H
          have c10b0 : (t467 == 0) = false := beq_eq_false_iff_ne.mpr c10
          have c10b1 : (t467 != 0) = true := bne_iff_ne.mpr c10
          simp only [Option.some.injEq, Prod.mk.injEq] at H
          obtain ⟨rfl, rfl, rfl⟩ := H
          obtain ⟨Ao44, co44, eo44⟩ := Kd.R_slice HO_7.out
          subst eo44
          obtain ⟨i045, hi045, _, hsz45, _⟩ := info_parts info5
          obtain ⟨A45, hcut45, hA45, hC45⟩ := print_drop_of (P := Tryd.prog) (Value.int .u8) 0 23 5 .i64 Tryd.underlying23 hi045 hsz45 A0 c0 l0 x8_2 (of_decide_eq_true (by first | (with_reducible assumption) | assumption)) (of_decide_eq_true (by first | (with_reducible assumption) | assumption)) HC0.out
          have HR463 := Aside0.mk (Kd.C_of_reads (h1 := fun _ => rfl) (hA45 _ (Kd.reads_of_C HR0.out)))
          have HC463 := Aside0.mk hC45
          clear hA45 hC45 hi045 hsz45
          go_wp2_with (first | ((with_reducible refine gate_callee (f := 67) rfl ?_); refine goesL_ (some 28) rfl rfl Tryd.func67 (by kernel_rfl) rfl #[.slice A45 (l0.drop (x8_2 : Int).toNat).length (c0 - x8_2.toNat)] rfl (by (try simp only [List.map_toArray, List.map_cons, List.map_nil]); first | done | (rw [show (l0.drop (x8_2 : Int).toNat).length = (l0.length - x8_2.toNat) from List.length_drop] <;> rfl) | rfl | (simp only [List.length_drop, List.length_take]; rfl)) ?_; (with_reducible refine (runs_pair.calls k2 _ _ (l0.drop (x8_2 : Int).toNat) t464 t465 t466 t467 _ ?side1 ?side2 A9.out).mono ?_); (case side1 => exact cC (Kd.C_below HR463.out HB.out)); (case side2 => exact HC463.out); rintro e w' ⟨rfl, ⟨nd, rfl⟩⟩; refine ⟨_, rfl, ?_⟩))
          go_ret3
          exact ⟨_, by first | rfl | (simp [errW_none, errW_some] <;> rfl) | (simp [*, errW_none, errW_some] <;> rfl), by first | exact Kd.R_nil _ _ _ _ _ | exact Kd.N_nil _ _ _ _ _ | exact Kd.V_nil _ _ _ _ _ | exact Kd.Q_nil _ _ _ _ _ | exact Kd.S_nil _ _ _ _ _, bB⟩
        ·rw [if_neg c8] at H
         exact absurd H (by simp)
       ·rw [if_neg c7] at H
        exact absurd H (by simp)
      ·rw [if_neg c6] at H
       have c6b0 : decide ((x7_2.length : Int) < a1) = false := decide_eq_false c6
       clear c6
       simp only [Option.some.injEq, Prod.mk.injEq] at H
       obtain ⟨rfl, rfl, rfl⟩ := H
       obtain ⟨Ao46, co46, eo46⟩ := Kd.R_slice HO_7.out
       subst eo46
       go_wp2
       go_ret3
       exact ⟨_, by first | rfl | (simp [errW_none, errW_some] <;> rfl) | (simp [*, errW_none, errW_some] <;> rfl), rR HO_7.out, bB⟩


/-! ### xors_take: function 29 -/
def xors_take.f (k : Nat) (s0_0 : List Int) (s0_1 : Int) (s0_2 : Bool) : Option (Int × Int × Bool) := (bits_Reader_Take.f k s0_0 s0_1 s0_2 1).bind fun bt149 => (if bt149.1 = 0 then (some (0, bt149.2.1, bt149.2.2)) else ((bits_Reader_Take.f k s0_0 bt149.2.1 bt149.2.2 6).bind fun bt152 => ((bits_Reader_Take.f k s0_0 bt152.2.1 bt152.2.2 6).bind fun bt155 => ((bits_Reader_Take.f k s0_0 bt155.2.1 bt155.2.2 (wrap64 ((wrap64 (bt155.1)) + 1))).bind fun bt158 => (if (wrap64 ((wrap64 (bt152.1)) + (wrap64 ((wrap64 (bt155.1)) + 1)))) > 64 then (some (0, bt158.2.1, bt158.2.2)) else (if 0 ≤ (wrap64 ((wrap64 (64 - (wrap64 (bt152.1)))) - (wrap64 ((wrap64 (bt155.1)) + 1)))) then (some (shl .u64 bt158.1 (wrap64 ((wrap64 (64 - (wrap64 (bt152.1)))) - (wrap64 ((wrap64 (bt155.1)) + 1)))), bt158.2.1, bt158.2.2)) else (none)))))))
theorem xors_take.mono : ∀ a0 a1 a2 k, LeO (xors_take.f k a0 a1 a2) (xors_take.f (k + 1) a0 a1 a2) := by
 intro a0 a1 a2 k
 unfold xors_take.f
 repeat' first
   | (with_reducible exact bits_Reader_Take.mono _ _ _ _ _)
   | (with_reducible exact LeO.refl _)
   | (with_reducible exact LeO.none _)
   | (with_reducible refine LeO.ite ?_ ?_)
   | (with_reducible refine LeO.bind ?_ (fun _ => ?_))
   | exact bits_Reader_Take.mono _ _ _ _ _
   | exact LeO.none _
   | refine LeO.ite ?_ ?_
   | refine LeO.bind ?_ (fun _ => ?_)
set_option maxHeartbeats 8000000 in
set_option maxRecDepth 100000 in
theorem xors_take.calls (k : Nat) (g : Nat) (s0_0 : List Int) (s0_1 : Int) (s0_2 : Bool) (r1 : Int) (r2 : Int) (r3 : Bool) (w0 w : World) (hI : IsS75 w0 w g s0_0 s0_1 s0_2) (hB : Below w0.heap.size w0 w) (h : xors_take.f k s0_0 s0_1 s0_2 = some (r1, r2, r3)) :
  Calls Tryd.prog 29 #[.pointer (some ⟨g, 0, none⟩)] w fun e w' => e = .returned (.int .u64 r1) ∧ IsS75 w0 w' g s0_0 r2 r3 ∧ Below w0.heap.size w0 w' ∧ KeepBut w w' g none := by
 have HI0 := Aside0.mk hI
 have HK := Aside0.mk (KeepBut.refl w g none)
 have HL := Aside0.mk hB.size
 clear hI
 have HW0 := Aside0.mk hB.size
 have HB := Aside0.mk hB
 clear hB
 have H : ((bits_Reader_Take.f k s0_0 s0_1 s0_2 1).bind fun bt149 => (if bt149.1 = 0 then (some (0, bt149.2.1, bt149.2.2)) else ((bits_Reader_Take.f k s0_0 bt149.2.1 bt149.2.2 6).bind fun bt152 => ((bits_Reader_Take.f k s0_0 bt152.2.1 bt152.2.2 6).bind fun bt155 => ((bits_Reader_Take.f k s0_0 bt155.2.1 bt155.2.2 (wrap64 ((wrap64 (bt155.1)) + 1))).bind fun bt158 => (if (wrap64 ((wrap64 (bt152.1)) + (wrap64 ((wrap64 (bt155.1)) + 1)))) > 64 then (some (0, bt158.2.1, bt158.2.2)) else (if 0 ≤ (wrap64 ((wrap64 (64 - (wrap64 (bt152.1)))) - (wrap64 ((wrap64 (bt155.1)) + 1)))) then (some (shl .u64 bt158.1 (wrap64 ((wrap64 (64 - (wrap64 (bt152.1)))) - (wrap64 ((wrap64 (bt155.1)) + 1)))), bt158.2.1, bt158.2.2)) else (none)))))))) = some (r1, r2, r3) := h
 clear h
 replace H := Option.bind_eq_some_iff.mp H
 obtain ⟨⟨t149, t150, t151⟩, A20, H⟩ := H
 replace H : (if t149 = 0 then (some (0, t150, t151)) else ((bits_Reader_Take.f k s0_0 t150 t151 6).bind fun bt152 => ((bits_Reader_Take.f k s0_0 bt152.2.1 bt152.2.2 6).bind fun bt155 => ((bits_Reader_Take.f k s0_0 bt155.2.1 bt155.2.2 (wrap64 ((wrap64 (bt155.1)) + 1))).bind fun bt158 => (if (wrap64 ((wrap64 (bt152.1)) + (wrap64 ((wrap64 (bt155.1)) + 1)))) > 64 then (some (0, bt158.2.1, bt158.2.2)) else (if 0 ≤ (wrap64 ((wrap64 (64 - (wrap64 (bt152.1)))) - (wrap64 ((wrap64 (bt155.1)) + 1)))) then (some (shl .u64 bt158.1 (wrap64 ((wrap64 (64 - (wrap64 (bt152.1)))) - (wrap64 ((wrap64 (bt155.1)) + 1)))), bt158.2.1, bt158.2.2)) else (none))))))) = some (r1, r2, r3) := H
 have A2 := Aside0.mk A20
 clear A20
 by_cases c3 : t149 = 0
 ·rw [if_pos c3] at H
  have c3b0 : (t149 == 0) = true := beq_iff_eq.mpr c3
  have c3b1 : (t149 != 0) = false := bne_eq_false_iff_eq.mpr c3
  clear c3
  simp only [Option.some.injEq, Prod.mk.injEq] at H
  obtain ⟨rfl, rfl, rfl⟩ := H
  go_enter Tryd.func29, Tryd.ntmps29
  go_wp2_with (first | ((with_reducible refine gate_callee (f := 28) rfl ?_); refine goesL_ (some 7) rfl rfl Tryd.func28 (by kernel_rfl) rfl #[.pointer (some ⟨g, 0, none⟩), .int .i64 1] rfl (by (try simp only [List.map_toArray, List.map_cons, List.map_nil]); first | done | rfl | (simp only [List.length_drop, List.length_take]; rfl)) ?_; (with_reducible refine (bits_Reader_Take.calls k g s0_0 s0_1 s0_2 1 t149 t150 t151 w0 _ ?side1 ?side2 A2.out).mono ?_); (case side1 => repeat (first | (with_reducible first | exact HI0.out | apply IsS75.alloc | apply IsS75.drewN | apply IsS75.drew | apply IsS75.set_1 | apply IsS75.set_2) | exact HI0.out)); (case side2 => repeat (first | (with_reducible first | exact HB.out | apply below_alloc | apply pw_below_drewN | apply below_drew1 | refine below_set ?_ (IsS75.ge HI0.out)) | exact HB.out)); rintro e w4 ⟨rfl, hi, hb, hk⟩; refine ⟨_, rfl, ?_⟩; have n0_ := Aside0.mk (KeepBut.trans (by repeat (first | (with_reducible first | exact HK.out | apply KeepBut.set_ | apply keep_drewN | apply keep_drew | apply keep_alloc) | exact HK.out)) hk (.inl rfl)); have n1_ := Aside0.mk (hb); have n2_ := Aside0.mk (hi); clear HK; clear HB; clear HI0; have HK := n0_; have HB := n1_; have HI0 := n2_; clear n0_ n1_ n2_; (try clear hb hk hi)))
  go_ret
  exact ⟨by first | rfl | (simp [errW_none, errW_some] <;> rfl) | (simp [*, errW_none, errW_some] <;> rfl), by repeat (first | (with_reducible first | exact HI0.out | apply IsS75.alloc | apply IsS75.drewN | apply IsS75.drew | apply IsS75.set_1 | apply IsS75.set_2) | exact HI0.out), by repeat (first | (with_reducible first | exact HB.out | apply below_alloc | apply pw_below_drewN | apply below_drew1 | refine below_set ?_ (IsS75.ge HI0.out)) | exact HB.out), by repeat (first | (with_reducible first | exact HK.out | apply KeepBut.set_ | apply keep_drewN | apply keep_drew | apply keep_alloc) | exact HK.out)⟩
 ·rw [if_neg c3] at H
  have c3b0 : (t149 == 0) = false := beq_eq_false_iff_ne.mpr c3
  have c3b1 : (t149 != 0) = true := bne_iff_ne.mpr c3
  replace H := Option.bind_eq_some_iff.mp H
  obtain ⟨⟨t152, t153, t154⟩, A50, H⟩ := H
  replace H : ((bits_Reader_Take.f k s0_0 t153 t154 6).bind fun bt155 => ((bits_Reader_Take.f k s0_0 bt155.2.1 bt155.2.2 (wrap64 ((wrap64 (bt155.1)) + 1))).bind fun bt158 => (if (wrap64 ((wrap64 (t152)) + (wrap64 ((wrap64 (bt155.1)) + 1)))) > 64 then (some (0, bt158.2.1, bt158.2.2)) else (if 0 ≤ (wrap64 ((wrap64 (64 - (wrap64 (t152)))) - (wrap64 ((wrap64 (bt155.1)) + 1)))) then (some (shl .u64 bt158.1 (wrap64 ((wrap64 (64 - (wrap64 (t152)))) - (wrap64 ((wrap64 (bt155.1)) + 1)))), bt158.2.1, bt158.2.2)) else (none))))) = some (r1, r2, r3) := H
  have A5 := Aside0.mk A50
  clear A50
  replace H := Option.bind_eq_some_iff.mp H
  obtain ⟨⟨t155, t156, t157⟩, A60, H⟩ := H
  replace H : ((bits_Reader_Take.f k s0_0 t156 t157 (wrap64 ((wrap64 (t155)) + 1))).bind fun bt158 => (if (wrap64 ((wrap64 (t152)) + (wrap64 ((wrap64 (t155)) + 1)))) > 64 then (some (0, bt158.2.1, bt158.2.2)) else (if 0 ≤ (wrap64 ((wrap64 (64 - (wrap64 (t152)))) - (wrap64 ((wrap64 (t155)) + 1)))) then (some (shl .u64 bt158.1 (wrap64 ((wrap64 (64 - (wrap64 (t152)))) - (wrap64 ((wrap64 (t155)) + 1)))), bt158.2.1, bt158.2.2)) else (none)))) = some (r1, r2, r3) := H
  have A6 := Aside0.mk A60
  clear A60
  replace H := Option.bind_eq_some_iff.mp H
  obtain ⟨⟨t158, t159, t160⟩, A70, H⟩ := H
  replace H : (if (wrap64 ((wrap64 (t152)) + (wrap64 ((wrap64 (t155)) + 1)))) > 64 then (some (0, t159, t160)) else (if 0 ≤ (wrap64 ((wrap64 (64 - (wrap64 (t152)))) - (wrap64 ((wrap64 (t155)) + 1)))) then (some (shl .u64 t158 (wrap64 ((wrap64 (64 - (wrap64 (t152)))) - (wrap64 ((wrap64 (t155)) + 1)))), t159, t160)) else (none))) = some (r1, r2, r3) := H
  have A7 := Aside0.mk A70
  clear A70
  by_cases c8 : (wrap64 ((wrap64 (t152)) + (wrap64 ((wrap64 (t155)) + 1)))) > 64
  ·rw [if_pos c8] at H
   have c8b0 : decide (64 < (wrap64 ((wrap64 (t152)) + (wrap64 ((wrap64 (t155)) + 1))))) = true := decide_eq_true c8
   clear c8
   simp only [Option.some.injEq, Prod.mk.injEq] at H
   obtain ⟨rfl, rfl, rfl⟩ := H
   go_enter Tryd.func29, Tryd.ntmps29
   go_wp2_with (first | ((with_reducible refine gate_callee (f := 28) rfl ?_); refine goesL_ (some 7) rfl rfl Tryd.func28 (by kernel_rfl) rfl #[.pointer (some ⟨g, 0, none⟩), .int .i64 1] rfl (by (try simp only [List.map_toArray, List.map_cons, List.map_nil]); first | done | rfl | (simp only [List.length_drop, List.length_take]; rfl)) ?_; (with_reducible refine (bits_Reader_Take.calls k g s0_0 s0_1 s0_2 1 t149 t150 t151 w0 _ ?side1 ?side2 A2.out).mono ?_); (case side1 => repeat (first | (with_reducible first | exact HI0.out | apply IsS75.alloc | apply IsS75.drewN | apply IsS75.drew | apply IsS75.set_1 | apply IsS75.set_2) | exact HI0.out)); (case side2 => repeat (first | (with_reducible first | exact HB.out | apply below_alloc | apply pw_below_drewN | apply below_drew1 | refine below_set ?_ (IsS75.ge HI0.out)) | exact HB.out)); rintro e w9 ⟨rfl, hi, hb, hk⟩; refine ⟨_, rfl, ?_⟩; have n0_ := Aside0.mk (KeepBut.trans (by repeat (first | (with_reducible first | exact HK.out | apply KeepBut.set_ | apply keep_drewN | apply keep_drew | apply keep_alloc) | exact HK.out)) hk (.inl rfl)); have n1_ := Aside0.mk (hb); have n2_ := Aside0.mk (hi); clear HK; clear HB; clear HI0; have HK := n0_; have HB := n1_; have HI0 := n2_; clear n0_ n1_ n2_; (try clear hb hk hi)) | ((with_reducible refine gate_callee (f := 28) rfl ?_); refine goesL_ (some 10) rfl rfl Tryd.func28 (by kernel_rfl) rfl #[.pointer (some ⟨g, 0, none⟩), .int .i64 6] rfl (by (try simp only [List.map_toArray, List.map_cons, List.map_nil]); first | done | rfl | (simp only [List.length_drop, List.length_take]; rfl)) ?_; (with_reducible refine (bits_Reader_Take.calls k g s0_0 t150 t151 6 t152 t153 t154 w0 _ ?side1 ?side2 A5.out).mono ?_); (case side1 => repeat (first | (with_reducible first | exact HI0.out | apply IsS75.alloc | apply IsS75.drewN | apply IsS75.drew | apply IsS75.set_1 | apply IsS75.set_2) | exact HI0.out)); (case side2 => repeat (first | (with_reducible first | exact HB.out | apply below_alloc | apply pw_below_drewN | apply below_drew1 | refine below_set ?_ (IsS75.ge HI0.out)) | exact HB.out)); rintro e w10 ⟨rfl, hi, hb, hk⟩; refine ⟨_, rfl, ?_⟩; have n0_ := Aside0.mk (KeepBut.trans (by repeat (first | (with_reducible first | exact HK.out | apply KeepBut.set_ | apply keep_drewN | apply keep_drew | apply keep_alloc) | exact HK.out)) hk (.inl rfl)); have n1_ := Aside0.mk (hb); have n2_ := Aside0.mk (hi); clear HK; clear HB; clear HI0; have HK := n0_; have HB := n1_; have HI0 := n2_; clear n0_ n1_ n2_; (try clear hb hk hi)) | ((with_reducible refine gate_callee (f := 28) rfl ?_); refine goesL_ (some 13) rfl rfl Tryd.func28 (by kernel_rfl) rfl #[.pointer (some ⟨g, 0, none⟩), .int .i64 6] rfl (by (try simp only [List.map_toArray, List.map_cons, List.map_nil]); first | done | rfl | (simp only [List.length_drop, List.length_take]; rfl)) ?_; (with_reducible refine (bits_Reader_Take.calls k g s0_0 t153 t154 6 t155 t156 t157 w0 _ ?side1 ?side2 A6.out).mono ?_); (case side1 => repeat (first | (with_reducible first | exact HI0.out | apply IsS75.alloc | apply IsS75.drewN | apply IsS75.drew | apply IsS75.set_1 | apply IsS75.set_2) | exact HI0.out)); (case side2 => repeat (first | (with_reducible first | exact HB.out | apply below_alloc | apply pw_below_drewN | apply below_drew1 | refine below_set ?_ (IsS75.ge HI0.out)) | exact HB.out)); rintro e w11 ⟨rfl, hi, hb, hk⟩; refine ⟨_, rfl, ?_⟩; have n0_ := Aside0.mk (KeepBut.trans (by repeat (first | (with_reducible first | exact HK.out | apply KeepBut.set_ | apply keep_drewN | apply keep_drew | apply keep_alloc) | exact HK.out)) hk (.inl rfl)); have n1_ := Aside0.mk (hb); have n2_ := Aside0.mk (hi); clear HK; clear HB; clear HI0; have HK := n0_; have HB := n1_; have HI0 := n2_; clear n0_ n1_ n2_; (try clear hb hk hi)) | ((with_reducible refine gate_callee (f := 28) rfl ?_); refine goesL_ (some 18) rfl rfl Tryd.func28 (by kernel_rfl) rfl #[.pointer (some ⟨g, 0, none⟩), .int .i64 (wrap64 ((wrap64 (t155)) + 1))] rfl (by (try simp only [List.map_toArray, List.map_cons, List.map_nil]); first | done | rfl | (simp only [List.length_drop, List.length_take]; rfl)) ?_; (with_reducible refine (bits_Reader_Take.calls k g s0_0 t156 t157 (wrap64 ((wrap64 (t155)) + 1)) t158 t159 t160 w0 _ ?side1 ?side2 A7.out).mono ?_); (case side1 => repeat (first | (with_reducible first | exact HI0.out | apply IsS75.alloc | apply IsS75.drewN | apply IsS75.drew | apply IsS75.set_1 | apply IsS75.set_2) | exact HI0.out)); (case side2 => repeat (first | (with_reducible first | exact HB.out | apply below_alloc | apply pw_below_drewN | apply below_drew1 | refine below_set ?_ (IsS75.ge HI0.out)) | exact HB.out)); rintro e w12 ⟨rfl, hi, hb, hk⟩; refine ⟨_, rfl, ?_⟩; have n0_ := Aside0.mk (KeepBut.trans (by repeat (first | (with_reducible first | exact HK.out | apply KeepBut.set_ | apply keep_drewN | apply keep_drew | apply keep_alloc) | exact HK.out)) hk (.inl rfl)); have n1_ := Aside0.mk (hb); have n2_ := Aside0.mk (hi); clear HK; clear HB; clear HI0; have HK := n0_; have HB := n1_; have HI0 := n2_; clear n0_ n1_ n2_; (try clear hb hk hi)))
   go_ret
   exact ⟨by first | rfl | (simp [errW_none, errW_some] <;> rfl) | (simp [*, errW_none, errW_some] <;> rfl), by repeat (first | (with_reducible first | exact HI0.out | apply IsS75.alloc | apply IsS75.drewN | apply IsS75.drew | apply IsS75.set_1 | apply IsS75.set_2) | exact HI0.out), by repeat (first | (with_reducible first | exact HB.out | apply below_alloc | apply pw_below_drewN | apply below_drew1 | refine below_set ?_ (IsS75.ge HI0.out)) | exact HB.out), by repeat (first | (with_reducible first | exact HK.out | apply KeepBut.set_ | apply keep_drewN | apply keep_drew | apply keep_alloc) | exact HK.out)⟩
  ·rw [if_neg c8] at H
   have c8b0 : decide (64 < (wrap64 ((wrap64 (t152)) + (wrap64 ((wrap64 (t155)) + 1))))) = false := decide_eq_false c8
   clear c8
   obtain ⟨ji13, hji13⟩ : ∃ j_ : Int, (wrap64 ((wrap64 (64 - (wrap64 (t152)))) - (wrap64 ((wrap64 (t155)) + 1)))) = j_ := ⟨_, rfl⟩
   replace H : (if 0 ≤ (ji13) then (some (shl .u64 t158 (ji13), t159, t160)) else (none)) = some (r1, r2, r3) := by first | (rw [hji13] at H; exact H) | (simp only [hji13] at H ⊢; exact H)
   (try rw [hji13] at A2)
   (try rw [hji13] at A5)
   (try rw [hji13] at A6)
   (try rw [hji13] at A7)
   have hji13w : (IntKind.i64.wrap ((wrap64 (64 - (wrap64 (t152)))) - (wrap64 ((wrap64 (t155)) + 1)))) = ji13 := (i64_w _).trans hji13
   by_cases c14 : 0 ≤ (ji13)
   ·rw [if_pos c14] at H
    have c14b0 := eq_true c14
    have c14b1 : decide (0 ≤ (ji13)) = true := decide_eq_true c14
    clear c14
    obtain ⟨ji15, hji15⟩ : ∃ j_ : Int, (shl .u64 t158 (ji13)) = j_ := ⟨_, rfl⟩
    replace H : (some (ji15, t159, t160)) = some (r1, r2, r3) := by first | (rw [hji15] at H; exact H) | (simp only [hji15] at H ⊢; exact H)
    (try rw [hji15] at A2)
    (try rw [hji15] at A5)
    (try rw [hji15] at A6)
    (try rw [hji15] at A7)
    have hji15_ : (IntKind.u64.wrap (t158 * 2 ^ min (ji13).toNat 64)) = ji15 := hji15
    have hji15z : (ji13) ≤ 64 → (IntKind.u64.wrap (t158 * 2 ^ (ji13).toNat)) = ji15 := shl_small hji15
    simp only [Option.some.injEq, Prod.mk.injEq] at H
    obtain ⟨rfl, rfl, rfl⟩ := H
    go_enter Tryd.func29, Tryd.ntmps29
    go_wp2_with (first | ((with_reducible refine gate_callee (f := 28) rfl ?_); refine goesL_ (some 7) rfl rfl Tryd.func28 (by kernel_rfl) rfl #[.pointer (some ⟨g, 0, none⟩), .int .i64 1] rfl (by (try simp only [List.map_toArray, List.map_cons, List.map_nil]); first | done | rfl | (simp only [List.length_drop, List.length_take]; rfl)) ?_; (with_reducible refine (bits_Reader_Take.calls k g s0_0 s0_1 s0_2 1 t149 t150 t151 w0 _ ?side1 ?side2 A2.out).mono ?_); (case side1 => repeat (first | (with_reducible first | exact HI0.out | apply IsS75.alloc | apply IsS75.drewN | apply IsS75.drew | apply IsS75.set_1 | apply IsS75.set_2) | exact HI0.out)); (case side2 => repeat (first | (with_reducible first | exact HB.out | apply below_alloc | apply pw_below_drewN | apply below_drew1 | refine below_set ?_ (IsS75.ge HI0.out)) | exact HB.out)); rintro e w16 ⟨rfl, hi, hb, hk⟩; refine ⟨_, rfl, ?_⟩; have n0_ := Aside0.mk (KeepBut.trans (by repeat (first | (with_reducible first | exact HK.out | apply KeepBut.set_ | apply keep_drewN | apply keep_drew | apply keep_alloc) | exact HK.out)) hk (.inl rfl)); have n1_ := Aside0.mk (hb); have n2_ := Aside0.mk (hi); clear HK; clear HB; clear HI0; have HK := n0_; have HB := n1_; have HI0 := n2_; clear n0_ n1_ n2_; (try clear hb hk hi)) | ((with_reducible refine gate_callee (f := 28) rfl ?_); refine goesL_ (some 10) rfl rfl Tryd.func28 (by kernel_rfl) rfl #[.pointer (some ⟨g, 0, none⟩), .int .i64 6] rfl (by (try simp only [List.map_toArray, List.map_cons, List.map_nil]); first | done | rfl | (simp only [List.length_drop, List.length_take]; rfl)) ?_; (with_reducible refine (bits_Reader_Take.calls k g s0_0 t150 t151 6 t152 t153 t154 w0 _ ?side1 ?side2 A5.out).mono ?_); (case side1 => repeat (first | (with_reducible first | exact HI0.out | apply IsS75.alloc | apply IsS75.drewN | apply IsS75.drew | apply IsS75.set_1 | apply IsS75.set_2) | exact HI0.out)); (case side2 => repeat (first | (with_reducible first | exact HB.out | apply below_alloc | apply pw_below_drewN | apply below_drew1 | refine below_set ?_ (IsS75.ge HI0.out)) | exact HB.out)); rintro e w17 ⟨rfl, hi, hb, hk⟩; refine ⟨_, rfl, ?_⟩; have n0_ := Aside0.mk (KeepBut.trans (by repeat (first | (with_reducible first | exact HK.out | apply KeepBut.set_ | apply keep_drewN | apply keep_drew | apply keep_alloc) | exact HK.out)) hk (.inl rfl)); have n1_ := Aside0.mk (hb); have n2_ := Aside0.mk (hi); clear HK; clear HB; clear HI0; have HK := n0_; have HB := n1_; have HI0 := n2_; clear n0_ n1_ n2_; (try clear hb hk hi)) | ((with_reducible refine gate_callee (f := 28) rfl ?_); refine goesL_ (some 13) rfl rfl Tryd.func28 (by kernel_rfl) rfl #[.pointer (some ⟨g, 0, none⟩), .int .i64 6] rfl (by (try simp only [List.map_toArray, List.map_cons, List.map_nil]); first | done | rfl | (simp only [List.length_drop, List.length_take]; rfl)) ?_; (with_reducible refine (bits_Reader_Take.calls k g s0_0 t153 t154 6 t155 t156 t157 w0 _ ?side1 ?side2 A6.out).mono ?_); (case side1 => repeat (first | (with_reducible first | exact HI0.out | apply IsS75.alloc | apply IsS75.drewN | apply IsS75.drew | apply IsS75.set_1 | apply IsS75.set_2) | exact HI0.out)); (case side2 => repeat (first | (with_reducible first | exact HB.out | apply below_alloc | apply pw_below_drewN | apply below_drew1 | refine below_set ?_ (IsS75.ge HI0.out)) | exact HB.out)); rintro e w18 ⟨rfl, hi, hb, hk⟩; refine ⟨_, rfl, ?_⟩; have n0_ := Aside0.mk (KeepBut.trans (by repeat (first | (with_reducible first | exact HK.out | apply KeepBut.set_ | apply keep_drewN | apply keep_drew | apply keep_alloc) | exact HK.out)) hk (.inl rfl)); have n1_ := Aside0.mk (hb); have n2_ := Aside0.mk (hi); clear HK; clear HB; clear HI0; have HK := n0_; have HB := n1_; have HI0 := n2_; clear n0_ n1_ n2_; (try clear hb hk hi)) | ((with_reducible refine gate_callee (f := 28) rfl ?_); refine goesL_ (some 18) rfl rfl Tryd.func28 (by kernel_rfl) rfl #[.pointer (some ⟨g, 0, none⟩), .int .i64 (wrap64 ((wrap64 (t155)) + 1))] rfl (by (try simp only [List.map_toArray, List.map_cons, List.map_nil]); first | done | rfl | (simp only [List.length_drop, List.length_take]; rfl)) ?_; (with_reducible refine (bits_Reader_Take.calls k g s0_0 t156 t157 (wrap64 ((wrap64 (t155)) + 1)) t158 t159 t160 w0 _ ?side1 ?side2 A7.out).mono ?_); (case side1 => repeat (first | (with_reducible first | exact HI0.out | apply IsS75.alloc | apply IsS75.drewN | apply IsS75.drew | apply IsS75.set_1 | apply IsS75.set_2) | exact HI0.out)); (case side2 => repeat (first | (with_reducible first | exact HB.out | apply below_alloc | apply pw_below_drewN | apply below_drew1 | refine below_set ?_ (IsS75.ge HI0.out)) | exact HB.out)); rintro e w19 ⟨rfl, hi, hb, hk⟩; refine ⟨_, rfl, ?_⟩; have n0_ := Aside0.mk (KeepBut.trans (by repeat (first | (with_reducible first | exact HK.out | apply KeepBut.set_ | apply keep_drewN | apply keep_drew | apply keep_alloc) | exact HK.out)) hk (.inl rfl)); have n1_ := Aside0.mk (hb); have n2_ := Aside0.mk (hi); clear HK; clear HB; clear HI0; have HK := n0_; have HB := n1_; have HI0 := n2_; clear n0_ n1_ n2_; (try clear hb hk hi)))
    go_ret
    exact ⟨by first | rfl | (simp [errW_none, errW_some] <;> rfl) | (simp only [← hji13, ← hji15]; first | rfl | (simp [errW_none, errW_some] <;> rfl)) | (simp [*, errW_none, errW_some] <;> rfl), by repeat (first | (with_reducible first | exact HI0.out | apply IsS75.alloc | apply IsS75.drewN | apply IsS75.drew | apply IsS75.set_1 | apply IsS75.set_2) | exact HI0.out), by repeat (first | (with_reducible first | exact HB.out | apply below_alloc | apply pw_below_drewN | apply below_drew1 | refine below_set ?_ (IsS75.ge HI0.out)) | exact HB.out), by repeat (first | (with_reducible first | exact HK.out | apply KeepBut.set_ | apply keep_drewN | apply keep_drew | apply keep_alloc) | exact HK.out)⟩
   ·rw [if_neg c14] at H
    exact absurd H (by simp)

end Go.Proofs.YtmlbppfcpejlpaaDoor.X

namespace Go.Proofs.YtmlbppfcpejlpaaDoor.X
open Go.RowKit Go.Proofs.YtmlbppfcpejlpaaDoorW.PrintWords Go.Proofs.YtmlbppfcpejlpaaDoorW.PrintLast Go.Proofs.YtmlbppfcpejlpaaDoorW.PrintMore
attribute [local go_sem] max2_int min2_int max_two min_two max_three min_three max_four min_four   -- for this text's walks alone
set_option linter.unusedVariables false
set_option linter.unusedSimpArgs false

/-! ### xors_Get: function 12 -/
open Go.Proofs.YtmlbppfcpejlpaaDoor.S Go.Proofs.YtmlbppfcpejlpaaDoor.B Go.Proofs.YtmlbppfcpejlpaaDoor.W04 Go.Proofs.YtmlbppfcpejlpaaDoor.Q06 Go.Proofs.YtmlbppfcpejlpaaDoor.W08
/-- What i rounds give: the numbers, the reader's place, and whether it is bad. -/
def xors_Get.run (l : List Int) : Nat → Option (List Int × Int × Bool)
 | 0 => some ([], 0, false)
 | i + 1 => (xors_Get.run l i).bind fun p =>
  if i = 0 then (bits_Reader_Take.f 200 l p.2.1 p.2.2 64).bind fun t => some (p.1 ++ [t.1], t.2.1, t.2.2)
  else (xors_take.f 200 l p.2.1 p.2.2).bind fun t => some (p.1 ++ [Go.bits .xor .u64 (rd p.1 ((i : Int) - 1)) t.1], t.2.1, t.2.2)
def xors_Get.f (l0 : List Int) (a1 : Int) : Option (List Int × Int × Int) :=
 if a1 < 0 ∨ 200 < a1 then some ([], 0, 1) else if l0.length < 1000000000 then (xors_Get.run l0 a1.toNat).bind fun p => if p.2.2 = true then some ([], 0, 4) else
  (xors_Put.f p.1).bind fun q => (bytes_HasPrefix.f l0 q.1).bind fun t => if t = true then some (p.1, (q.1.length : Int), 0) else some ([], 0, 3)
 else none
theorem xors_Get.run_le (l : List Int) (n i : Nat) (h : i ≤ n) (x : List Int × Int × Bool) (hx : xors_Get.run l n = some x) : ∃ y, xors_Get.run l i = some y := by
 induction n generalizing x with
 | zero =>
  have : i = 0 := by omega
  subst this; exact ⟨x, hx⟩
 | succ n ih =>
  by_cases e : i = n + 1
  ·subst e; exact ⟨x, hx⟩
  ·rw [xors_Get.run] at hx
   obtain ⟨y, hy, _⟩ := Option.bind_eq_some_iff.1 hx
   exact ih (by omega) y hy
def xors_Get.Three (B : Nat) (xs : List Int) (n m : Int) (w : World) (e : Ending) (w' : World) : Prop :=
 ∃ v0_ : Value, e = .returned (.tuple #[v0_, .int .i64 n, .int .i64 m]) ∧ Kd.R (Kd.int .u64) 34 w' B (fun _ => True) v0_ xs ∧ Below w.heap.size w w'
theorem xors_Get.calls_early (A0 : Option Addr) (c0 : Nat) (l0 : List Int) (a1 : Int) (w : World) (hn : a1 < 0 ∨ 200 < a1) :
  Calls Tryd.prog 12 #[.slice A0 l0.length c0, .int .i64 a1] w (xors_Get.Three w.heap.size [] 0 1 w) := by
 rcases hn with hn | hn
 ·have t1 : decide (a1 < 0) = true := by simpa using hn
  go_enter Tryd.func12, Tryd.ntmps12
  go_wp2
  go_ret3
  exact ⟨_, rfl, Kd.R_nil _ _ _ _ _, Below.refl _ _⟩
 ·have t1 : decide (a1 < 0) = false := by simp; omega
  have t2 : decide (200 < a1) = true := by simpa using hn
  go_enter Tryd.func12, Tryd.ntmps12
  go_wp2
  go_ret3
  exact ⟨_, rfl, Kd.R_nil _ _ _ _ _, Below.refl _ _⟩
def xors_Get.Rel (w1 : World) (g : Nat) (l : List Int) (i : Nat) (vo : Value) (wr : World) : Prop :=
 ∃ (a : Int) (bad : Bool) (out : List Int), xors_Get.run l i = some (out, a, bad) ∧ IsS75 w1 wr g l a bad ∧ Below w1.heap.size w1 wr ∧ Kd.R (Kd.int .u64) 34 wr w1.heap.size (fun _ => True) vo out ∧ out.length = i
set_option maxHeartbeats 8000000 in
set_option maxRecDepth 100000 in
theorem xors_Get.calls_main (A0 : Option Addr) (c0 : Nat) (l0 : List Int) (nn : Int) (n : Nat) (out0 : List Int) (at0 : Int) (bad0 : Bool) (r1 : List Int) (r2 r3 : Int) (w : World) (hr0 : Kd.C (Kd.int .u8) w A0 l0.length l0) (hc0 : l0.length ≤ c0) (hn : nn = (n : Int)) (hn2 : n ≤ 200) (hl : l0.length < 1000000000) (hT_ : Tab w) (hrun : xors_Get.run l0 n = some (out0, at0, bad0))
  (h : (if bad0 = true then some ([], 0, 4) else (xors_Put.f out0).bind fun q => (bytes_HasPrefix.f l0 q.1).bind fun t => if t = true then some (out0, (q.1.length : Int), 0) else some ([], 0, 3)) = some (r1, r2, r3)) :
  Calls Tryd.prog 12 #[.slice A0 l0.length c0, .int .i64 nn] w (xors_Get.Three w.heap.size r1 r2 r3 w) := by
 have HR0 := Aside0.mk hr0
 have HC0 := Aside0.mk hc0
 have HN := Aside0.mk hn
 have HRN := Aside0.mk hrun
 have HT_ := Aside0.mk hT_
 have H := Aside0.mk h
 have t1 : decide (nn < 0) = false := by simp; omega
 have t2 : decide (200 < nn) = false := by simp; omega
 clear hr0 hc0 hrun hn hT_ h
 go_enter Tryd.func12, Tryd.ntmps12
 go_wp2_with (go_at_call 27; (with_reducible refine (new_calls _ _ l0 _ HR0.out HC0.out (by omega)).mono ?_); rintro e w2 ⟨g, w1, rfl, hb1, hs, hb2⟩; have HS0 := Aside0.mk hs; have HB1 := Aside0.mk hb1; have HB2 := Aside0.mk hb2; clear hb1 hs hb2)
 have HR : Aside0 (xors_Get.Rel w1 g l0 0 (.slice none 0 0) w2) := ⟨⟨0, false, [], rfl, HS0.out, HB2.out, Kd.R_nil _ _ _ _ _, rfl⟩⟩
 clear HS0 HB2 t1 t2
 go_loopw [8, 21] (fun v8 v21 wr => ∃ (i : Nat) (ii : Int), v21 = .int .i64 ii ∧ Aside0 (ii = (i : Int)) ∧ Aside0 (i ≤ n) ∧ Aside0 (xors_Get.Rel w1 g l0 i v8 wr)) (fun _ v21 _ => (nn - intOf v21).toNat)
 case atStart => exact ⟨0, _, rfl, ⟨rfl⟩, ⟨Nat.zero_le _⟩, HR⟩
 case round =>
  clear HR
  obtain ⟨i, ii, rfl, HI, HIL, HR⟩ := hrel
  obtain ⟨a, bad, out, hrun, hs, hbl, ho, hlen⟩ := HR.out
  have HS := Aside0.mk hs
  have HB := Aside0.mk hbl
  have HLEN := Aside0.mk hlen
  have HRUN0 := Aside0.mk hrun
  clear HR hs hbl
  have hin := HI.out
  by_cases hlt : i < n
  ·have hi0 : 0 ≤ ii := by omega
   have hi1 : ii ≤ 200 := by omega
   have HNN := Aside0.mk (show ii < nn by have := HN.out; omega)
   have hi2 : decide (ii < nn) = true := decide_eq_true HNN.out
   obtain ⟨⟨out1, a1, bad1⟩, hnext⟩ := xors_Get.run_le l0 n (i + 1) hlt _ HRN.out
   have HNX := Aside0.mk hnext
   rw [xors_Get.run, hrun, Option.bind_some] at hnext
   by_cases q0 : i = 0
   ·have e0 : (ii == 0) = true := by rw [beq_iff_eq]; omega
    rw [if_pos q0] at hnext
    obtain ⟨⟨tv, a2, bad2⟩, ht, hnext⟩ := Option.bind_eq_some_iff.1 hnext
    have HO := Aside0.mk ho
    injection hnext with hnext; injection hnext with g1 hnext; injection hnext with g3 g4
    have g1' : out ++ [tv] = out1 := g1
    have g3' : a2 = a1 := g3
    have g4' : bad2 = bad1 := g4
    subst g3'; subst g4'
    subst g1'
    have HRUN := HNX
    have HT : Aside0 (bits_Reader_Take.f 200 l0 a bad 64 = some (tv, a2, bad2)) := ⟨ht⟩
    clear g1 g3 g4 ht HNX HRUN0 hrun ho hlen hin q0
    go_wp2_with (first
     | (go_at_call 28; (with_reducible refine (bits_Reader_Take.calls 200 g l0 a bad 64 tv a2 bad2 w1 wr HS.out HB.out HT.out).mono ?_); rintro e w5 ⟨rfl, hs, hb2, hk⟩; have HS5 := Aside0.mk hs; have HB5 := Aside0.mk hb2; have HO5 := Aside0.mk (Kd.R_mono (ok' := fun _ => True) (Kd.R_keep (HS.out.apart HO.out (by decide)) hk (fun _ h => h.2)) (fun _ _ => trivial)); clear hs hb2 hk HS HB HO)
     | ((with_reducible refine gate_builtin (b := .append) (xs := #[.tmp 26, .tmp 29]) rfl ?_); at_builtin; refine Kd.R_append (Kd.int .u64) (w0 := w1) w1.heap.size rfl (.tmp 26) (.tmp 29) 22 34 (.int .u64 0) 8 rfl Tryd.underlying22 info34 rfl (by decide) (by omega) u8 out tv [.int .u64 tv] (fun _ => True) (fun _ => False) rfl rfl ?aP (fun _ hk => hk.elim) ?aF ?aO ?aB ?aS ?aL ?_; (case aP => exact rfl); (case aB => exact HB5.out); (case aF => exact (fun _ _ => trivial)); (case aO => exact HO5.out); (case aS => exact (below_size HB5.out)); (case aL => have := HLEN.out; omega); intro v6 w6 ho hb hg hat; have HO6 := Aside0.mk ho; have HB6 := Aside0.mk hb; have HS6 := Aside0.mk (HS5.out.grown hg (HS5.out.own_ne HO5.out (by decide))); clear ho hb hg hat HS5 HB5 HO5))
    go_roundw
    case rel => exact ⟨i + 1, _, rfl, ⟨by have := HI.out; omega⟩, ⟨hlt⟩, ⟨a2, bad2, out ++ [tv], HRUN.out, HS6.out, HB6.out, HO6.out, by have := HLEN.out; simp; omega⟩⟩
    case measure => simp [intOf]; have := HI.out; have := HNN.out; omega
   have e0 : (ii == 0) = false := by rw [beq_eq_false_iff_ne]; omega
   obtain ⟨jj, hjj⟩ : ∃ jj, jj = ii - 1 := ⟨_, rfl⟩
   have hj0 : 0 ≤ jj := by omega
   have hj1 : IntKind.i64.wrap (ii - 1) = jj := by rw [IntKind.wrap_i64]; omega
   obtain ⟨ln, hln⟩ : ∃ ln, ln = out.length := ⟨_, rfl⟩
   have hj4 : (jj < (ln : Int)) = True := eq_true (by omega)
   have hj5 : (0 ≤ jj) = True := eq_true hj0
   have HJ := Aside0.mk (show jj = (i : Int) - 1 by omega)
   obtain ⟨A7, c7, rfl⟩ := Kd.R_slice ho
   obtain ⟨ad, e, hx⟩ := Kd.at_int (Kd.R_reads' ho).2.2 jj hj0 (by omega)
   cases e
   obtain ⟨xv, hxv⟩ : ∃ xv, rd out jj = xv := ⟨_, rfl⟩
   have HRD := Aside0.mk hxv
   rw [← HJ.out, hxv] at hnext
   rw [hxv] at hx
   have hxd : wr.drew.cell? (ad.add jj.toNat) = some (.int .u64 xv) := hx
   have HO := Aside0.mk ho
   rw [← hln] at HO ⊢
   have HLN := Aside0.mk hln
   rw [if_neg q0] at hnext
   obtain ⟨⟨tv, a2, bad2⟩, ht, hnext⟩ := Option.bind_eq_some_iff.1 hnext
   injection hnext with hnext; injection hnext with g1 hnext; injection hnext with g3 g4
   have g1' : out ++ [Go.bits .xor .u64 xv tv] = out1 := g1
   have g3' : a2 = a1 := g3
   have g4' : bad2 = bad1 := g4
   subst g3'; subst g4'
   obtain ⟨sv, hsv⟩ : ∃ sv, Go.bits .xor .u64 xv tv = sv := ⟨_, rfl⟩
   rw [hsv] at g1'
   subst g1'
   have HRUN := HNX
   have HT : Aside0 (xors_take.f 200 l0 a bad = some (tv, a2, bad2)) := ⟨ht⟩
   have HOd := Aside0.mk (Kd.R_drew HO.out)
   have HBd := Aside0.mk (below_drew1 HB.out)
   have HSd := Aside0.mk (HS.out.drew)
   clear ho hx hxv hln hjj g1 g3 g4 ht HNX HRUN0 hrun hlen hin q0 HO HB HS
   go_wp2
   go_region_law (first
    | (refine Kd.R_append_step (Kd.int .u64) (w0 := w1) w1.heap.size (by rfl) (.tmp 31) (.tmp 40) 22 34 (.int .u64 0) 8 rfl Tryd.underlying22 info34 rfl (by decide) (by omega) (.slice (some ad) ln c7) out sv [.int .u64 sv] (fun _ => True) (fun _ => False) rfl rfl ?aP (fun _ hk => hk.elim) ?aF ?aO ?aB ?aS ?aL ?_; (case aP => exact rfl); (case aB => exact HB5.out); (case aF => exact (fun _ _ => trivial)); (case aO => exact HO5.out); (case aS => exact (below_size HB5.out)); (case aL => have := HLEN.out; omega); intro v6 w6 ho hb hg hat; have HO6 := Aside0.mk ho; have HB6 := Aside0.mk hb; have HS6 := Aside0.mk (HS5.out.grown hg (HS5.out.own_ne HO5.out (by decide))); clear ho hb hg hat HS5 HB5 HO5)
    | (go_simp; go_wp2_with (go_at_call 29; (with_reducible refine (xors_take.calls 200 g l0 a bad tv a2 bad2 w1 _ HSd.out HBd.out HT.out).mono ?_); rintro e w5 ⟨rfl, hs, hb2, hk⟩; have HS5 := Aside0.mk hs; have HB5 := Aside0.mk hb2; have HO5 := Aside0.mk (Kd.R_mono (ok' := fun _ => True) (Kd.R_keep (HSd.out.apart HOd.out (by decide)) hk (fun _ h => h.2)) (fun _ _ => trivial)); obtain ⟨ad5, e5, hx5⟩ := Kd.at_int (Kd.R_reads' HO5.out).2.2 jj hj0 (by rw [HLEN.out]; have := HJ.out; omega); cases e5; rw [HRD.out] at hx5; clear hs hb2 hk HSd HBd HOd hxd)))
   all_goals
    go_wp2
    go_roundw
    case rel => exact ⟨i + 1, _, rfl, ⟨by have := HI.out; omega⟩, ⟨hlt⟩, ⟨a2, bad2, out ++ [sv], HRUN.out, HS6.out, HB6.out, HO6.out, by have := HLEN.out; simp; omega⟩⟩
    case measure => simp [intOf]; have := HI.out; have := HNN.out; omega
  ·have hi2 : decide (ii < nn) = false := by rw [decide_eq_false_iff_not]; have := HN.out; omega
   have hil : i = n := by have := HIL.out; omega
   subst hil
   have HO := Aside0.mk ho
   have hE : (out, a, bad) = (out0, at0, bad0) := by
    have := HRN.out
    rw [hrun] at this; exact Option.some.inj this
   injection hE with g1 g2; injection g2 with g3 g4
   subst g1; subst g4
   clear g3 hrun HRUN0 ho hin hlen
   cases bad with
   | true =>
    have hH := H.out
    rw [if_pos rfl] at hH
    injection hH with hH; injection hH with e1 e2; injection e2 with e2 e3; subst e1; subst e2; subst e3
    have HBD : Aside0 (bits_Reader_Bad.f l0 a true = some (true, a, true)) := ⟨rfl⟩
    go_wp2_with (go_at_call 30; (with_reducible refine (bits_Reader_Bad.calls g l0 a true true a true w1 wr HS.out HB.out HBD.out).mono ?_); rintro e w5 ⟨rfl, hs, hb2, hk⟩; have HB5 := Aside0.mk hb2; clear hs hb2 hk)
    go_ret3
    exact ⟨_, rfl, Kd.R_nil _ _ _ _ _, below_step HB1.out HB5.out⟩
   | false =>
    have hH := H.out
    rw [if_neg (by decide)] at hH
    obtain ⟨⟨ag, m⟩, hput, hH⟩ := Option.bind_eq_some_iff.1 hH
    obtain ⟨t, hp, hH⟩ := Option.bind_eq_some_iff.1 hH
    replace hp : bytes_HasPrefix.f l0 ag = some t := hp
    replace hH : (if t = true then some (out, (ag.length : Int), (0 : Int)) else some ([], 0, 3)) = some (r1, r2, r3) := hH
    obtain ⟨A, c, rfl, hc, hr⟩ := Kd.R_reads HO.out
    have HRO := Aside0.mk hr
    have HCO := Aside0.mk hc
    have HPUT := Aside0.mk hput
    have HHP := Aside0.mk hp
    have HH := Aside0.mk hH
    have HBD : Aside0 (bits_Reader_Bad.f l0 a false = some (false, a, false)) := ⟨rfl⟩
    clear hH hput hp hc hr HLEN H
    cases t <;> (
    go_wp2_with (first
     | (go_at_call 30; (with_reducible refine (bits_Reader_Bad.calls g l0 a false false a false w1 wr HS.out HB.out HBD.out).mono ?_); rintro e w5 ⟨rfl, hs, hb2, hk⟩; have HB5 := Aside0.mk hb2; have HO5 := Aside0.mk (Kd.R_mono (ok' := fun _ => True) (Kd.R_keep (HS.out.apart HO.out (by decide)) hk (fun _ h => h.2)) (fun _ _ => trivial)); clear hs hb2 hk HS HB HO HRO)
     | (go_at_call 10; (with_reducible refine (xors_Put.calls _ _ out ag m _ (Kd.R_reads' HO5.out).2.2 HCO.out (HT_.out.below (below_step HB1.out HB5.out)) HPUT.out).mono ?_); rintro e w6 ⟨v6, rfl, hR, hB⟩; obtain ⟨A2, c2, rfl, hc2, hr2⟩ := Kd.R_reads hR; have HC6 := Aside0.mk hc2; have HR6 := Aside0.mk hr2; have HO6 := Aside0.mk (Kd.R_below HO5.out hB); have HB6 := Aside0.mk (below_step HB1.out (below_step HB5.out hB)); clear hR hB hc2 hr2 HO5 HB5)
     | (go_at_call 31; (with_reducible refine (bytes_HasPrefix.calls _ _ l0 _ _ ag _ _ (Kd.C_below HR0.out HB6.out) HC0.out HR6.out HC6.out HHP.out).mono ?_); rintro e w7 ⟨rfl, hdr⟩; have HO7 := Aside0.mk (Kd.R_below HO6.out (Drawn0.below hdr)); have HB7 := Aside0.mk (below_step HB6.out (Drawn0.below hdr)); clear hdr HO6 HB6))
    go_ret3)
    ·have e := HH.out
     simp only [Bool.false_eq_true, if_false] at e
     injection e with e; injection e with e1 e2; injection e2 with e2 e3; subst e1; subst e2; subst e3
     exact ⟨_, rfl, Kd.R_nil _ _ _ _ _, HB7.out⟩
    ·have e := HH.out
     simp only [if_true] at e
     injection e with e; injection e with e1 e2; injection e2 with e2 e3; subst e2; subst e3
     rw [← e1]
     exact ⟨_, rfl, Kd.R_lower HO7.out HB1.out.size, HB7.out⟩
theorem xors_Get.calls (A0 : Option Addr) (c0 : Nat) (l0 : List Int) (a1 : Int) (r1 : List Int) (r2 : Int) (r3 : Int) (w : World) (hr0 : Kd.C (Kd.int .u8) w A0 l0.length l0) (hc0 : l0.length ≤ c0) (hT_ : Tab w) (h : xors_Get.f l0 a1 = some (r1, r2, r3)) :
  Calls Tryd.prog 12 #[.slice A0 l0.length c0, .int .i64 a1] w fun e w' => ∃ v0_ : Value, e = .returned (.tuple #[v0_, .int .i64 r2, .int .i64 r3]) ∧ Kd.R (Kd.int .u64) 34 w' w.heap.size (fun _ => True) v0_ r1 ∧ Below w.heap.size w w' := by
 unfold xors_Get.f at h
 by_cases h1 : a1 < 0 ∨ 200 < a1
 ·rw [if_pos h1] at h; injection h with h; injection h with e1 e2; injection e2 with e2 e3; subst e1; subst e2; subst e3
  exact xors_Get.calls_early A0 c0 l0 a1 w h1
 rw [if_neg h1] at h
 by_cases h2 : l0.length < 1000000000
 ·rw [if_pos h2] at h
  obtain ⟨⟨out0, at0, bad0⟩, hr, h⟩ := Option.bind_eq_some_iff.1 h
  obtain ⟨n, hn⟩ := Int.eq_ofNat_of_zero_le (show 0 ≤ a1 by omega)
  rw [hn, Int.toNat_natCast] at hr
  exact xors_Get.calls_main A0 c0 l0 a1 n out0 at0 bad0 r1 r2 r3 w hr0 hc0 hn (by omega) h2 hT_ hr h
 ·rw [if_neg h2] at h; cases h

end Go.Proofs.YtmlbppfcpejlpaaDoor.X

namespace Go.Proofs.YtmlbppfcpejlpaaDoor.X
open Go.RowKit Go.Proofs.YtmlbppfcpejlpaaDoorW.PrintWords Go.Proofs.YtmlbppfcpejlpaaDoorW.PrintLast Go.Proofs.YtmlbppfcpejlpaaDoorW.PrintMore
attribute [local go_sem] max2_int min2_int max_two min_two max_three min_three max_four min_four   -- for this text's walks alone
set_option linter.unusedVariables false
set_option linter.unusedSimpArgs false

/-! ### chunk_getValues: function 43 -/
def chunk_getValues.f (k : Nat) (l0 : List Int) (a1 : Int) (a2 : Int) : Option (List Int × Int × Int) := if a2 = 0 then ((chunk_getRaw.f l0 a1).bind fun bt487 => (some (bt487.1, bt487.2.1, bt487.2.2))) else (if a2 = 1 then ((xors_Get.f l0 a1).bind fun bt492 => (some (bt492.1, bt492.2.1, bt492.2.2))) else (if a2 = 2 then ((runs_Get.f k l0 a1).bind fun bt497 => (some (bt497.1, bt497.2.1, bt497.2.2))) else ((pack_Get.f l0 a1).bind fun bt502 => (some (bt502.1, bt502.2.1, bt502.2.2)))))
theorem chunk_getValues.mono : ∀ a0 a1 a2 k, LeO (chunk_getValues.f k a0 a1 a2) (chunk_getValues.f (k + 1) a0 a1 a2) := by
 intro a0 a1 a2 k
 unfold chunk_getValues.f
 repeat' first
   | (with_reducible exact runs_Get.mono _ _ _)
   | (with_reducible exact LeO.refl _)
   | (with_reducible exact LeO.none _)
   | (with_reducible refine LeO.ite ?_ ?_)
   | (with_reducible refine LeO.bind ?_ (fun _ => ?_))
   | exact runs_Get.mono _ _ _
   | exact LeO.none _
   | refine LeO.ite ?_ ?_
   | refine LeO.bind ?_ (fun _ => ?_)
set_option maxHeartbeats 8000000 in
set_option maxRecDepth 100000 in
theorem chunk_getValues.calls (k : Nat) (A0 : Option Addr) (c0 : Nat) (l0 : List Int) (a1 : Int) (a2 : Int) (r1 : List Int) (r2 : Int) (r3 : Int) (w : World) (hr0 : Kd.C (Kd.int .u8) w A0 l0.length l0) (hc0 : l0.length ≤ c0) (hT_ : Go.Proofs.YtmlbppfcpejlpaaDoor.W08.Tab w) (h : chunk_getValues.f k l0 a1 a2 = some (r1, r2, r3)) :
  Calls Tryd.prog 43 #[.slice A0 l0.length c0, .int .i64 a1, .int .i64 a2] w fun e w' => ∃ v0_ : Value, e = .returned (.tuple #[v0_, .int .i64 r2, .int .i64 r3]) ∧ Kd.R (Kd.int .u64) 34 w' w.heap.size (fun _ => True) v0_ r1 ∧ Below w.heap.size w w' := by
 have HTAB := Aside0.mk hT_
 clear hT_
 have HR0 := Aside0.mk hr0
 have HC0 := Aside0.mk hc0
 clear hr0 hc0
 have HB := Aside0.mk (Below.refl w.heap.size w)
 have H : (if a2 = 0 then ((chunk_getRaw.f l0 a1).bind fun bt487 => (some (bt487.1, bt487.2.1, bt487.2.2))) else (if a2 = 1 then ((xors_Get.f l0 a1).bind fun bt492 => (some (bt492.1, bt492.2.1, bt492.2.2))) else (if a2 = 2 then ((runs_Get.f k l0 a1).bind fun bt497 => (some (bt497.1, bt497.2.1, bt497.2.2))) else ((pack_Get.f l0 a1).bind fun bt502 => (some (bt502.1, bt502.2.1, bt502.2.2)))))) = some (r1, r2, r3) := h
 clear h
 by_cases c4 : a2 = 0
 ·rw [if_pos c4] at H
  have c4b0 : (a2 == 0) = true := beq_iff_eq.mpr c4
  have c4b1 : (a2 != 0) = false := bne_eq_false_iff_eq.mpr c4
  clear c4
  replace H := Option.bind_eq_some_iff.mp H
  obtain ⟨⟨t487, t488, t489⟩, A50, H⟩ := H
  replace H : (some (t487, t488, t489)) = some (r1, r2, r3) := H
  have A5 := Aside0.mk A50
  clear A50
  simp only [Option.some.injEq, Prod.mk.injEq] at H
  obtain ⟨rfl, rfl, rfl⟩ := H
  go_enter Tryd.func43, Tryd.ntmps43
  go_wp2_with (first | ((with_reducible refine gate_callee (f := 54) rfl ?_); refine goesL_ (some 14) rfl rfl Tryd.func54 (by kernel_rfl) rfl #[.slice A0 l0.length c0, .int .i64 a1] rfl (by (try simp only [List.map_toArray, List.map_cons, List.map_nil]); first | done | rfl | (simp only [List.length_drop, List.length_take]; rfl)) ?_; (with_reducible refine (chunk_getRaw.calls _ _ l0 a1 t487 t488 t489 _ ?side1 ?side2 A5.out).mono ?_); (case side1 => exact cC HR0.out); (case side2 => exact HC0.out); rintro e w6 ⟨v490, rfl, ho0, hb⟩; refine ⟨_, rfl, ?_⟩; have n0_ := Aside0.mk (Kd.R_lower ho0 (below_size bB)); have n1_ := Aside0.mk (below_step bB hb); clear HB; have HO491 := n0_; have HB := n1_; clear n0_ n1_; (try clear hb ho0)))
  go_ret3
  exact ⟨_, by first | rfl | (simp [errW_none, errW_some] <;> rfl) | (simp [*, errW_none, errW_some] <;> rfl), rR HO491.out, bB⟩
 ·rw [if_neg c4] at H
  have c4b0 : (a2 == 0) = false := beq_eq_false_iff_ne.mpr c4
  have c4b1 : (a2 != 0) = true := bne_iff_ne.mpr c4
  by_cases c7 : a2 = 1
  ·rw [if_pos c7] at H
   have c7b0 : (a2 == 1) = true := beq_iff_eq.mpr c7
   have c7b1 : (a2 != 1) = false := bne_eq_false_iff_eq.mpr c7
   clear c7
   replace H := Option.bind_eq_some_iff.mp H
   obtain ⟨⟨t492, t493, t494⟩, A80, H⟩ := H
   replace H : (some (t492, t493, t494)) = some (r1, r2, r3) := H
   have A8 := Aside0.mk A80
   clear A80
   simp only [Option.some.injEq, Prod.mk.injEq] at H
   obtain ⟨rfl, rfl, rfl⟩ := H
   go_enter Tryd.func43, Tryd.ntmps43
   go_wp2_with (first | ((with_reducible refine gate_callee (f := 12) rfl ?_); refine goesL_ (some 22) rfl rfl Tryd.func12 (by kernel_rfl) rfl #[.slice A0 l0.length c0, .int .i64 a1] rfl (by (try simp only [List.map_toArray, List.map_cons, List.map_nil]); first | done | rfl | (simp only [List.length_drop, List.length_take]; rfl)) ?_; (with_reducible refine (xors_Get.calls _ _ l0 a1 t492 t493 t494 _ ?side1 ?side2 ?sideT A8.out).mono ?_); (case sideT => exact Go.Proofs.YtmlbppfcpejlpaaDoor.W08.Tab.below HTAB.out bB); (case side1 => exact cC HR0.out); (case side2 => exact HC0.out); rintro e w9 ⟨v495, rfl, ho0, hb⟩; refine ⟨_, rfl, ?_⟩; have n0_ := Aside0.mk (Kd.R_lower ho0 (below_size bB)); have n1_ := Aside0.mk (below_step bB hb); clear HB; have HO496 := n0_; have HB := n1_; clear n0_ n1_; (try clear hb ho0)))
   go_ret3
   exact ⟨_, by first | rfl | (simp [errW_none, errW_some] <;> rfl) | (simp [*, errW_none, errW_some] <;> rfl), rR HO496.out, bB⟩
  ·rw [if_neg c7] at H
   have c7b0 : (a2 == 1) = false := beq_eq_false_iff_ne.mpr c7
   have c7b1 : (a2 != 1) = true := bne_iff_ne.mpr c7
   by_cases c10 : a2 = 2
   ·rw [if_pos c10] at H
    have c10b0 : (a2 == 2) = true := beq_iff_eq.mpr c10
    have c10b1 : (a2 != 2) = false := bne_eq_false_iff_eq.mpr c10
    clear c10
    replace H := Option.bind_eq_some_iff.mp H
    obtain ⟨⟨t497, t498, t499⟩, A110, H⟩ := H
    replace H : (some (t497, t498, t499)) = some (r1, r2, r3) := H
    have A11 := Aside0.mk A110
    clear A110
    simp only [Option.some.injEq, Prod.mk.injEq] at H
    obtain ⟨rfl, rfl, rfl⟩ := H
    go_enter Tryd.func43, Tryd.ntmps43
    go_wp2_with (first | ((with_reducible refine gate_callee (f := 55) rfl ?_); refine goesL_ (some 30) rfl rfl Tryd.func55 (by kernel_rfl) rfl #[.slice A0 l0.length c0, .int .i64 a1] rfl (by (try simp only [List.map_toArray, List.map_cons, List.map_nil]); first | done | rfl | (simp only [List.length_drop, List.length_take]; rfl)) ?_; (with_reducible refine (runs_Get.calls k _ _ l0 a1 t497 t498 t499 _ ?side1 ?side2 A11.out).mono ?_); (case side1 => exact cC HR0.out); (case side2 => exact HC0.out); rintro e w12 ⟨v500, rfl, ho0, hb⟩; refine ⟨_, rfl, ?_⟩; have n0_ := Aside0.mk (Kd.R_lower ho0 (below_size bB)); have n1_ := Aside0.mk (below_step bB hb); clear HB; have HO501 := n0_; have HB := n1_; clear n0_ n1_; (try clear hb ho0)))
    go_ret3
    exact ⟨_, by first | rfl | (simp [errW_none, errW_some] <;> rfl) | (simp [*, errW_none, errW_some] <;> rfl), rR HO501.out, bB⟩
   ·rw [if_neg c10] at H
    have c10b0 : (a2 == 2) = false := beq_eq_false_iff_ne.mpr c10
    have c10b1 : (a2 != 2) = true := bne_iff_ne.mpr c10
    replace H := Option.bind_eq_some_iff.mp H
    obtain ⟨⟨t502, t503, t504⟩, A130, H⟩ := H
    replace H : (some (t502, t503, t504)) = some (r1, r2, r3) := H
    have A13 := Aside0.mk A130
    clear A130
    simp only [Option.some.injEq, Prod.mk.injEq] at H
    obtain ⟨rfl, rfl, rfl⟩ := H
    go_enter Tryd.func43, Tryd.ntmps43
    go_wp2_with (first | ((with_reducible refine gate_callee (f := 56) rfl ?_); refine goesL_ (some 36) rfl rfl Tryd.func56 (by kernel_rfl) rfl #[.slice A0 l0.length c0, .int .i64 a1] rfl (by (try simp only [List.map_toArray, List.map_cons, List.map_nil]); first | done | rfl | (simp only [List.length_drop, List.length_take]; rfl)) ?_; (with_reducible refine (pack_Get.calls _ _ l0 a1 t502 t503 t504 _ ?side1 ?side2 A13.out).mono ?_); (case side1 => exact cC HR0.out); (case side2 => exact HC0.out); rintro e w14 ⟨v505, rfl, ho0, hb⟩; refine ⟨_, rfl, ?_⟩; have n0_ := Aside0.mk (Kd.R_lower ho0 (below_size bB)); have n1_ := Aside0.mk (below_step bB hb); clear HB; have HO506 := n0_; have HB := n1_; clear n0_ n1_; (try clear hb ho0)))
    go_ret3
    exact ⟨_, by first | rfl | (simp [errW_none, errW_some] <;> rfl) | (simp [*, errW_none, errW_some] <;> rfl), rR HO506.out, bB⟩


/-! ### chunk_refused: function 41 -/
def chunk_refused.f (a0 : Int) : Option (List S51 × Int × Int) := some ([], 0, if a0 = 4 then 4 else 3)
theorem chunk_refused.calls (a0 : Int) (r1 : List S51) (r2 : Int) (r3 : Int) (w : World) (h : chunk_refused.f a0 = some (r1, r2, r3)) :
  Calls Tryd.prog 41 #[.int .i64 a0] w fun e w' => ∃ v0_ : Value, e = .returned (.tuple #[v0_, .int .i64 r2, .int .i64 r3]) ∧ Kd.R k51 51 w' w.heap.size (fun _ => True) v0_ r1 ∧ Below w.heap.size w w' := by
 unfold chunk_refused.f at h
 injection h with h; injection h with e1 e2; injection e2 with e2 e3; subst e1; subst e2; subst e3
 by_cases h4 : a0 = 4
 ·subst h4
  go_enter Tryd.func41, Tryd.ntmps41
  go_wp2
  go_ret3
  exact ⟨_, rfl, Kd.R_nil _ _ _ _ _, Below.refl _ _⟩
 ·have h5 : (a0 != 4) = true := by simpa using h4
  rw [if_neg h4]
  go_enter Tryd.func41, Tryd.ntmps41
  go_wp2
  go_ret3
  exact ⟨_, rfl, Kd.R_nil _ _ _ _ _, Below.refl _ _⟩


/-! ### varint_Zag: function 73 -/
def varint_Zag.f (a0 : Int) : Option (Int) := some (Go.bits .xor .i64 (wrap64 (a0 / 2)) (wrap64 (-(wrap64 (Go.bits .and .u64 a0 1)))))
set_option maxHeartbeats 8000000 in
set_option maxRecDepth 100000 in
theorem varint_Zag.calls (a0 : Int) (r : Int) (w : World) (h : varint_Zag.f a0 = some r) :
  Calls Tryd.prog 73 #[.int .u64 a0] w fun e w' => e = .returned (.int .i64 r) ∧ Drawn0 w w' := by
 have H : (some (Go.bits .xor .i64 (wrap64 (a0 / 2)) (wrap64 (-(wrap64 (Go.bits .and .u64 a0 1)))))) = some r := h
 clear h
 obtain rfl := Option.some.inj H
 go_enter Tryd.func73, Tryd.ntmps73
 go_wp2
 go_ret
 exact ⟨by first | rfl | (simp; done) | (simp [*]; done), by repeat (first | exact Drawn0.refl _ | apply Drawn0.step)⟩


/-! ### times_getDelta: function 64 -/
def times_getDelta.l0 : Nat → List Int → List Int → Int → Int → Option (List Int × Int)
 | 0, _, _, _, _ => none
 | k + 1, x0, x6, x11, x12 => if x12 < x11 then ((varint_Get.f k x0).bind fun bt382 => (if bt382.2.2 = 0 then (if 0 ≤ bt382.2.1 then (if bt382.2.1 ≤ (x0.length : Int) then ((some (x0.drop (bt382.2.1 : Int).toNat : List Int)).bind fun y385 => (if x12 = 0 then ((varint_Zag.f bt382.1).bind fun t390 => (if x6.length < 17592186044416 then (times_getDelta.l0 k y385 (x6 ++ [t390]) x11 (wrap64 (x12 + 1))) else (none))) else (if 0 ≤ (wrap64 (x12 - 1)) then (if (wrap64 (x12 - 1)) < (x6.length : Int) then (if x6.length < 17592186044416 then (times_getDelta.l0 k y385 (x6 ++ [wrap64 ((rd x6 (wrap64 (x12 - 1))) + (wrap64 (bt382.1)))]) x11 (wrap64 (x12 + 1))) else (none)) else (none)) else (none)))) else (none)) else (none)) else (some (([] : List Int), bt382.2.2)))) else (some (x6, 0))
def times_getDelta.f (k : Nat) (l0 : List Int) (a1 : Int) : Option (List Int × Int) := times_getDelta.l0 k l0 ([] : List Int) a1 0
theorem times_getDelta.mono_l : ∀ k, (∀ y0 y1 y2 y3, LeO (times_getDelta.l0 k y0 y1 y2 y3) (times_getDelta.l0 (k + 1) y0 y1 y2 y3))
 | 0 => fun _ _ _ _ r h => by simp [times_getDelta.l0] at h
 | k + 1 => by
  have ih0 := times_getDelta.mono_l k
  ·intro y0 y1 y2 y3
   unfold times_getDelta.l0
   repeat' first
   | (with_reducible exact ih0 _ _ _ _)
   | (with_reducible exact varint_Get.mono _ _)
   | (with_reducible exact LeO.refl _)
   | (with_reducible exact LeO.none _)
   | (with_reducible refine LeO.ite ?_ ?_)
   | (with_reducible refine LeO.bind ?_ (fun _ => ?_))
   | exact ih0 _ _ _ _
   | exact varint_Get.mono _ _
   | exact LeO.none _
   | refine LeO.ite ?_ ?_
   | refine LeO.bind ?_ (fun _ => ?_)
theorem times_getDelta.mono : ∀ a0 a1 k, LeO (times_getDelta.f k a0 a1) (times_getDelta.f (k + 1) a0 a1) := by
 intro a0 a1 k
 have ih0 := times_getDelta.mono_l k
 unfold times_getDelta.f
 repeat' first
   | (with_reducible exact ih0 _ _ _ _)
   | (with_reducible exact varint_Get.mono _ _)
   | (with_reducible exact LeO.refl _)
   | (with_reducible exact LeO.none _)
   | (with_reducible refine LeO.ite ?_ ?_)
   | (with_reducible refine LeO.bind ?_ (fun _ => ?_))
   | exact ih0 _ _ _ _
   | exact varint_Get.mono _ _
   | exact LeO.none _
   | refine LeO.ite ?_ ?_
   | refine LeO.bind ?_ (fun _ => ?_)
set_option maxHeartbeats 8000000 in
set_option maxRecDepth 100000 in
theorem times_getDelta.calls (k : Nat) (P0_ : Nat → Prop) (A0 : Option Addr) (c0 : Nat) (l0 : List Int) (a1 : Int) (r1 : List Int) (r2 : Int) (w : World) (hs0 : Kd.V (Kd.int .u8) 5 w w.heap.size (fun k_ => P0_ k_) (.slice A0 l0.length c0) l0) (h : times_getDelta.f k l0 a1 = some (r1, r2)) :
  Calls Tryd.prog 64 #[.slice A0 l0.length c0, .int .i64 a1] w fun e w' => ∃ v0_ : Value, e = .returned (.tuple #[v0_, .int .i64 r2]) ∧ Kd.R (Kd.int .i64) 2 w' w.heap.size (fun k_ => (w.heap.size ≤ k_)) v0_ r1 ∧ Below w.heap.size w w' := by
 have HO0 := Aside0.mk (show Kd.V (Kd.int .u8) 5 w w.heap.size (fun k_ => (P0_ k_ ∨ w.heap.size ≤ k_)) (.slice A0 l0.length c0) l0 from Kd.V_mono hs0 (fun k_ hk => .inl hk))
 have HB := Aside0.mk (Below.refl w.heap.size w)
 have H : (times_getDelta.l0 k l0 ([] : List Int) a1 0) = some (r1, r2) := h
 clear h
 have H' := Aside0.mk H
 clear H
 go_enter Tryd.func64, Tryd.ntmps64
 go_wp2
 go_loopg [0, 6, 12] k (fun kq v0 v6 v12 w' => ∃ (x0_1 : List Int) (x6_1 : List Int) (x12_1 : Int), v12 = .int .i64 x12_1 ∧ Aside0 (times_getDelta.l0 kq x0_1 x6_1 a1 x12_1 = some (r1, r2)) ∧ Aside0 (kq ≤ k) ∧ Aside0 (Kd.V (Kd.int .u8) 5 w' w.heap.size (fun k_ => (P0_ k_ ∨ w.heap.size ≤ k_) ∧ some k_ ≠ (v6 : Value).ownBlock) v0 x0_1) ∧ Aside0 (Kd.R (Kd.int .i64) 2 w' w.heap.size (fun k_ => (w.heap.size ≤ k_)) v6 x6_1) ∧ Aside0 (Below w.heap.size w w'))
 case atStart => exact ⟨(l0), (([] : List Int)), (0), (by first | rfl | (simp; done) | (simp [*]; done)), H', ⟨Nat.le_refl _⟩, ⟨by (with_reducible repeat (first | apply Kd.V_alloc | apply Kd.V_drewN | apply Kd.V_drew)); exact Kd.V_mono HO0.out (fun _ hk => ⟨hk, (by simp [Value.ownBlock])⟩)⟩, ⟨by first | exact Kd.R_nil _ _ _ _ _ | exact Kd.N_nil _ _ _ _ _ | exact Kd.V_nil _ _ _ _ _ | exact Kd.Q_nil _ _ _ _ _ | exact Kd.S_nil _ _ _ _ _⟩, ⟨bB⟩⟩
 case round =>
  clear H'
  try clear p2
  obtain ⟨x0_1, x6_1, x12_1, rfl, HA, HK1, HO_0, HO_6, HB⟩ := hrel
  cases gk with
  | zero => exact absurd HA.out (by simp [times_getDelta.l0])
  | succ k1 =>
   have H := HA.out
   clear HA
   simp only [times_getDelta.l0] at H
   by_cases c3 : x12_1 < a1
   ·rw [if_pos c3] at H
    have c3b0 : decide (x12_1 < a1) = true := decide_eq_true c3
    clear c3
    replace H := Option.bind_eq_some_iff.mp H
    obtain ⟨⟨t382, t383, t384⟩, A40, H⟩ := H
    replace H : (if t384 = 0 then (if 0 ≤ t383 then (if t383 ≤ (x0_1.length : Int) then ((some (x0_1.drop (t383 : Int).toNat : List Int)).bind fun y385 => (if x12_1 = 0 then ((varint_Zag.f t382).bind fun t390 => (if x6_1.length < 17592186044416 then (times_getDelta.l0 k1 y385 (x6_1 ++ [t390]) a1 (wrap64 (x12_1 + 1))) else (none))) else (if 0 ≤ (wrap64 (x12_1 - 1)) then (if (wrap64 (x12_1 - 1)) < (x6_1.length : Int) then (if x6_1.length < 17592186044416 then (times_getDelta.l0 k1 y385 (x6_1 ++ [wrap64 ((rd x6_1 (wrap64 (x12_1 - 1))) + (wrap64 (t382)))]) a1 (wrap64 (x12_1 + 1))) else (none)) else (none)) else (none)))) else (none)) else (none)) else (some (([] : List Int), t384))) = some (r1, r2) := H
    have A4 := Aside0.mk A40
    clear A40
    by_cases c5 : t384 = 0
    ·rw [if_pos c5] at H
     have c5b0 : (t384 == 0) = true := beq_iff_eq.mpr c5
     have c5b1 : (t384 != 0) = false := bne_eq_false_iff_eq.mpr c5
     clear c5
     by_cases c6 : 0 ≤ t383
     ·rw [if_pos c6] at H
      have c6b0 := eq_true c6
      have c6b1 : decide (0 ≤ t383) = true := decide_eq_true c6
      clear c6
      by_cases c7 : t383 ≤ (x0_1.length : Int)
      ·rw [if_pos c7] at H
       have c7b0 := eq_true c7
       have c7b1 : decide (t383 ≤ (x0_1.length : Int)) = true := decide_eq_true c7
       clear c7
       obtain ⟨y385, hy385⟩ : ∃ y_ : List Int, y_ = (x0_1.drop (t383 : Int).toNat) := ⟨_, rfl⟩
       replace H : (if x12_1 = 0 then ((varint_Zag.f t382).bind fun t390 => (if x6_1.length < 17592186044416 then (times_getDelta.l0 k1 y385 (x6_1 ++ [t390]) a1 (wrap64 (x12_1 + 1))) else (none))) else (if 0 ≤ (wrap64 (x12_1 - 1)) then (if (wrap64 (x12_1 - 1)) < (x6_1.length : Int) then (if x6_1.length < 17592186044416 then (times_getDelta.l0 k1 y385 (x6_1 ++ [wrap64 ((rd x6_1 (wrap64 (x12_1 - 1))) + (wrap64 (t382)))]) a1 (wrap64 (x12_1 + 1))) else (none)) else (none)) else (none))) = some (r1, r2) := by first | (rw [hy385]; with_reducible exact H) | (have H2_ := (Option.bind_some _ _).symm.trans H; rw [hy385]; with_reducible exact H2_) | (have H2_ := (Option.bind_some _ _).symm.trans H; with_reducible exact H2_) | with_reducible exact H | (rw [hy385]; exact H) | exact H
       have Ny385 := Aside0.mk hy385
       clear hy385
       by_cases c8 : x12_1 = 0
       ·rw [if_pos c8] at H
        have c8b0 : (x12_1 == 0) = true := beq_iff_eq.mpr c8
        have c8b1 : (x12_1 != 0) = false := bne_eq_false_iff_eq.mpr c8
        clear c8
        replace H := Option.bind_eq_some_iff.mp H
        obtain ⟨t390, A90, H⟩ := H
        replace H : (if x6_1.length < 17592186044416 then (times_getDelta.l0 k1 y385 (x6_1 ++ [t390]) a1 (wrap64 (x12_1 + 1))) else (none)) = some (r1, r2) := H
        have A9 := Aside0.mk A90
        clear A90
        by_cases c10 : x6_1.length < 17592186044416
        ·rw [if_pos c10] at H
         have LMc10 := Aside0.mk c10
         clear c10
         obtain ⟨y391, hy391⟩ : ∃ y_ : List Int, y_ = (x6_1 ++ [t390]) := ⟨_, rfl⟩
         replace H : (times_getDelta.l0 k1 y385 y391 a1 (wrap64 (x12_1 + 1))) = some (r1, r2) := by first | (rw [hy391]; with_reducible exact H) | (have H2_ := (Option.bind_some _ _).symm.trans H; rw [hy391]; with_reducible exact H2_) | (have H2_ := (Option.bind_some _ _).symm.trans H; with_reducible exact H2_) | with_reducible exact H | (rw [hy391]; exact H) | exact H
         have Ny391 := Aside0.mk hy391
         clear hy391
         have H' := Aside0.mk H
         clear H
         obtain ⟨Ao11, co11, eo11⟩ := Kd.V_slice HO_0.out
         subst eo11
         go_wp2_with (first | ((with_reducible refine gate_callee (f := 72) rfl ?_); refine goesL_ (some 17) rfl rfl Tryd.func72 (by kernel_rfl) rfl #[.slice Ao11 x0_1.length co11] rfl (by (try simp only [List.map_toArray, List.map_cons, List.map_nil]); first | done | rfl | (simp only [List.length_drop, List.length_take]; rfl)) ?_; (with_reducible refine (varint_Get.calls k1 _ _ x0_1 t382 t383 t384 _ ?side1 ?side2 A4.out).mono ?_); (case side1 => repeat (first | exact (Kd.V_reads' HO_0.out).2.2 | (with_reducible refine Kd.C_alloc ?_ _) | (with_reducible refine Kd.C_drewN ?_ _) | (with_reducible refine Kd.C_drew ?_))); (case side2 => exact (Kd.V_reads' HO_0.out).2.1); rintro e w' ⟨rfl, ⟨nd, rfl⟩⟩; refine ⟨_, rfl, ?_⟩; have q12 : (t383 : Int) ≤ ((x0_1.length : Int) : Int) := of_decide_eq_true (by first | (with_reducible assumption) | assumption); obtain ⟨i012, hi012, _, hsz12, _⟩ := info_parts info5; have hroom12 : x0_1.length ≤ co11 := (Kd.V_reads' HO_0.out).2.1; have hC12 : Kd.F (Kd.int .u8) _ _ Ao11 x0_1.length x0_1 := (Kd.V_at (base := w.heap.size) HO_0.out).2.2; have q012 : (0 : Int) ≤ (t383 : Int) := of_decide_eq_true (by first | (with_reducible assumption) | assumption); have hcut12 := cut_from (P := Tryd.prog) 23 5 .i64 Tryd.underlying23 hi012 1 hsz12 Ao11 x0_1.length co11 t383 q012 q12; have hr12 := Kd.F_cut (m := (t383 : Int).toNat) (c := co11) hC12 (by omega) hroom12; obtain ⟨A12, hA12⟩ : ∃ A1, A1 = (if co11 = (t383 : Int).toNat then Ao11 else (Ao11 : Option Addr).map (·.add ((t383 : Int).toNat * 1))) := ⟨_, rfl⟩; obtain ⟨c12, hc12⟩ : ∃ c1, c1 = co11 - (t383 : Int).toNat := ⟨_, rfl⟩; have hy12 : y385.length = x0_1.length - (t383 : Int).toNat := (by rw [Ny385.out, List.length_drop] <;> omega); rw [show (x0_1).drop (t383 : Int).toNat = y385 from Ny385.out.symm] at hr12; replace hr12 : Kd.F (Kd.int .u8) _ _ A12 y385.length y385 := (by rw [hA12]; exact hr12); rw [← hy12, ← hA12, ← hc12] at hcut12; have HO389 := Aside0.mk (show Kd.V (Kd.int .u8) 5 _ w.heap.size _ (.slice A12 y385.length c12) y385 from Kd.V_mk (by rw [hy12, hc12]; exact Nat.sub_le_sub_right hroom12 _) hr12); have HC389 := Aside0.mk (show y385.length ≤ c12 from by rw [hy12, hc12]; exact Nat.sub_le_sub_right hroom12 _); clear hr12 hC12 hroom12 hi012 hsz12 hc12; have KY12 := Aside0.mk hy12; have KA12 := Aside0.mk hA12; clear hy12 hA12; replace q12 := eq_true q12) | ((with_reducible refine gate_callee (f := 73) rfl ?_); refine goesL_ (some 31) rfl rfl Tryd.func73 (by kernel_rfl) rfl #[.int .u64 t382] rfl (by (try simp only [List.map_toArray, List.map_cons, List.map_nil]); first | done | rfl | (simp only [List.length_drop, List.length_take]; rfl)) ?_; (with_reducible refine (varint_Zag.calls t382 t390 _ A9.out).mono ?_); rintro e w' ⟨rfl, ⟨nd, rfl⟩⟩; refine ⟨_, rfl, ?_⟩) | ((with_reducible refine gate_builtin (b := .append) (xs := #[.tmp 29, .tmp 32]) rfl ?_); at_builtin; refine Kd.R_append (Kd.int .i64) (w0 := w) w.heap.size rfl (.tmp 29) (.tmp 32) 68 2 (.int .i64 0) 8 rfl Tryd.underlying68 info2 rfl (by decide) (by omega) u6 x6_1 t390 [.int .i64 t390] (fun k_ => (w.heap.size ≤ k_)) (fun _ => False) rfl rfl ?aP (fun _ hk => hk.elim) ?aF ?aO ?aB ?aS ?aL ?_; (case aP => exact rfl); (case aB => exact bB); (case aF => exact (fun k_ hk => (Nat.le_trans (below_size bB) hk))); (case aO => exact (rR HO_6.out)); (case aS => exact (below_size bB)); (case aL => have := LMc10.out; omega); intro v392 w13 ho hb hg hat; rw [← Ny391.out] at ho; have n0_ := Aside0.mk (Kd.V_afterv (ok := (fun k_ => (P0_ k_ ∨ w.heap.size ≤ k_))) (by (with_reducible repeat (first | apply Kd.V_alloc | apply Kd.V_drewN | apply Kd.V_drew)); exact HO_0.out) hg hat); have n1_ := Aside0.mk (Kd.V_afterv (ok := (fun k_ => (P0_ k_ ∨ w.heap.size ≤ k_))) (by (with_reducible repeat (first | apply Kd.V_alloc | apply Kd.V_drewN | apply Kd.V_drew)); exact HO389.out) hg hat); have n2_ := Aside0.mk (hb); have n3_ := Aside0.mk (ho); clear HO_0; clear HO389; clear HB; clear HO_6; have HO_0 := n0_; have HO389 := n1_; have HB := n2_; have HO393 := n3_; clear n0_ n1_ n2_ n3_; clear ho hb hg hat))
         go_roundg k1
         case measure => have := HK1.out; omega
         case rel => exact ⟨(y385), (y391), (wrap64 (x12_1 + 1)), (by first | rfl | (simp; done) | (simp [*]; done)), H', ⟨by have := HK1.out; omega⟩, ⟨by (with_reducible repeat (first | apply Kd.V_alloc | apply Kd.V_drewN | apply Kd.V_drew)); exact HO389.out⟩, ⟨rR HO393.out⟩, ⟨bB⟩⟩
        ·rw [if_neg c10] at H
         exact absurd H (by simp)
       ·rw [if_neg c8] at H
        have c8b0 : (x12_1 == 0) = false := beq_eq_false_iff_ne.mpr c8
        have c8b1 : (x12_1 != 0) = true := bne_iff_ne.mpr c8
        obtain ⟨ji14, hji14⟩ : ∃ j_ : Int, (wrap64 (x12_1 - 1)) = j_ := ⟨_, rfl⟩
        replace H : (if 0 ≤ (ji14) then (if (ji14) < (x6_1.length : Int) then (if x6_1.length < 17592186044416 then (times_getDelta.l0 k1 y385 (x6_1 ++ [wrap64 ((rd x6_1 (ji14)) + (wrap64 (t382)))]) a1 (wrap64 (x12_1 + 1))) else (none)) else (none)) else (none)) = some (r1, r2) := by first | (rw [hji14] at H; exact H) | (simp only [hji14] at H ⊢; exact H)
        (try rw [hji14] at A4)
        have hji14w : (IntKind.i64.wrap (x12_1 - 1)) = ji14 := (i64_w _).trans hji14
        by_cases c15 : 0 ≤ (ji14)
        ·rw [if_pos c15] at H
         have c15b0 : decide (0 ≤ (ji14)) = true := decide_eq_true c15
         clear c15
         by_cases c16 : (ji14) < (x6_1.length : Int)
         ·rw [if_pos c16] at H
          have c16b0 : decide ((ji14) < (x6_1.length : Int)) = true := decide_eq_true c16
          clear c16
          by_cases c17 : x6_1.length < 17592186044416
          ·rw [if_pos c17] at H
           have LMc17 := Aside0.mk c17
           clear c17
           obtain ⟨y395, hy395⟩ : ∃ y_ : List Int, y_ = (x6_1 ++ [wrap64 ((rd x6_1 (ji14)) + (wrap64 (t382)))]) := ⟨_, rfl⟩
           replace H : (times_getDelta.l0 k1 y385 y395 a1 (wrap64 (x12_1 + 1))) = some (r1, r2) := by first | (rw [hy395]; with_reducible exact H) | (have H2_ := (Option.bind_some _ _).symm.trans H; rw [hy395]; with_reducible exact H2_) | (have H2_ := (Option.bind_some _ _).symm.trans H; with_reducible exact H2_) | with_reducible exact H | (rw [hy395]; exact H) | exact H
           have Ny395 := Aside0.mk hy395
           clear hy395
           have H' := Aside0.mk H
           clear H
           obtain ⟨Ao18, co18, eo18⟩ := Kd.V_slice HO_0.out
           subst eo18
           go_wp2_with (first | ((with_reducible refine gate_callee (f := 72) rfl ?_); refine goesL_ (some 17) rfl rfl Tryd.func72 (by kernel_rfl) rfl #[.slice Ao18 x0_1.length co18] rfl (by (try simp only [List.map_toArray, List.map_cons, List.map_nil]); first | done | rfl | (simp only [List.length_drop, List.length_take]; rfl)) ?_; (with_reducible refine (varint_Get.calls k1 _ _ x0_1 t382 t383 t384 _ ?side1 ?side2 A4.out).mono ?_); (case side1 => repeat (first | exact (Kd.V_reads' HO_0.out).2.2 | (with_reducible refine Kd.C_alloc ?_ _) | (with_reducible refine Kd.C_drewN ?_ _) | (with_reducible refine Kd.C_drew ?_))); (case side2 => exact (Kd.V_reads' HO_0.out).2.1); rintro e w' ⟨rfl, ⟨nd, rfl⟩⟩; refine ⟨_, rfl, ?_⟩; have q19 : (t383 : Int) ≤ ((x0_1.length : Int) : Int) := of_decide_eq_true (by first | (with_reducible assumption) | assumption); obtain ⟨i019, hi019, _, hsz19, _⟩ := info_parts info5; have hroom19 : x0_1.length ≤ co18 := (Kd.V_reads' HO_0.out).2.1; have hC19 : Kd.F (Kd.int .u8) _ _ Ao18 x0_1.length x0_1 := (Kd.V_at (base := w.heap.size) HO_0.out).2.2; have q019 : (0 : Int) ≤ (t383 : Int) := of_decide_eq_true (by first | (with_reducible assumption) | assumption); have hcut19 := cut_from (P := Tryd.prog) 23 5 .i64 Tryd.underlying23 hi019 1 hsz19 Ao18 x0_1.length co18 t383 q019 q19; have hr19 := Kd.F_cut (m := (t383 : Int).toNat) (c := co18) hC19 (by omega) hroom19; obtain ⟨A19, hA19⟩ : ∃ A1, A1 = (if co18 = (t383 : Int).toNat then Ao18 else (Ao18 : Option Addr).map (·.add ((t383 : Int).toNat * 1))) := ⟨_, rfl⟩; obtain ⟨c19, hc19⟩ : ∃ c1, c1 = co18 - (t383 : Int).toNat := ⟨_, rfl⟩; have hy19 : y385.length = x0_1.length - (t383 : Int).toNat := (by rw [Ny385.out, List.length_drop] <;> omega); rw [show (x0_1).drop (t383 : Int).toNat = y385 from Ny385.out.symm] at hr19; replace hr19 : Kd.F (Kd.int .u8) _ _ A19 y385.length y385 := (by rw [hA19]; exact hr19); rw [← hy19, ← hA19, ← hc19] at hcut19; have HO389 := Aside0.mk (show Kd.V (Kd.int .u8) 5 _ w.heap.size _ (.slice A19 y385.length c19) y385 from Kd.V_mk (by rw [hy19, hc19]; exact Nat.sub_le_sub_right hroom19 _) hr19); have HC389 := Aside0.mk (show y385.length ≤ c19 from by rw [hy19, hc19]; exact Nat.sub_le_sub_right hroom19 _); clear hr19 hC19 hroom19 hi019 hsz19 hc19; have KY19 := Aside0.mk hy19; have KA19 := Aside0.mk hA19; clear hy19 hA19; replace q19 := eq_true q19; obtain ⟨Ao20, co20, eo20⟩ := Kd.R_slice HO_6.out; subst eo20; have p394 : 0 ≤ ((ji14) : Int) := of_decide_eq_true (by first | (with_reducible assumption) | assumption); have q394 : (ji14) < (x6_1.length : Int) := of_decide_eq_true (by first | (with_reducible assumption) | assumption); obtain ⟨ad394, e394, hx394_0⟩ := Kd.at_int (Kd.R_reads' HO_6.out).2.2 (ji14) p394 q394; cases e394; replace p394 := eq_true p394; replace q394 := eq_true q394) | ((with_reducible refine gate_builtin (b := .append) (xs := #[.tmp 34, .tmp 43]) rfl ?_); at_builtin; refine Kd.R_append (Kd.int .i64) (w0 := w) w.heap.size rfl (.tmp 34) (.tmp 43) 68 2 (.int .i64 0) 8 rfl Tryd.underlying68 info2 rfl (by decide) (by omega) (.slice (some ad394) x6_1.length co20) x6_1 (wrap64 ((rd x6_1 (ji14)) + (wrap64 (t382)))) [.int .i64 (wrap64 ((rd x6_1 (ji14)) + (wrap64 (t382))))] (fun k_ => (w.heap.size ≤ k_)) (fun _ => False) rfl rfl ?aP (fun _ hk => hk.elim) ?aF ?aO ?aB ?aS ?aL ?_; (case aP => exact rfl); (case aB => exact bB); (case aF => exact (fun k_ hk => (Nat.le_trans (below_size bB) hk))); (case aO => exact (rR HO_6.out)); (case aS => exact (below_size bB)); (case aL => have := LMc17.out; omega); intro v396 w21 ho hb hg hat; rw [← Ny395.out] at ho; have n0_ := Aside0.mk (Kd.V_afterv (ok := (fun k_ => (P0_ k_ ∨ w.heap.size ≤ k_))) (by (with_reducible repeat (first | apply Kd.V_alloc | apply Kd.V_drewN | apply Kd.V_drew)); exact HO_0.out) hg hat); have n1_ := Aside0.mk (Kd.V_afterv (ok := (fun k_ => (P0_ k_ ∨ w.heap.size ≤ k_))) (by (with_reducible repeat (first | apply Kd.V_alloc | apply Kd.V_drewN | apply Kd.V_drew)); exact HO389.out) hg hat); have n2_ := Aside0.mk (hb); have n3_ := Aside0.mk (ho); clear HO_0; clear HO389; clear HB; clear HO_6; have HO_0 := n0_; have HO389 := n1_; have HB := n2_; have HO397 := n3_; clear n0_ n1_ n2_ n3_; clear ho hb hg hat))
           go_roundg k1
           case measure => have := HK1.out; omega
           case rel => exact ⟨(y385), (y395), (wrap64 (x12_1 + 1)), (by first | rfl | (simp; done) | (simp [*]; done)), H', ⟨by have := HK1.out; omega⟩, ⟨by (with_reducible repeat (first | apply Kd.V_alloc | apply Kd.V_drewN | apply Kd.V_drew)); exact HO389.out⟩, ⟨rR HO397.out⟩, ⟨bB⟩⟩
          ·rw [if_neg c17] at H
           exact absurd H (by simp)
         ·rw [if_neg c16] at H
          exact absurd H (by simp)
        ·rw [if_neg c15] at H
         exact absurd H (by simp)
      ·rw [if_neg c7] at H
       exact absurd H (by simp)
     ·rw [if_neg c6] at H
      exact absurd H (by simp)
    ·rw [if_neg c5] at H
     have c5b0 : (t384 == 0) = false := beq_eq_false_iff_ne.mpr c5
     have c5b1 : (t384 != 0) = true := bne_iff_ne.mpr c5
     simp only [Option.some.injEq, Prod.mk.injEq] at H
     obtain ⟨rfl, rfl⟩ := H
     obtain ⟨Ao22, co22, eo22⟩ := Kd.V_slice HO_0.out
     subst eo22
     go_wp2_with (first | ((with_reducible refine gate_callee (f := 72) rfl ?_); refine goesL_ (some 17) rfl rfl Tryd.func72 (by kernel_rfl) rfl #[.slice Ao22 x0_1.length co22] rfl (by (try simp only [List.map_toArray, List.map_cons, List.map_nil]); first | done | rfl | (simp only [List.length_drop, List.length_take]; rfl)) ?_; (with_reducible refine (varint_Get.calls k1 _ _ x0_1 t382 t383 t384 _ ?side1 ?side2 A4.out).mono ?_); (case side1 => repeat (first | exact (Kd.V_reads' HO_0.out).2.2 | (with_reducible refine Kd.C_alloc ?_ _) | (with_reducible refine Kd.C_drewN ?_ _) | (with_reducible refine Kd.C_drew ?_))); (case side2 => exact (Kd.V_reads' HO_0.out).2.1); rintro e w' ⟨rfl, ⟨nd, rfl⟩⟩; refine ⟨_, rfl, ?_⟩))
     go_ret2
     exact ⟨_, by first | rfl | (simp [errW_none, errW_some] <;> rfl) | (simp [*, errW_none, errW_some] <;> rfl), by first | exact Kd.R_nil _ _ _ _ _ | exact Kd.N_nil _ _ _ _ _ | exact Kd.V_nil _ _ _ _ _ | exact Kd.Q_nil _ _ _ _ _ | exact Kd.S_nil _ _ _ _ _, bB⟩
   ·rw [if_neg c3] at H
    have c3b0 : decide (x12_1 < a1) = false := decide_eq_false c3
    clear c3
    simp only [Option.some.injEq, Prod.mk.injEq] at H
    obtain ⟨rfl, rfl⟩ := H
    go_wp2
    go_ret2
    exact ⟨_, by first | rfl | (simp [errW_none, errW_some] <;> rfl) | (simp [*, errW_none, errW_some] <;> rfl), rR HO_6.out, bB⟩


/-! ### times_number: function 71 -/
def times_number.l0 : Nat → Int → List Int → Int → Int → Option (Int)
 | 0, _, _, _, _ => none
 | k + 1, x3, x7, x8, x9 => if x9 < x8 then (if 0 ≤ x9 then (if x9 < (x7.length : Int) then (times_number.l0 k (Go.bits .or .u64 (IntKind.u64.wrap (x3 * 256)) (IntKind.u64.wrap (rd x7 x9))) x7 x8 (wrap64 (x9 + 1))) else (none)) else (none)) else (some x3)
def times_number.f (k : Nat) (l0 : List Int) : Option (Int) := if 8 ≤ (l0.length : Int) then (times_number.l0 k 0 (l0.take 8) ((l0.take 8).length : Int) 0) else (none)
theorem times_number.mono_l : ∀ k, (∀ y0 y1 y2 y3, LeO (times_number.l0 k y0 y1 y2 y3) (times_number.l0 (k + 1) y0 y1 y2 y3))
 | 0 => fun _ _ _ _ r h => by simp [times_number.l0] at h
 | k + 1 => by
  have ih0 := times_number.mono_l k
  ·intro y0 y1 y2 y3
   unfold times_number.l0
   repeat' first
   | (with_reducible exact ih0 _ _ _ _)
   | (with_reducible exact LeO.refl _)
   | (with_reducible exact LeO.none _)
   | (with_reducible refine LeO.ite ?_ ?_)
   | (with_reducible refine LeO.bind ?_ (fun _ => ?_))
   | exact ih0 _ _ _ _
   | exact LeO.none _
   | refine LeO.ite ?_ ?_
   | refine LeO.bind ?_ (fun _ => ?_)
theorem times_number.mono : ∀ a0 k, LeO (times_number.f k a0) (times_number.f (k + 1) a0) := by
 intro a0 k
 have ih0 := times_number.mono_l k
 unfold times_number.f
 repeat' first
   | (with_reducible exact ih0 _ _ _ _)
   | (with_reducible exact LeO.refl _)
   | (with_reducible exact LeO.none _)
   | (with_reducible refine LeO.ite ?_ ?_)
   | (with_reducible refine LeO.bind ?_ (fun _ => ?_))
   | exact ih0 _ _ _ _
   | exact LeO.none _
   | refine LeO.ite ?_ ?_
   | refine LeO.bind ?_ (fun _ => ?_)
set_option maxHeartbeats 8000000 in
set_option maxRecDepth 100000 in
theorem times_number.calls (k : Nat) (A0 : Option Addr) (c0 : Nat) (l0 : List Int) (r : Int) (w : World) (hr0 : Kd.C (Kd.int .u8) w A0 l0.length l0) (hc0 : l0.length ≤ c0) (h : times_number.f k l0 = some r) :
  Calls Tryd.prog 71 #[.slice A0 l0.length c0] w fun e w' => e = .returned (.int .u64 r) ∧ Drawn0 w w' := by
 have HR0 := Aside0.mk hr0
 have HC0 := Aside0.mk hc0
 clear hr0 hc0
 have H : (if 8 ≤ (l0.length : Int) then (times_number.l0 k 0 (l0.take 8) ((l0.take 8).length : Int) 0) else (none)) = some r := h
 clear h
 by_cases c2 : 8 ≤ (l0.length : Int)
 ·rw [if_pos c2] at H
  have c2b0 := eq_true c2
  have c2b1 : decide (8 ≤ (l0.length : Int)) = true := decide_eq_true c2
  clear c2
  have H' := Aside0.mk H
  clear H
  obtain ⟨i03, hi03, _, hsz3, _⟩ := info_parts info5
  obtain ⟨hcut3, hA3, hC3⟩ := print_take_of (P := Tryd.prog) (Value.int .u8) 0 23 5 .i64 Tryd.underlying23 hi03 hsz3 A0 c0 l0 8 (by omega) (of_decide_eq_true (by first | (with_reducible assumption) | assumption)) HC0.out
  have HR374 := Aside0.mk (Kd.C_of_reads (h1 := fun _ => rfl) (hA3 _ (Kd.reads_of_C HR0.out)))
  have HC374 := Aside0.mk hC3
  clear hA3 hC3 hi03 hsz3
  obtain ⟨yq3, hyq3⟩ : ∃ y_ : List Int, y_ = l0.take (8 : Int).toNat := ⟨_, rfl⟩
  rw [← hyq3] at hcut3 HR374 HC374
  have eyq3 : (l0.take 8) = yq3 := hyq3.symm
  (try rw [eyq3] at H')
  (try rw [eyq3] at c2b1)
  (try rw [eyq3] at c2b0)
  (try rw [eyq3] at H)
  (try rw [eyq3] at HC0)
  have Nyq3 := Aside0.mk hyq3
  clear eyq3 hyq3
  go_enter Tryd.func71, Tryd.ntmps71
  go_wp2
  go_loopg [3, 9] k (fun kq v3 v9 w' => ∃ (x3_1 : Int) (x9_1 : Int), v3 = .int .u64 x3_1 ∧ v9 = .int .i64 x9_1 ∧ Aside0 (times_number.l0 kq x3_1 yq3 (yq3.length : Int) x9_1 = some r) ∧ Aside0 (kq ≤ k) ∧ Drawn0 w w')
  case atStart => exact ⟨(0), (0), (by first | rfl | (simp; done) | (simp [*]; done)), (by first | rfl | (simp; done) | (simp [*]; done)), H', ⟨Nat.le_refl _⟩, by repeat (first | exact Drawn0.refl _ | apply Drawn0.step)⟩
  case round =>
   clear H'
   (try clear c2);(try clear c2b0);(try clear c2b1);(try clear p2)
   obtain ⟨x3_1, x9_1, rfl, rfl, HA, HK1, ⟨m1, rfl⟩⟩ := hrel
   cases gk with
   | zero => exact absurd HA.out (by simp [times_number.l0])
   | succ k1 =>
    have H := HA.out
    clear HA
    simp only [times_number.l0] at H
    by_cases c4 : x9_1 < (yq3.length : Int)
    ·rw [if_pos c4] at H
     have c4b0 : decide (x9_1 < (yq3.length : Int)) = true := decide_eq_true c4
     clear c4
     by_cases c5 : 0 ≤ x9_1
     ·rw [if_pos c5] at H
      have c5b0 : decide (0 ≤ x9_1) = true := decide_eq_true c5
      clear c5
      by_cases c6 : x9_1 < (yq3.length : Int)
      ·rw [if_pos c6] at H
       have c6b0 : decide (x9_1 < (yq3.length : Int)) = true := decide_eq_true c6
       clear c6
       have H' := Aside0.mk H
       clear H
       have p375 : 0 ≤ (x9_1 : Int) := of_decide_eq_true (by first | (with_reducible assumption) | assumption)
       have q375 : x9_1 < (yq3.length : Int) := of_decide_eq_true (by first | (with_reducible assumption) | assumption)
       obtain ⟨ad375, e375, hx375_0⟩ := Kd.at_int HR374.out x9_1 p375 q375
       cases e375
       replace p375 := eq_true p375
       replace q375 := eq_true q375
       go_wp2
       go_roundg k1
       case measure => have := HK1.out; omega
       case rel => exact ⟨(Go.bits .or .u64 (IntKind.u64.wrap (x3_1 * 256)) (IntKind.u64.wrap (rd yq3 x9_1))), (wrap64 (x9_1 + 1)), (by first | rfl | (simp; done) | (simp [*]; done)), (by first | rfl | (simp; done) | (simp [*]; done)), H', ⟨by have := HK1.out; omega⟩, by repeat (first | exact Drawn0.refl _ | apply Drawn0.step)⟩
      ·rw [if_neg c6] at H
       exact absurd H (by simp)
     ·rw [if_neg c5] at H
      exact absurd H (by simp)
    ·rw [if_neg c4] at H
     have c4b0 : decide (x9_1 < (yq3.length : Int)) = false := decide_eq_false c4
     clear c4
     obtain rfl := Option.some.inj H
     go_wp2
     go_ret
     exact ⟨by first | rfl | (simp; done) | (simp [*]; done), by repeat (first | exact Drawn0.refl _ | apply Drawn0.step)⟩
 ·rw [if_neg c2] at H
  exact absurd H (by simp)


/-! ### times_getPacked: function 66 -/
def times_getPacked.l0 : Nat → List Int → List Int → List Int → Int → Int → Option (List Int × Int)
 | 0, _, _, _, _, _ => none
 | k + 1, x0, x9, x26, x27, x28 => if x28 < x27 then (if 0 ≤ x28 then (if x28 < (x26.length : Int) then ((times_number.f k x0).bind fun t425 => (if x9.length < 17592186044416 then (times_getPacked.l0 k x0 (x9 ++ [wrap64 (IntKind.u64.wrap (t425 + (rd x26 x28)))]) x26 x27 (wrap64 (x28 + 1))) else (none))) else (none)) else (none)) else (some (x9, 0))
def times_getPacked.f (k : Nat) (l0 : List Int) (a1 : Int) : Option (List Int × Int) := if (l0.length : Int) < 8 then (some (([] : List Int), 4)) else (if 8 ≤ (l0.length : Int) then ((pack_Get.f (l0.drop 8) a1).bind fun bt419 => (if bt419.2.2 = 0 then (times_getPacked.l0 k l0 ([] : List Int) bt419.1 (bt419.1.length : Int) 0) else (some (([] : List Int), bt419.2.2)))) else (none))
theorem times_getPacked.mono_l : ∀ k, (∀ y0 y1 y2 y3 y4, LeO (times_getPacked.l0 k y0 y1 y2 y3 y4) (times_getPacked.l0 (k + 1) y0 y1 y2 y3 y4))
 | 0 => fun _ _ _ _ _ r h => by simp [times_getPacked.l0] at h
 | k + 1 => by
  have ih0 := times_getPacked.mono_l k
  ·intro y0 y1 y2 y3 y4
   unfold times_getPacked.l0
   repeat' first
   | (with_reducible exact ih0 _ _ _ _ _)
   | (with_reducible exact times_number.mono _ _)
   | (with_reducible exact LeO.refl _)
   | (with_reducible exact LeO.none _)
   | (with_reducible refine LeO.ite ?_ ?_)
   | (with_reducible refine LeO.bind ?_ (fun _ => ?_))
   | exact ih0 _ _ _ _ _
   | exact times_number.mono _ _
   | exact LeO.none _
   | refine LeO.ite ?_ ?_
   | refine LeO.bind ?_ (fun _ => ?_)
theorem times_getPacked.mono : ∀ a0 a1 k, LeO (times_getPacked.f k a0 a1) (times_getPacked.f (k + 1) a0 a1) := by
 intro a0 a1 k
 have ih0 := times_getPacked.mono_l k
 unfold times_getPacked.f
 repeat' first
   | (with_reducible exact ih0 _ _ _ _ _)
   | (with_reducible exact times_number.mono _ _)
   | (with_reducible exact LeO.refl _)
   | (with_reducible exact LeO.none _)
   | (with_reducible refine LeO.ite ?_ ?_)
   | (with_reducible refine LeO.bind ?_ (fun _ => ?_))
   | exact ih0 _ _ _ _ _
   | exact times_number.mono _ _
   | exact LeO.none _
   | refine LeO.ite ?_ ?_
   | refine LeO.bind ?_ (fun _ => ?_)
set_option maxHeartbeats 8000000 in
set_option maxRecDepth 100000 in
theorem times_getPacked.calls (k : Nat) (A0 : Option Addr) (c0 : Nat) (l0 : List Int) (a1 : Int) (r1 : List Int) (r2 : Int) (w : World) (hr0 : Kd.C (Kd.int .u8) w A0 l0.length l0) (hc0 : l0.length ≤ c0) (h : times_getPacked.f k l0 a1 = some (r1, r2)) :
  Calls Tryd.prog 66 #[.slice A0 l0.length c0, .int .i64 a1] w fun e w' => ∃ v0_ : Value, e = .returned (.tuple #[v0_, .int .i64 r2]) ∧ Kd.R (Kd.int .i64) 2 w' w.heap.size (fun _ => True) v0_ r1 ∧ Below w.heap.size w w' := by
 have HR0 := Aside0.mk hr0
 have HC0 := Aside0.mk hc0
 clear hr0 hc0
 have HB := Aside0.mk (Below.refl w.heap.size w)
 have H : (if (l0.length : Int) < 8 then (some (([] : List Int), 4)) else (if 8 ≤ (l0.length : Int) then ((pack_Get.f (l0.drop 8) a1).bind fun bt419 => (if bt419.2.2 = 0 then (times_getPacked.l0 k l0 ([] : List Int) bt419.1 (bt419.1.length : Int) 0) else (some (([] : List Int), bt419.2.2)))) else (none))) = some (r1, r2) := h
 clear h
 by_cases c3 : (l0.length : Int) < 8
 ·rw [if_pos c3] at H
  have c3b0 : decide ((l0.length : Int) < 8) = true := decide_eq_true c3
  have c3b1 : decide (l0.length < 8) = true := decide_eq_true (by omega)
  clear c3
  simp only [Option.some.injEq, Prod.mk.injEq] at H
  obtain ⟨rfl, rfl⟩ := H
  go_enter Tryd.func66, Tryd.ntmps66
  go_wp2
  go_ret2
  exact ⟨_, by first | rfl | (simp [errW_none, errW_some] <;> rfl) | (simp [*, errW_none, errW_some] <;> rfl), by first | exact Kd.R_nil _ _ _ _ _ | exact Kd.N_nil _ _ _ _ _ | exact Kd.V_nil _ _ _ _ _ | exact Kd.Q_nil _ _ _ _ _ | exact Kd.S_nil _ _ _ _ _, bB⟩
 ·rw [if_neg c3] at H
  have c3b0 : decide ((l0.length : Int) < 8) = false := decide_eq_false c3
  have c3b1 : decide (l0.length < 8) = false := decide_eq_false (by omega)
  clear c3
  by_cases c4 : 8 ≤ (l0.length : Int)
  ·rw [if_pos c4] at H
   have c4b0 := eq_true c4
   have c4b1 : decide (8 ≤ (l0.length : Int)) = true := decide_eq_true c4
   clear c4
   replace H := Option.bind_eq_some_iff.mp H
   obtain ⟨⟨t419, t420, t421⟩, A50, H⟩ := H
   replace H : (if t421 = 0 then (times_getPacked.l0 k l0 ([] : List Int) t419 (t419.length : Int) 0) else (some (([] : List Int), t421))) = some (r1, r2) := H
   have A5 := Aside0.mk A50
   clear A50
   by_cases c6 : t421 = 0
   ·rw [if_pos c6] at H
    have c6b0 : (t421 == 0) = true := beq_iff_eq.mpr c6
    have c6b1 : (t421 != 0) = false := bne_eq_false_iff_eq.mpr c6
    clear c6
    have H' := Aside0.mk H
    clear H
    obtain ⟨i07, hi07, _, hsz7, _⟩ := info_parts info5
    obtain ⟨A7, hcut7, hA7, hC7⟩ := print_drop_of (P := Tryd.prog) (Value.int .u8) 0 23 5 .i64 Tryd.underlying23 hi07 hsz7 A0 c0 l0 8 (by omega) (of_decide_eq_true (by first | (with_reducible assumption) | assumption)) HC0.out
    have HR418 := Aside0.mk (Kd.C_of_reads (h1 := fun _ => rfl) (hA7 _ (Kd.reads_of_C HR0.out)))
    have HC418 := Aside0.mk hC7
    clear hA7 hC7 hi07 hsz7
    obtain ⟨yq7, hyq7⟩ : ∃ y_ : List Int, y_ = l0.drop (8 : Int).toNat := ⟨_, rfl⟩
    rw [← hyq7] at hcut7 HR418 HC418
    have eyq7 : (l0.drop 8) = yq7 := hyq7.symm
    (try rw [eyq7] at H')
    (try rw [eyq7] at c6b1)
    (try rw [eyq7] at c6b0)
    (try rw [eyq7] at A5)
    (try rw [eyq7] at H)
    (try rw [eyq7] at c4b1)
    (try rw [eyq7] at c4b0)
    (try rw [eyq7] at c3b1)
    (try rw [eyq7] at c3b0)
    (try rw [eyq7] at HC0)
    have Nyq7 := Aside0.mk hyq7
    clear eyq7 hyq7
    go_enter Tryd.func66, Tryd.ntmps66
    go_wp2_with (first | ((with_reducible refine gate_callee (f := 56) rfl ?_); refine goesL_ (some 19) rfl rfl Tryd.func56 (by kernel_rfl) rfl #[.slice A7 yq7.length (c0 - 8), .int .i64 a1] rfl (by (try simp only [List.map_toArray, List.map_cons, List.map_nil]); first | done | (rw [show yq7.length = (l0.length - 8) from List.length_drop] <;> rfl) | rfl | (simp only [List.length_drop, List.length_take]; rfl)) ?_; (with_reducible refine (pack_Get.calls _ _ yq7 a1 t419 t420 t421 _ ?side1 ?side2 A5.out).mono ?_); (case side1 => exact cC HR418.out); (case side2 => exact HC418.out); rintro e w8 ⟨v422, rfl, ho0, hb⟩; refine ⟨_, rfl, ?_⟩; have n0_ := Aside0.mk (Kd.R_lower ho0 (below_size bB)); have n1_ := Aside0.mk (below_step bB hb); clear HB; have HO423 := n0_; have HB := n1_; clear n0_ n1_; (try clear hb ho0); obtain ⟨Ao9, co9, eo9⟩ := Kd.R_slice HO423.out; subst eo9))
    go_loopg [9, 28] k (fun kq v9 v28 w' => ∃ (x9_1 : List Int) (x28_1 : Int), v28 = .int .i64 x28_1 ∧ Aside0 (times_getPacked.l0 kq l0 x9_1 t419 (t419.length : Int) x28_1 = some (r1, r2)) ∧ Aside0 (kq ≤ k) ∧ Aside0 (Kd.R (Kd.int .i64) 2 w' w.heap.size (fun _ => True) v9 x9_1) ∧ Aside0 (Kd.R (Kd.int .u64) 34 w' w.heap.size (fun _ => True) (.slice Ao9 t419.length co9) t419) ∧ Aside0 (Below w.heap.size w w'))
    case atStart => exact ⟨(([] : List Int)), (0), (by first | rfl | (simp; done) | (simp [*]; done)), H', ⟨Nat.le_refl _⟩, ⟨by first | exact Kd.R_nil _ _ _ _ _ | exact Kd.N_nil _ _ _ _ _ | exact Kd.V_nil _ _ _ _ _ | exact Kd.Q_nil _ _ _ _ _ | exact Kd.S_nil _ _ _ _ _⟩, ⟨rR HO423.out⟩, ⟨bB⟩⟩
    case round =>
     clear H'
     (try clear p2);(try clear c3);(try clear c3b0);(try clear c3b1);(try clear c4);(try clear c4b0);(try clear c4b1);(try clear c5);(try clear c6);(try clear c6b0);(try clear c6b1)
     obtain ⟨x9_1, x28_1, rfl, HA, HK1, HO_9, HO_26, HB⟩ := hrel
     cases gk with
     | zero => exact absurd HA.out (by simp [times_getPacked.l0])
     | succ k1 =>
      have H := HA.out
      clear HA
      simp only [times_getPacked.l0] at H
      by_cases c10 : x28_1 < (t419.length : Int)
      ·rw [if_pos c10] at H
       have c10b0 : decide (x28_1 < (t419.length : Int)) = true := decide_eq_true c10
       clear c10
       by_cases c11 : 0 ≤ x28_1
       ·rw [if_pos c11] at H
        have c11b0 : decide (0 ≤ x28_1) = true := decide_eq_true c11
        clear c11
        by_cases c12 : x28_1 < (t419.length : Int)
        ·rw [if_pos c12] at H
         have c12b0 : decide (x28_1 < (t419.length : Int)) = true := decide_eq_true c12
         clear c12
         replace H := Option.bind_eq_some_iff.mp H
         obtain ⟨t425, A130, H⟩ := H
         replace H : (if x9_1.length < 17592186044416 then (times_getPacked.l0 k1 l0 (x9_1 ++ [wrap64 (IntKind.u64.wrap (t425 + (rd t419 x28_1)))]) t419 (t419.length : Int) (wrap64 (x28_1 + 1))) else (none)) = some (r1, r2) := H
         have A13 := Aside0.mk A130
         clear A130
         by_cases c14 : x9_1.length < 17592186044416
         ·rw [if_pos c14] at H
          have LMc14 := Aside0.mk c14
          clear c14
          obtain ⟨y426, hy426⟩ : ∃ y_ : List Int, y_ = (x9_1 ++ [wrap64 (IntKind.u64.wrap (t425 + (rd t419 x28_1)))]) := ⟨_, rfl⟩
          replace H : (times_getPacked.l0 k1 l0 y426 t419 (t419.length : Int) (wrap64 (x28_1 + 1))) = some (r1, r2) := by first | (rw [hy426]; with_reducible exact H) | (have H2_ := (Option.bind_some _ _).symm.trans H; rw [hy426]; with_reducible exact H2_) | (have H2_ := (Option.bind_some _ _).symm.trans H; with_reducible exact H2_) | with_reducible exact H | (rw [hy426]; exact H) | exact H
          have Ny426 := Aside0.mk hy426
          clear hy426
          have H' := Aside0.mk H
          clear H
          have p424 : 0 ≤ (x28_1 : Int) := of_decide_eq_true (by first | (with_reducible assumption) | assumption)
          have q424 : x28_1 < (t419.length : Int) := of_decide_eq_true (by first | (with_reducible assumption) | assumption)
          obtain ⟨ad424, e424, hx424_0⟩ := Kd.at_int (Kd.R_reads' HO_26.out).2.2 x28_1 p424 q424
          cases e424
          replace p424 := eq_true p424
          replace q424 := eq_true q424
          go_wp2_with (first | ((with_reducible refine gate_callee (f := 71) rfl ?_); refine goesL_ (some 34) rfl rfl Tryd.func71 (by kernel_rfl) rfl #[.slice A0 l0.length c0] rfl (by (try simp only [List.map_toArray, List.map_cons, List.map_nil]); first | done | rfl | (simp only [List.length_drop, List.length_take]; rfl)) ?_; (with_reducible refine (times_number.calls k1 _ _ l0 t425 _ ?side1 ?side2 A13.out).mono ?_); (case side1 => exact cC (Kd.C_below HR0.out HB.out)); (case side2 => exact HC0.out); rintro e w' ⟨rfl, ⟨nd, rfl⟩⟩; refine ⟨_, rfl, ?_⟩) | ((with_reducible refine gate_builtin (b := .append) (xs := #[.tmp 32, .tmp 38]) rfl ?_); at_builtin; refine Kd.R_append (Kd.int .i64) (w0 := w) w.heap.size rfl (.tmp 32) (.tmp 38) 68 2 (.int .i64 0) 8 rfl Tryd.underlying68 info2 rfl (by decide) (by omega) u9 x9_1 (wrap64 (IntKind.u64.wrap (t425 + (rd t419 x28_1)))) [.int .i64 (wrap64 (IntKind.u64.wrap (t425 + (rd t419 x28_1))))] (fun _ => True) (fun _ => False) rfl rfl ?aP (fun _ hk => hk.elim) ?aF ?aO ?aB ?aS ?aL ?_; (case aP => exact rfl); (case aB => exact bB); (case aF => exact (fun _ _ => trivial)); (case aO => exact (rR HO_9.out)); (case aS => exact (below_size bB)); (case aL => have := LMc14.out; omega); intro v427 w15 ho hb hg hat; rw [← Ny426.out] at ho; have n0_ := Aside0.mk (Kd.R_over' (rR HO_26.out) (Kd.R_typed (rR HO_9.out)) (by decide) hg); have n1_ := Aside0.mk (hb); have n2_ := Aside0.mk (ho); clear HO_26; clear HB; clear HO_9; have HO_26 := n0_; have HB := n1_; have HO428 := n2_; clear n0_ n1_ n2_; clear ho hb hg hat))
          go_roundg k1
          case measure => have := HK1.out; omega
          case rel => exact ⟨(y426), (wrap64 (x28_1 + 1)), (by first | rfl | (simp; done) | (simp [*]; done)), H', ⟨by have := HK1.out; omega⟩, ⟨rR HO428.out⟩, ⟨rR HO_26.out⟩, ⟨bB⟩⟩
         ·rw [if_neg c14] at H
          exact absurd H (by simp)
        ·rw [if_neg c12] at H
         exact absurd H (by simp)
       ·rw [if_neg c11] at H
        exact absurd H (by simp)
      ·rw [if_neg c10] at H
       have c10b0 : decide (x28_1 < (t419.length : Int)) = false := decide_eq_false c10
       clear c10
       simp only [Option.some.injEq, Prod.mk.injEq] at H
       obtain ⟨rfl, rfl⟩ := H
       go_wp2
       go_ret2
       exact ⟨_, by first | rfl | (simp [errW_none, errW_some] <;> rfl) | (simp [*, errW_none, errW_some] <;> rfl), rR HO_9.out, bB⟩
   ·rw [if_neg c6] at H
    have c6b0 : (t421 == 0) = false := beq_eq_false_iff_ne.mpr c6
    have c6b1 : (t421 != 0) = true := bne_iff_ne.mpr c6
    simp only [Option.some.injEq, Prod.mk.injEq] at H
    obtain ⟨rfl, rfl⟩ := H
    obtain ⟨i016, hi016, _, hsz16, _⟩ := info_parts info5
    obtain ⟨A16, hcut16, hA16, hC16⟩ := print_drop_of (P := Tryd.prog) (Value.int .u8) 0 23 5 .i64 Tryd.underlying23 hi016 hsz16 A0 c0 l0 8 (by omega) (of_decide_eq_true (by first | (with_reducible assumption) | assumption)) HC0.out
    have HR418 := Aside0.mk (Kd.C_of_reads (h1 := fun _ => rfl) (hA16 _ (Kd.reads_of_C HR0.out)))
    have HC418 := Aside0.mk hC16
    clear hA16 hC16 hi016 hsz16
    obtain ⟨yq16, hyq16⟩ : ∃ y_ : List Int, y_ = l0.drop (8 : Int).toNat := ⟨_, rfl⟩
    rw [← hyq16] at hcut16 HR418 HC418
    have eyq16 : (l0.drop 8) = yq16 := hyq16.symm
    (try rw [eyq16] at c6b1)
    (try rw [eyq16] at c6b0)
    (try rw [eyq16] at HC418)
    (try rw [eyq16] at H')
    (try rw [eyq16] at A5)
    (try rw [eyq16] at H)
    (try rw [eyq16] at c4b1)
    (try rw [eyq16] at c4b0)
    (try rw [eyq16] at c3b1)
    (try rw [eyq16] at c3b0)
    (try rw [eyq16] at HC0)
    have Nyq16 := Aside0.mk hyq16
    clear eyq16 hyq16
    go_enter Tryd.func66, Tryd.ntmps66
    go_wp2_with (first | ((with_reducible refine gate_callee (f := 56) rfl ?_); refine goesL_ (some 19) rfl rfl Tryd.func56 (by kernel_rfl) rfl #[.slice A16 yq16.length (c0 - 8), .int .i64 a1] rfl (by (try simp only [List.map_toArray, List.map_cons, List.map_nil]); first | done | (rw [show yq16.length = (l0.length - 8) from List.length_drop] <;> rfl) | rfl | (simp only [List.length_drop, List.length_take]; rfl)) ?_; (with_reducible refine (pack_Get.calls _ _ yq16 a1 t419 t420 t421 _ ?side1 ?side2 A5.out).mono ?_); (case side1 => exact cC HR418.out); (case side2 => exact HC418.out); rintro e w17 ⟨v422, rfl, ho0, hb⟩; refine ⟨_, rfl, ?_⟩; have n0_ := Aside0.mk (Kd.R_lower ho0 (below_size bB)); have n1_ := Aside0.mk (below_step bB hb); clear HB; have HO423 := n0_; have HB := n1_; clear n0_ n1_; (try clear hb ho0)))
    go_ret2
    exact ⟨_, by first | rfl | (simp [errW_none, errW_some] <;> rfl) | (simp [*, errW_none, errW_some] <;> rfl), by first | exact Kd.R_nil _ _ _ _ _ | exact Kd.N_nil _ _ _ _ _ | exact Kd.V_nil _ _ _ _ _ | exact Kd.Q_nil _ _ _ _ _ | exact Kd.S_nil _ _ _ _ _, bB⟩
  ·rw [if_neg c4] at H
   exact absurd H (by simp)

end Go.Proofs.YtmlbppfcpejlpaaDoor.X
