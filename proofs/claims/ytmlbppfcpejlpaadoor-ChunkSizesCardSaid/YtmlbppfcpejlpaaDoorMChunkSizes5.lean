/- Texts of this claim, laid together (wip/merge.py): Q10, Q10s, XRicklaw10Chunksizes, PureChunkSizes, T08. No conditions. -/
import Derived.Test.YtmlbppfcpejlpaaDoorMChunkSizes4
import Derived.Test.YtmlbppfcpejlpaaDoorMChunkSizes1
import Derived.Test.YtmlbppfcpejlpaaDoorMChunkSizes2
import Derived.Deep.RegionWith
import Derived.Deep.DrawnRows
import Derived.WideKeyPair
import Derived.Test.YtmlbppfcpejlpaaDoorRows
import Derived.LaidMore
import Derived.Lib.LaidTab
import Derived.Stop.Joined
/- What the functions of layer 10 (chunk) lay down of samples. No conditions. -/
namespace Go.Proofs.YtmlbppfcpejlpaaDoor.Q10
open Go Go.RowKit Go.Proofs.YtmlbppfcpejlpaaDoorW.PrintWords Go.Proofs.YtmlbppfcpejlpaaDoorW.PrintMore Go.Proofs.YtmlbppfcpejlpaaDoor.S Go.Proofs.YtmlbppfcpejlpaaDoor.B Go.Proofs.YtmlbppfcpejlpaaDoor.X Go.Proofs.YtmlbppfcpejlpaaDoor.Q05 Go.Proofs.YtmlbppfcpejlpaaDoor.Q06
set_option linter.unusedVariables false
set_option linter.unusedSimpArgs false

abbrev Smp := S51
/-- A number's eight bytes, the highest first. -/
def b8 (x : Int) : List Int := [x / 72057594037927936 % 256, x / 281474976710656 % 256, x / 1099511627776 % 256, x / 4294967296 % 256, x / 16777216 % 256, x / 65536 % 256, x / 256 % 256, x % 256]
theorem b8_len (x : Int) : (b8 x).length = 8 := rfl
theorem b8_bs (x : Int) : Bs (b8 x) := by
 intro y hy
 simp only [b8, List.mem_cons, List.mem_nil_iff, or_false] at hy
 omega
theorem sh8 (x : Int) (i : Nat) (h : i < 8) : shr .u64 x (wrap64 (8 * (i : Int))) = x / 2 ^ (8 * i) := by
 rw [wrap64_id (by omega) (by omega)]
 unfold shr
 rw [show (8 * (i : Int)).toNat = 8 * i by omega, Nat.min_eq_left (by show 8 * i ≤ 64; omega)]
theorem dec64 (i : Nat) (h : i < 8) : wrap64 ((i : Int) - 1) = (i : Int) - 1 := wrap64_id (by omega) (by omega)
/-- The lowest i bytes of a number, the highest first. -/
def low (x : Int) : Nat → List Int
 | 0 => []
 | i + 1 => (x / 2 ^ (8 * i) % 256) :: low x i
theorem low_eight (x : Int) : low x 8 = b8 x := by
 simp only [low, b8, Nat.reduceMul, Int.reducePow, Nat.mul_zero, Int.pow_zero, Int.ediv_one]
theorem t_run (x : Int) : ∀ (i k : Nat) (l : List Int), i ≤ 8 → l.length + i < 140737488355329 → times_raw.l0 (k + i + 1) l x ((i : Int) - 1) = some (l ++ low x i) := by
 intro i
 induction i with
 | zero => intro k l _ _; rw [times_raw.l0, if_neg (by omega), low, List.append_nil]
 | succ i ih =>
  intro k l hi hl
  have e : ((i + 1 : Nat) : Int) - 1 = (i : Int) := by omega
  rw [e, times_raw.l0, if_pos (by omega), if_pos (by rw [wrap64_id] <;> omega), if_pos (by omega), sh8 x i (by omega), dec64 i (by omega), ← Nat.add_assoc, ih k _ (by omega) (by rw [List.length_append]; simp; omega), low, List.append_assoc, List.singleton_append]
theorem traw {k : Nat} {l : List Int} {x : Int} (hk : 8 < k) (hl : l.length + 8 < 140737488355328) : times_raw.f k l x = some (l ++ b8 x) := by
 obtain ⟨k, rfl⟩ : ∃ q, k = q + 8 + 1 := ⟨k - 9, by omega⟩
 unfold times_raw.f
 rw [← low_eight]
 exact t_run x 8 k l (by omega) (by omega)
/-- Numbers in eight bytes each. -/
def b8s (l : List Int) : List Int := (l.map b8).flatten
theorem b8s_len (l : List Int) : (b8s l).length = 8 * l.length := by
 induction l with
 | nil => rfl
 | cons a l ih => rw [b8s, List.map_cons, List.flatten_cons, List.length_append, b8_len, ← b8s, ih, List.length_cons]; omega
theorem b8s_cons (a : Int) (l : List Int) : b8s (a :: l) = b8 a ++ b8s l := rfl
theorem c_run (x : Int) (a : List Int) (n j : Int) : ∀ (i k : Nat) (l : List Int), i ≤ 8 → l.length + i < 140737488355329 → chunk_raw.l1 (k + i + 1) l x ((i : Int) - 1) a n j = chunk_raw.l0 k (l ++ low x i) a n (wrap64 (j + 1)) := by
 intro i
 induction i with
 | zero => intro k l _ _; rw [chunk_raw.l1, if_neg (by omega), low, List.append_nil]
 | succ i ih =>
  intro k l hi hl
  have e : ((i + 1 : Nat) : Int) - 1 = (i : Int) := by omega
  rw [e, chunk_raw.l1, if_pos (by omega), if_pos (by rw [wrap64_id] <;> omega), if_pos (by omega), sh8 x i (by omega), dec64 i (by omega), ← Nat.add_assoc, ih k _ (by omega) (by rw [List.length_append]; simp; omega), low, List.append_assoc, List.singleton_append]
theorem craw1 {k : Nat} {l : List Int} {x : Int} {a : List Int} {n j : Int} (hl : l.length + 8 < 140737488355328) : chunk_raw.l1 (k + 9) l x 7 a n j = chunk_raw.l0 k (l ++ b8 x) a n (wrap64 (j + 1)) := by
 rw [← low_eight]
 exact c_run x a n j 8 k l (by omega) (by omega)
theorem craw_l0 {l : List Int} (hl : l.length ≤ 200) (d : Nat) : ∀ (i k : Nat) (acc : List Int), i + d = l.length → 10 * d < k → acc.length + 8 * d < 1000000 → chunk_raw.l0 k acc l (l.length : Int) (i : Int) = some (acc ++ b8s (l.drop i)) := by
 induction d with
 | zero =>
  intro i k acc hi hk ha
  obtain ⟨k, rfl⟩ : ∃ q, k = q + 1 := ⟨k - 1, by omega⟩
  rw [chunk_raw.l0, if_neg (by omega), List.drop_of_length_le (by omega)]
  simp [b8s]
 | succ d ih =>
  intro i k acc hi hk ha
  obtain ⟨k, rfl⟩ : ∃ q, k = q + 10 := ⟨k - 10, by omega⟩
  have hlt : i < l.length := by omega
  rw [chunk_raw.l0, if_pos (by omega), if_pos (by omega), if_pos (by omega), craw1 (by omega), rd_get hlt, Q06.succ64 (by omega), ih (i + 1) k _ (by omega) (by omega) (by rw [List.length_append, b8_len]; omega), List.drop_eq_getElem_cons hlt, b8s_cons, List.append_assoc]
theorem craw {k : Nat} {l : List Int} (hl : l.length ≤ 200) (hk : 2000 < k) : chunk_raw.f k l = some (b8s l) := by
 unfold chunk_raw.f
 have := craw_l0 hl l.length 0 k [] (by omega) (by omega) (by simp; omega)
 simpa using this
/-- Differences with the first one. -/
def offs (l : List Int) : List Int := l.map (fun x => IntKind.u64.wrap (IntKind.u64.wrap x - IntKind.u64.wrap (rd l 0)))
theorem offs_len (l : List Int) : (offs l).length = l.length := by simp [offs]
theorem offs_us (l : List Int) : Us (offs l) := by
 intro x hx
 obtain ⟨y, _, rfl⟩ := List.mem_map.1 hx
 rw [wrap_u64]; omega
theorem offs_l0 {l : List Int} (hl : l.length ≤ 200) (d : Nat) : ∀ (i k : Nat) (acc : List Int), i + d = l.length → d < k → acc.length + d < 1000000 → times_offsets.l0 k l acc l (l.length : Int) (i : Int) = some (acc ++ (l.drop i).map (fun x => IntKind.u64.wrap (IntKind.u64.wrap x - IntKind.u64.wrap (rd l 0)))) := by
 induction d with
 | zero =>
  intro i k acc hi hk ha
  obtain ⟨k, rfl⟩ : ∃ q, k = q + 1 := ⟨k - 1, by omega⟩
  rw [times_offsets.l0, if_neg (by omega), List.drop_of_length_le (by omega)]
  simp
 | succ d ih =>
  intro i k acc hi hk ha
  obtain ⟨k, rfl⟩ : ∃ q, k = q + 1 := ⟨k - 1, by omega⟩
  have hlt : i < l.length := by omega
  rw [times_offsets.l0, if_pos (by omega), if_pos (by omega), if_pos (by omega), if_pos (by omega), if_pos (by omega), rd_get hlt, Q06.succ64 (by omega), ih (i + 1) k _ (by omega) (by omega) (by rw [List.length_append]; simp; omega), List.drop_eq_getElem_cons hlt, List.map_cons, List.append_assoc]
  rfl
theorem offs_spec {k : Nat} {l : List Int} (hl : l.length ≤ 200) (hk : 200 < k) : times_offsets.f k l = some (offs l) := by
 unfold times_offsets.f
 have := offs_l0 hl l.length 0 k [] (by omega) (by omega) (by simp; omega)
 simpa [offs] using this
/-- The bytes of numbers that are packed. -/
def packed (l : List Int) : List Int := if l.length = 0 then [] else packB (pack_Put.bits l)
theorem pack_spec {l : List Int} (hu : Us l) (hl : l.length ≤ 200) : pack_Put.f l = some (packed l, 0) := by
 unfold pack_Put.f packed
 rw [if_neg (by omega)]
 by_cases h : l.length = 0
 ·rw [if_pos h, if_pos h]
 ·rw [if_neg h, if_neg h, if_pos (show pack_Put.ok l = true from List.all_eq_true.2 (fun x hx => by simpa using hu x hx))]
theorem flat_len (n : Nat) (lo : Int) (l : List Int) : (l.map (fun x => bitsN n (x - lo))).flatten.length = l.length * n := by
 induction l with
 | nil => simp
 | cons a l ih => rw [List.map_cons, List.flatten_cons, List.length_append, ih, bitsN_len, List.length_cons, Nat.succ_mul]; omega
theorem wide {l : List Int} (hu : Us l) : pack_Put.width l ≤ 64 := by
 unfold pack_Put.width
 by_cases h : l.length = 0
 ·rw [List.length_eq_zero_iff.1 h]; decide +kernel
 ·have h1 := min_facts (l := l) (by omega)
  have h2 := max_facts (l := l) (by omega)
  have h3 := hu _ h1.1
  have h4 := hu _ h2.1
  have h5 := h1.2 _ h2.1
  generalize maxL l = a at *
  generalize minL l = b at *
  exact wd_le (by omega) (by rw [show (2 : Int) ^ 64 = 18446744073709551616 by decide]; omega)
theorem packed_len {l : List Int} (hu : Us l) (hl : l.length ≤ 200) : (packed l).length ≤ 100000 := by
 unfold packed
 split
 ·simp
 ·rw [packB_len]
  unfold pack_Put.bits pack_Put.body
  rw [List.length_append, List.length_append, bitsN_len, bitsN_len]
  have := flat_len (pack_Put.width l) (minL l) l
  have hw := wide hu
  have : l.length * pack_Put.width l ≤ 200 * 64 := Nat.mul_le_mul hl hw
  omega
/-- The bytes of values, by a way. -/
def vput (way : Int) (l : List Int) : List Int :=
 if way = 0 then b8s l else if way = 1 then packB (xors_Put.part l l.length) else if way = 2 then Q09.runB 200 l else packed l
theorem values_spec {k : Nat} {l : List Int} {way : Int} (hu : Us l) (hl : l.length ≤ 200) (hk : 2000 < k) : chunk_values.f k l way = some (vput way l) := by
 unfold chunk_values.f vput
 by_cases h0 : way = 0
 ·rw [if_pos h0, if_pos h0, craw hl hk]; rfl
 by_cases h1 : way = 1
 ·rw [if_neg h0, if_neg h0, if_pos h1, if_pos h1]
  unfold xors_Put.f
  rw [if_neg (by omega), if_pos (show xors_Put.ok l = true from List.all_eq_true.2 (fun x hx => by simpa using hu x hx))]; rfl
 by_cases h2 : way = 2
 ·rw [if_neg h0, if_neg h0, if_neg h1, if_neg h1, if_pos h2, if_pos h2, Q09.put9_spec hu hl]; rfl
 ·rw [if_neg h0, if_neg h0, if_neg h1, if_neg h1, if_neg h2, if_neg h2, pack_spec hu hl]; rfl
theorem vput_len {l : List Int} {way : Int} (hu : Us l) (hl : l.length ≤ 200) : (vput way l).length ≤ 100000 := by
 unfold vput
 split
 ·rw [b8s_len]; omega
 ·split
  ·rw [packB_len]; have := xors_Put.part_len hu l.length (by omega); omega
  ·split
   ·have := Q09.runB_len 200 l; omega
   ·exact packed_len hu hl
/-- The bytes of times, by a way. -/
def is_ (l : List Int) : Prop := ∀ x ∈ l, -9223372036854775808 ≤ x ∧ x < 9223372036854775808
def zg (n : Int) : Int := if 0 ≤ n then 2 * n else -2 * n - 1
def steps (l : List Int) : Nat → List Int
 | 0 => []
 | i + 1 => steps l i ++ vb (IntKind.u64.wrap (IntKind.u64.wrap (rd l ((i + 1 : Nat) : Int)) - IntKind.u64.wrap (rd l (i : Int))))
theorem steps_len (l : List Int) (i : Nat) : (steps l i).length ≤ 10 * i := by
 induction i with
 | zero => simp [steps]
 | succ i ih => rw [steps, List.length_append]; have := vb_len (IntKind.u64.wrap (IntKind.u64.wrap (rd l ((i + 1 : Nat) : Int)) - IntKind.u64.wrap (rd l (i : Int)))); omega
def tput (way : Int) (l : List Int) : List Int :=
 if l.length = 0 then [] else if way = 2 then packB (times_twice.part l l.length) else if way = 3 then b8 (IntKind.u64.wrap (rd l 0)) ++ packed (offs l) else if way = 0 then b8s (l.map IntKind.u64.wrap) else vb (zg (rd l 0)) ++ steps l (l.length - 1)
theorem zig_spec {n : Int} (h0 : -9223372036854775808 ≤ n) (h1 : n < 9223372036854775808) : varint_Zig.f n = some (zg n) := by
 unfold varint_Zig.f zg
 congr 1
 by_cases hn : 0 ≤ n
 ·rw [if_pos hn, show n / 9223372036854775808 = 0 by omega, show IntKind.u64.wrap 0 = 0 by rw [wrap_u64]; rfl, wrap_u64, wrap_u64]
  show IntKind.u64.wrap (((BitVec.ofInt 64 _ ^^^ BitVec.ofInt 64 0 : BitVec 64).toNat : Nat) : Int) = _
  rw [show BitVec.ofInt 64 0 = 0#64 by rfl, BitVec.xor_zero, BitVec.toNat_ofInt, wrap_u64]
  omega
 ·rw [if_neg hn, show n / 9223372036854775808 = -1 by omega, show IntKind.u64.wrap (-1) = 18446744073709551615 by rw [wrap_u64]; rfl, wrap_u64, wrap_u64]
  show IntKind.u64.wrap (((BitVec.ofInt 64 _ ^^^ BitVec.ofInt 64 18446744073709551615 : BitVec 64).toNat : Nat) : Int) = _
  rw [show BitVec.ofInt 64 18446744073709551615 = BitVec.allOnes 64 by decide +kernel, BitVec.xor_allOnes, BitVec.toNat_not, BitVec.toNat_ofInt, wrap_u64]
  omega
theorem t0_l0 {l : List Int} (hl : l.length ≤ 200) (d : Nat) : ∀ (i k : Nat) (acc : List Int), i + d = l.length → d + 10 < k → acc.length + 8 * d < 1000000 → times_Put.l0 k acc l (l.length : Int) (i : Int) = some (acc ++ b8s ((l.drop i).map IntKind.u64.wrap), 0) := by
 induction d with
 | zero =>
  intro i k acc hi hk ha
  obtain ⟨k, rfl⟩ : ∃ q, k = q + 1 := ⟨k - 1, by omega⟩
  rw [times_Put.l0, if_neg (by omega), List.drop_of_length_le (by omega)]
  simp [b8s]
 | succ d ih =>
  intro i k acc hi hk ha
  obtain ⟨k, rfl⟩ : ∃ q, k = q + 1 := ⟨k - 1, by omega⟩
  have hlt : i < l.length := by omega
  rw [times_Put.l0, if_pos (by omega), if_pos (by omega), if_pos (by omega), rd_get hlt, traw (by omega) (by omega), Option.bind_some, Q06.succ64 (by omega), ih (i + 1) k _ (by omega) (by omega) (by rw [List.length_append, b8_len]; omega), List.drop_eq_getElem_cons hlt, List.map_cons, b8s_cons, List.append_assoc]
theorem u64_rng (n : Int) : 0 ≤ IntKind.u64.wrap n ∧ IntKind.u64.wrap n < 18446744073709551616 := by rw [wrap_u64]; omega
theorem t1_l1 {l : List Int} (hl : l.length ≤ 200) (B : List Int) (hB : B.length ≤ 10) (d : Nat) : ∀ (i k : Nat), i + 1 + d = l.length → d + 12 < k → times_Put.l1 k l (B ++ steps l i) ((i + 1 : Nat) : Int) = some (B ++ steps l (l.length - 1), 0) := by
 induction d with
 | zero =>
  intro i k hi hk
  obtain ⟨k, rfl⟩ : ∃ q, k = q + 1 := ⟨k - 1, by omega⟩
  rw [times_Put.l1, if_neg (by omega), show l.length - 1 = i by omega]
 | succ d ih =>
  intro i k hi hk
  obtain ⟨k, rfl⟩ : ∃ q, k = q + 1 := ⟨k - 1, by omega⟩
  have e : wrap64 (((i + 1 : Nat) : Int) - 1) = (i : Int) := by rw [wrap64_id] <;> omega
  have hs := steps_len l i
  have hr := u64_rng (IntKind.u64.wrap (rd l ((i + 1 : Nat) : Int)) - IntKind.u64.wrap (rd l (i : Int)))
  rw [times_Put.l1, if_pos (by omega), if_pos (by omega), e, if_pos (by omega), if_pos (by omega), put_spec hr.1 hr.2 (by omega) (by rw [List.length_append]; omega), Option.bind_some, Q06.succ64 (by omega), List.append_assoc]
  exact ih (i + 1) k (by omega) (by omega)
theorem times_spec {k : Nat} {l : List Int} {way : Int} (hi : is_ l) (hl : l.length ≤ 200) (h0 : 0 ≤ way) (h3 : way ≤ 3) (hk : 2000 < k) : times_Put.f k l way = some (tput way l, 0) := by
 obtain ⟨k, rfl⟩ : ∃ q, k = q + 1 := ⟨k - 1, by omega⟩
 unfold times_Put.f tput
 rw [if_neg (by omega), if_neg (by omega), decide_eq_false (by omega), times_Put.j0, if_neg (by decide)]
 by_cases hn : l.length = 0
 ·rw [if_pos (by omega), if_pos hn]
 rw [if_neg (by omega), if_neg hn]
 by_cases h2 : way = 2
 ·rw [if_pos h2, if_pos h2]
  unfold times_twice.f
  rw [if_pos hl, Option.bind_some]
 rw [if_neg h2, if_neg h2]
 by_cases h3' : way = 3
 ·rw [if_pos h3', if_pos h3']
  unfold times_packed.f
  rw [offs_spec hl (by omega), Option.bind_some, pack_spec (offs_us l) (by rw [offs_len]; exact hl), Option.bind_some, if_pos (by omega), traw (by omega) (by simp), Option.bind_some, if_pos]
  ·rfl
  ·have := packed_len (offs_us l) (by rw [offs_len]; exact hl)
   simp only [List.nil_append, b8_len]; omega
 rw [if_neg h3', if_neg h3']
 by_cases h0' : way = 0
 ·rw [if_pos h0', if_pos h0']
  have := t0_l0 hl l.length 0 k [] (by omega) (by omega) (by simp; omega)
  simpa using this
 rw [if_neg h0', if_neg h0', if_pos (by omega)]
 have hr := hi (rd l 0) (by have := rd_get (l := l) (i := 0) (by omega); rw [show ((0 : Nat) : Int) = 0 from rfl] at this; rw [this]; exact List.getElem_mem _)
 have hz : 0 ≤ zg (rd l 0) ∧ zg (rd l 0) < 18446744073709551616 := by unfold zg; split <;> omega
 rw [zig_spec hr.1 hr.2, Option.bind_some, put_spec hz.1 hz.2 (by omega) (by simp), Option.bind_some, List.nil_append]
 have := t1_l1 hl (vb (zg (rd l 0))) (vb_len _) (l.length - 1) 0 k (by omega) (by omega)
 rw [steps, List.append_nil] at this
 exact this
theorem tput_len {l : List Int} {way : Int} (hl : l.length ≤ 200) : (tput way l).length ≤ 200000 := by
 unfold tput
 split
 ·simp
 ·split
  ·rw [packB_len]; have := times_twice.part_len l l.length; omega
  ·split
   ·have := packed_len (offs_us l) (by rw [offs_len]; exact hl)
    rw [List.length_append, b8_len]; omega
   ·split
    ·rw [b8s_len, List.length_map]; omega
    ·have h1 := vb_len (zg (rd l 0)); have h2 := steps_len l (l.length - 1)
     rw [List.length_append]; omega
/-- A chunk's times, its values; may they be a chunk's? -/
def ats (l : List Smp) : List Int := l.map (·.f0)
def vals (l : List Smp) : List Int := l.map (·.f1)
def rl (a : List Int) : Nat → Nat → Int
 | 0, _ => 0
 | d + 1, i => if rd a (i : Int) ≤ rd a ((i - 1 : Nat) : Int) then 8 else rl a d (i + 1)
def right (a : List Int) : Int := if a.length = 0 then 7 else if 200 < a.length then 6 else rl a (a.length - 1) 1
theorem rl_two (a : List Int) : ∀ d i, rl a d i = 0 ∨ rl a d i = 8 := by
 intro d
 induction d with
 | zero => intro i; exact Or.inl rfl
 | succ d ih => intro i; rw [rl]; split <;> simp [ih]
theorem right_rng (a : List Int) : right a = 0 ∨ right a = 6 ∨ right a = 7 ∨ right a = 8 := by
 unfold right
 split
 ·simp
 ·split
  ·simp
  ·rcases rl_two a (a.length - 1) 1 with h | h <;> simp [h]
theorem rd_at (l : List Smp) (i : Int) : (rd_T51 l i).f0 = rd (ats l) i := by
 unfold rd_T51 rd ats
 rw [List.getD_eq_getElem?_getD, List.getD_eq_getElem?_getD, List.getElem?_map]
 cases l[i.toNat]? <;> rfl
theorem rd_val (l : List Smp) (i : Int) : (rd_T51 l i).f1 = rd (vals l) i := by
 unfold rd_T51 rd vals
 rw [List.getD_eq_getElem?_getD, List.getD_eq_getElem?_getD, List.getElem?_map]
 cases l[i.toNat]? <;> rfl
theorem ats_len (l : List Smp) : (ats l).length = l.length := by simp [ats]
theorem vals_len (l : List Smp) : (vals l).length = l.length := by simp [vals]
theorem right_l0 {l : List Smp} (hl : l.length ≤ 200) (d : Nat) : ∀ (i k : Nat), i + 1 + d = l.length → d < k → chunk_Right.l0 k l ((i + 1 : Nat) : Int) = some (rl (ats l) d (i + 1)) := by
 induction d with
 | zero =>
  intro i k hi hk
  obtain ⟨k, rfl⟩ : ∃ q, k = q + 1 := ⟨k - 1, by omega⟩
  rw [chunk_Right.l0, if_neg (by omega)]; rfl
 | succ d ih =>
  intro i k hi hk
  obtain ⟨k, rfl⟩ : ∃ q, k = q + 1 := ⟨k - 1, by omega⟩
  have e : wrap64 (((i + 1 : Nat) : Int) - 1) = (i : Int) := by rw [wrap64_id] <;> omega
  rw [chunk_Right.l0, if_pos (by omega), if_pos (by omega), e, if_pos (by omega), if_pos (by omega), rd_at, rd_at, rl, Nat.add_sub_cancel]
  by_cases h : rd (ats l) ((i + 1 : Nat) : Int) ≤ rd (ats l) (i : Int)
  ·rw [if_pos h, if_pos h]
  ·rw [if_neg h, if_neg h, Q06.succ64 (by omega)]
   exact ih (i + 1) k (by omega) (by omega)
theorem right_spec {k : Nat} {l : List Smp} (hk : 300 < k) : chunk_Right.f k l = some (right (ats l)) := by
 unfold chunk_Right.f right
 rw [ats_len]
 by_cases h0 : l.length = 0
 ·rw [if_pos (by omega), if_pos h0]
 by_cases h1 : 200 < l.length
 ·rw [if_neg (by omega), if_pos (by omega), if_neg h0, if_pos h1]
 ·rw [if_neg (by omega), if_neg (by omega), if_neg h0, if_neg h1]
  exact right_l0 (by omega) (l.length - 1) 0 k (by omega) (by omega)
/-- Samples whose cells are numbers of their kinds. -/
def Ss (l : List Smp) : Prop := is_ (ats l) ∧ Us (vals l)
def enc (l : List Smp) (c : Int) : List Int :=
 [c % 256, (l.length : Int) / 256 % 256, (l.length : Int) % 256] ++ tput (Int.tdiv c 4) (ats l) ++ vput (Int.tmod c 4) (vals l)
theorem enc_l0 {l : List Smp} {c : Int} (hs : Ss l) (hl : l.length ≤ 200) (c0 : 0 ≤ c) (c1 : c < 16) (d : Nat) : ∀ (i k : Nat), i + d = l.length → 2500 + d < k →
  chunk_Encode.l0 k l c ((ats l).take i) ((vals l).take i) l (l.length : Int) (i : Int) = some (enc l c, 0) := by
 induction d with
 | zero =>
  intro i k hi hk
  obtain ⟨k, rfl⟩ : ∃ q, k = q + 1 := ⟨k - 1, by omega⟩
  have e : wrap64 (Int.tdiv c 4) = Int.tdiv c 4 := by rw [Int.tdiv_eq_ediv_of_nonneg c0]; exact wrap64_id (by omega) (by omega)
  have hw : 0 ≤ Int.tdiv c 4 ∧ Int.tdiv c 4 ≤ 3 := by rw [Int.tdiv_eq_ediv_of_nonneg c0]; omega
  have h1 := tput_len (l := ats l) (way := Int.tdiv c 4) (by rw [ats_len]; exact hl)
  have h2 := vput_len (l := vals l) (way := Int.tmod c 4) hs.2 (by rw [vals_len]; exact hl)
  rw [chunk_Encode.l0, if_neg (by omega), List.take_of_length_le (by rw [ats_len]; omega), List.take_of_length_le (by rw [vals_len]; omega), e, times_spec hs.1 (by rw [ats_len]; exact hl) hw.1 hw.2 (by omega), Option.bind_some]
  simp only []
  rw [if_pos trivial, Option.bind_some, if_pos (by simp only [List.length_cons, List.length_nil]; omega), Option.bind_some, values_spec hs.2 (by rw [vals_len]; exact hl) (by omega), Option.bind_some, if_pos (by simp only [List.length_append, List.length_cons, List.length_nil]; omega)]
  rfl
 | succ d ih =>
  intro i k hi hk
  obtain ⟨k, rfl⟩ : ∃ q, k = q + 1 := ⟨k - 1, by omega⟩
  have ha : i < (ats l).length := by rw [ats_len]; omega
  have hv : i < (vals l).length := by rw [vals_len]; omega
  rw [chunk_Encode.l0, if_pos (by omega), if_pos (by omega), if_pos (by omega), rd_at, rd_val, Option.bind_some, if_pos (by simp; omega), Option.bind_some, if_pos (by simp; omega), rd_get ha, rd_get hv, ← List.take_succ_eq_append_getElem ha, ← List.take_succ_eq_append_getElem hv, Q06.succ64 (by omega)]
  exact ih (i + 1) k (by omega) (by omega)
theorem enc_arg {k : Nat} {l : List Smp} {c : Int} (hc : c < 0 ∨ 16 ≤ c) (hk : 0 < k) : chunk_Encode.f k l c = some ([], 1) := by
 obtain ⟨k, rfl⟩ : ∃ q, k = q + 1 := ⟨k - 1, by omega⟩
 unfold chunk_Encode.f
 by_cases h : c < 0
 ·rw [if_pos h, chunk_Encode.j0, if_pos rfl]
 ·rw [if_neg h, decide_eq_true (by omega), chunk_Encode.j0, if_pos rfl]
theorem enc_bad {k : Nat} {l : List Smp} {c : Int} (c0 : 0 ≤ c) (c1 : c < 16) (hr : right (ats l) ≠ 0) (hk : 400 < k) : chunk_Encode.f k l c = some ([], right (ats l)) := by
 obtain ⟨k, rfl⟩ : ∃ q, k = q + 1 := ⟨k - 1, by omega⟩
 unfold chunk_Encode.f
 rw [if_neg (by omega), decide_eq_false (by omega), chunk_Encode.j0, if_neg (by decide), right_spec (by omega), Option.bind_some, if_neg hr]
theorem right_len {l : List Smp} (hr : right (ats l) = 0) : 0 < l.length ∧ l.length ≤ 200 := by
 unfold right at hr
 rw [ats_len] at hr
 split at hr
 ·simp at hr
 ·split at hr
  ·simp at hr
  ·omega
theorem enc_ok {k : Nat} {l : List Smp} {c : Int} (hs : Ss l) (c0 : 0 ≤ c) (c1 : c < 16) (hr : right (ats l) = 0) (hk : 3000 < k) : chunk_Encode.f k l c = some (enc l c, 0) := by
 obtain ⟨k, rfl⟩ : ∃ q, k = q + 1 := ⟨k - 1, by omega⟩
 have hl := right_len hr
 unfold chunk_Encode.f
 rw [if_neg (by omega), decide_eq_false (by omega), chunk_Encode.j0, if_neg (by decide), right_spec (by omega), Option.bind_some, if_pos hr]
 have := enc_l0 hs hl.2 c0 c1 l.length 0 k (by omega) (by omega)
 simpa using this
theorem enc_len (l : List Smp) (c : Int) : 3 ≤ (enc l c).length := by unfold enc; simp
/-- The codec by which there are the fewest bytes. -/
theorem best_l0 {l : List Smp} (hs : Ss l) (hr : right (ats l) = 0) (d : Nat) : ∀ (i k : Nat) (b m : Int), i + d = 16 → 3000 + d < k → (0 < i → 0 ≤ b ∧ b < 16 ∧ m = ((enc l b).length : Int) ∧ ∀ j : Nat, j < i → m ≤ ((enc l (j : Int)).length : Int)) →
  ∃ c : Int, chunk_Best.l0 k l b m (i : Int) = some (c, 0) ∧ 0 ≤ c ∧ c < 16 ∧ ∀ j : Nat, j < 16 → (enc l c).length ≤ (enc l (j : Int)).length := by
 induction d with
 | zero =>
  intro i k b m hi hk h
  obtain ⟨k, rfl⟩ : ∃ q, k = q + 1 := ⟨k - 1, by omega⟩
  obtain ⟨b0, b1, hm, hj⟩ := h (by omega)
  refine ⟨b, by rw [chunk_Best.l0, if_neg (by omega)], b0, b1, fun j hj' => ?_⟩
  have := hj j (by omega)
  omega
 | succ d ih =>
  intro i k b m hi hk h
  obtain ⟨k, rfl⟩ : ∃ q, k = q + 1 := ⟨k - 1, by omega⟩
  rw [chunk_Best.l0, if_pos (by omega), enc_ok hs (by omega) (by omega) hr (by omega), Option.bind_some, Q06.succ64 (by omega)]
  simp only []
  by_cases h0 : i = 0
  ·rw [if_pos (by omega)]
   refine ih (i + 1) k _ _ (by omega) (by omega) (fun _ => ⟨by omega, by omega, rfl, fun j hj => ?_⟩)
   rw [show j = i by omega]; exact Int.le_refl _
  ·rw [if_neg (by omega)]
   obtain ⟨b0, b1, hm, hj⟩ := h (by omega)
   by_cases hlt : ((enc l (i : Int)).length : Int) < m
   ·rw [if_pos hlt]
    refine ih (i + 1) k _ _ (by omega) (by omega) (fun _ => ⟨by omega, by omega, rfl, fun j hj' => ?_⟩)
    by_cases e : j = i
    ·rw [e]; exact Int.le_refl _
    ·have := hj j (by omega); omega
   ·rw [if_neg hlt]
    refine ih (i + 1) k _ _ (by omega) (by omega) (fun _ => ⟨b0, b1, hm, fun j hj' => ?_⟩)
    by_cases e : j = i
    ·rw [e]; omega
    ·exact hj j (by omega)
theorem best_ok {k : Nat} {l : List Smp} (hs : Ss l) (hr : right (ats l) = 0) (hk : 4000 < k) :
  ∃ c : Int, chunk_Best.f k l = some (c, 0) ∧ 0 ≤ c ∧ c < 16 ∧ ∀ j : Nat, j < 16 → (enc l c).length ≤ (enc l (j : Int)).length := by
 unfold chunk_Best.f
 rw [right_spec (by omega), Option.bind_some, if_pos hr]
 exact best_l0 hs hr 16 0 k 0 0 (by omega) (by omega) (fun h => by omega)
theorem best_bad {k : Nat} {l : List Smp} (hr : right (ats l) ≠ 0) (hk : 400 < k) : chunk_Best.f k l = some (0, right (ats l)) := by
 unfold chunk_Best.f
 rw [right_spec (by omega), Option.bind_some, if_neg hr]
end Go.Proofs.YtmlbppfcpejlpaaDoor.Q10

/- ChunkSizes: what the law's calls tell of samples with one step between times and one value. No conditions. -/
namespace Go.Proofs.YtmlbppfcpejlpaaDoor.Q10
open Go Go.RowKit Go.Proofs.YtmlbppfcpejlpaaDoorW.PrintWords Go.Proofs.YtmlbppfcpejlpaaDoorW.PrintMore Go.Proofs.YtmlbppfcpejlpaaDoor.S Go.Proofs.YtmlbppfcpejlpaaDoor.B Go.Proofs.YtmlbppfcpejlpaaDoor.X Go.Proofs.YtmlbppfcpejlpaaDoor.Q05
set_option linter.unusedVariables false
set_option linter.unusedSimpArgs false
/-- n samples with one step between their times. -/
def sm (a s v : Int) (n : Nat) : List Smp := (List.range n).map (fun (i : Nat) => (⟨wrap64 (a + (i : Int) * s), v⟩ : Smp))
theorem sm_len (a s v : Int) (n : Nat) : (sm a s v n).length = n := by simp [sm]
theorem sm_succ (a s v : Int) (n : Nat) : sm a s v (n + 1) = sm a s v n ++ [(⟨wrap64 (a + (n : Int) * s), v⟩ : Smp)] := by simp [sm, List.range_succ]
def ev (a s : Int) (n : Nat) : List Int := (List.range n).map (fun (i : Nat) => wrap64 (a + (i : Int) * s))
theorem sm_ats (a s v : Int) (n : Nat) : ats (sm a s v n) = ev a s n := by simp [ats, sm, ev]
theorem sm_vals (a s v : Int) (n : Nat) : vals (sm a s v n) = List.replicate n v := by
 induction n with
 | zero => rfl
 | succ n ih => rw [sm_succ, vals, List.map_append, ← vals, ih, List.replicate_succ']; rfl
theorem ev_len (a s : Int) (n : Nat) : (ev a s n).length = n := by simp [ev]
theorem ev_is (a s : Int) (n : Nat) : is_ (ev a s n) := by
 intro x hx
 obtain ⟨i, _, rfl⟩ := List.mem_map.1 hx
 generalize a + (i : Int) * s = y
 rw [wrap64_eq]; omega
theorem ev_rd (a s : Int) (n i : Nat) (h : i < n) : rd (ev a s n) (i : Int) = wrap64 (a + (i : Int) * s) := by
 rw [rd_get (by rw [ev_len]; exact h)]; simp [ev]
theorem i64_w (n : Int) : IntKind.i64.wrap n = wrap64 n := by rw [IntKind.wrap_i64, wrap64_eq]
theorem ev_dif (a s : Int) (n i : Nat) (h : i + 1 < n) : times_twice.dif (ev a s n) (i + 1) = wrap64 s := by
 unfold times_twice.dif
 rw [if_neg (by omega), ev_rd a s n (i + 1) h, Nat.add_sub_cancel, ev_rd a s n i (by omega), show ((i + 1 : Nat) : Int) * s = (i : Int) * s + s by rw [Int.natCast_add, Int.add_mul]; simp, i64_w]
 generalize (i : Int) * s = y
 rw [wrap64_eq, wrap64_eq, wrap64_eq, wrap64_eq]; omega
theorem ev_part1 (l : List Int) : (times_twice.part l 1).length = 64 := by
 rw [times_twice.part, List.length_append]
 unfold times_twice.piece
 rw [if_pos rfl, bitsN_len]; rfl
theorem ev_part2 (l : List Int) : (times_twice.part l 2).length = 128 := by
 rw [times_twice.part, List.length_append, ev_part1]
 unfold times_twice.piece
 rw [if_neg (by decide), if_pos rfl, bitsN_len]
theorem ev_part (a s : Int) (n : Nat) (d : Nat) (h : d + 2 ≤ n) : (times_twice.part (ev a s n) (d + 2)).length = 128 + d := by
 induction d with
 | zero => exact ev_part2 _
 | succ d ih =>
  rw [show d + 1 + 2 = (d + 2) + 1 by omega, times_twice.part, List.length_append, ih (by omega)]
  have hp : times_twice.piece (ev a s n) (d + 2) = bitsN 1 0 := by
   unfold times_twice.piece
   rw [if_neg (by omega), if_neg (by omega), if_pos]
   rw [ev_dif a s n (d + 1) (by omega), show d + 2 - 1 = d + 1 by omega, ev_dif a s n d (by omega)]
  rw [hp, bitsN_len]; omega
theorem ev_twice (a s : Int) (n : Nat) (h1 : 0 < n) (hn : n ≤ 200) : (tput 2 (ev a s n)).length ≤ 41 := by
 unfold tput
 rw [ev_len, if_neg (by omega), if_pos rfl, packB_len]
 by_cases h : n = 1
 ·subst h; rw [ev_part1]; decide
 ·obtain ⟨d, rfl⟩ : ∃ d, n = d + 2 := ⟨n - 2, by omega⟩
  rw [ev_part a s (d + 2) d (by omega)]; omega
theorem rep_cnt (v : Int) (n : Nat) : runs_Put.cnt v (List.replicate n v) = n := by
 induction n with
 | zero => rfl
 | succ n ih => rw [List.replicate_succ, runs_Put.cnt, if_pos rfl, ih]
theorem vb_two {n : Int} (h0 : 0 ≤ n) (h1 : n < 16384) : (vb n).length ≤ 2 := by
 unfold vb
 rw [vbF]
 split
 ·simp
 ·rw [vbF, if_pos (by omega)]; simp
theorem rep_run (v : Int) (n : Nat) (h1 : 0 < n) (hn : n ≤ 200) : (vput 2 (List.replicate n v)).length ≤ 12 := by
 unfold vput
 rw [if_neg (by decide), if_neg (by decide), if_pos rfl, Q09.runB, if_neg (by rw [List.length_replicate]; omega)]
 have hl : runs_Put.lead (List.replicate n v) = n := by
  unfold runs_Put.lead
  rw [show rd (List.replicate n v) 0 = v by
   have := rd_get (l := List.replicate n v) (i := 0) (by rw [List.length_replicate]; exact h1)
   rw [show ((0 : Nat) : Int) = 0 from rfl] at this
   rw [this, List.getElem_replicate]]
  exact rep_cnt v n
 rw [hl, List.drop_of_length_le (by rw [List.length_replicate]; exact Nat.le_refl _), Q09.runB, if_pos (show ([] : List Int).length = 0 from rfl), List.append_nil, List.length_append]
 have h2 := vb_two (n := (n : Int)) (by omega) (by omega)
 have h3 := vb_len (rd (List.replicate n v) 0)
 omega
theorem ev_rises (a s : Int) (n : Nat) (ha : -2000000000000 < a ∧ a < 2000000000000) (hs : 0 < s ∧ s < 100000) (hn : n ≤ 200) (d : Nat) : ∀ i, i + 1 + d = n → rl (ev a s n) d (i + 1) = 0 := by
 induction d with
 | zero => intro i _; rfl
 | succ d ih =>
  intro i hi
  rw [rl, Nat.add_sub_cancel, ev_rd a s n (i + 1) (by omega), ev_rd a s n i (by omega)]
  have e : ((i + 1 : Nat) : Int) * s = (i : Int) * s + s := by rw [Int.natCast_add, Int.add_mul]; simp
  have h1 : (i : Int) * s ≤ 200 * 100000 := Int.mul_le_mul (by omega) (by omega) (by omega) (by omega)
  have h2 : 0 ≤ (i : Int) * s := Int.mul_nonneg (by omega) (by omega)
  rw [e]
  generalize (i : Int) * s = y at *
  rw [wrap64_id (by omega) (by omega), wrap64_id (by omega) (by omega), if_neg (by omega)]
  exact ih (i + 1) (by omega)
theorem sm_right (a s v : Int) (n : Nat) (ha : -2000000000000 < a ∧ a < 2000000000000) (hs : 0 < s ∧ s < 100000) (h1 : 0 < n) (hn : n ≤ 200) : right (ats (sm a s v n)) = 0 := by
 unfold right
 rw [sm_ats, ev_len, if_neg (by omega), if_neg (by omega)]
 exact ev_rises a s n ha hs hn (n - 1) 0 (by omega)
theorem enc_length (l : List Smp) (c : Int) : (enc l c).length = 3 + (tput (Int.tdiv c 4) (ats l)).length + (vput (Int.tmod c 4) (vals l)).length := by unfold enc; simp; omega
/-- What the law's calls tell of the samples. -/
def Sizes (n : Nat) (ys : List Smp) : Prop :=
 ∃ (ea eb ec ex : List Int) (best : Int), chunk_Encode.f 9000 ys 0 = some (ea, 0) ∧ chunk_Encode.f 9000 ys 10 = some (eb, 0) ∧ chunk_Encode.f 9000 ys 15 = some (ec, 0) ∧ chunk_Best.f 9000 ys = some (best, 0) ∧ chunk_Encode.f 9000 ys best = some (ex, 0) ∧ ricklaw10_codes.f 9000 = some true ∧
  ea.length = 3 + 16 * n ∧ eb.length ≤ 56 ∧ ex.length ≤ ea.length ∧ ex.length ≤ eb.length ∧ ex.length ≤ ec.length
set_option maxRecDepth 100000 in
theorem sizes (a s v : Int) (n : Nat) (ha : -2000000000000 < a ∧ a < 2000000000000) (hs : 0 < s ∧ s < 100000) (hv : 0 ≤ v ∧ v < 18446744073709551616) (h1 : 0 < n) (hn : n ≤ 200) : Sizes n (sm a s v n) := by
 have hS : Ss (sm a s v n) := ⟨by rw [sm_ats]; exact ev_is _ _ _, by rw [sm_vals]; intro x hx; rw [(List.mem_replicate.1 hx).2]; exact hv⟩
 have hr := sm_right a s v n ha hs h1 hn
 obtain ⟨best, hb, b0, b1, hb2⟩ := best_ok (k := 9000) hS hr (by omega)
 refine ⟨_, _, _, _, best, enc_ok hS (by decide) (by decide) hr (by omega), enc_ok hS (by decide) (by decide) hr (by omega), enc_ok hS (by decide) (by decide) hr (by omega), hb, enc_ok hS b0 b1 hr (by omega), at_rounds ricklaw10_codes.mono (show 299 ≤ 9000 by omega) (show ricklaw10_codes.f 299 = some true by decide +kernel), ?_, ?_, hb2 0 (by omega), hb2 10 (by omega), hb2 15 (by omega)⟩
 ·rw [enc_length, show Int.tdiv 0 4 = 0 by decide, show Int.tmod 0 4 = 0 by decide]
  unfold tput vput
  rw [ats_len, sm_len, if_neg (by omega), if_neg (by decide), if_neg (by decide), if_pos rfl, if_pos rfl, b8s_len, b8s_len, List.length_map, ats_len, vals_len, sm_len]; omega
 ·rw [enc_length, show Int.tdiv 10 4 = 2 by decide, show Int.tmod 10 4 = 2 by decide, sm_ats, sm_vals]
  have h2 := ev_twice a s n h1 hn
  have h3 := rep_run v n h1 hn
  omega
end Go.Proofs.YtmlbppfcpejlpaaDoor.Q10

namespace Go.Proofs.YtmlbppfcpejlpaaDoor.X
open Go.RowKit Go.Proofs.YtmlbppfcpejlpaaDoorW.PrintWords Go.Proofs.YtmlbppfcpejlpaaDoorW.PrintLast Go.Proofs.YtmlbppfcpejlpaaDoorW.PrintMore
attribute [local go_sem] max2_int min2_int max_two min_two max_three min_three max_four min_four   -- for this text's walks alone
set_option linter.unusedVariables false
set_option linter.unusedSimpArgs false

/-! ### ricklaw10_ChunkSizes: function 9 -/
-- ALONE
open Go.Proofs.YtmlbppfcpejlpaaDoor.S Go.Proofs.YtmlbppfcpejlpaaDoor.B Go.Proofs.YtmlbppfcpejlpaaDoor.Q10
attribute [local go_sem ↓] Go.wp_at_zero Go.wp_at_succ
set_option maxHeartbeats 8000000 in
set_option maxRecDepth 100000 in
theorem ricklaw10_ChunkSizes.calls (count first m0 m1 : Int) (w : World) (hT_ : Go.Proofs.YtmlbppfcpejlpaaDoor.W08.Tab w) (hv : 0 ≤ m1 ∧ m1 < 18446744073709551616) (hf : -9223372036854775808 ≤ first ∧ first < 9223372036854775808) :
  Calls Tryd.prog 9 #[.int .i64 count, .int .i64 first, .agg #[.int .u64 m0, .int .u64 m1]] w fun e w' => e = .returned (.bool true) ∧ Below w.heap.size w w' := by
 have HTAB := Aside0.mk hT_
 obtain ⟨st, hst, hst0, hst1⟩ : ∃ st : Int, IntKind.u16.wrap m0 = st ∧ 0 ≤ st ∧ st < 65536 := ⟨_, rfl, by simp [IntKind.wrap, IntKind.bits, IntKind.signed]; omega, by simp [IntKind.wrap, IntKind.bits, IntKind.signed]; omega⟩
 clear hT_
 have hc0 : (w.alloc (Obj.cells #[Value.int IntKind.u64 m0, Value.int IntKind.u64 m1] 49)).cell? ⟨w.heap.size, 0, none⟩ = some (.int .u64 m0) := (blk_cell (heap_alloc_new w _) 0).trans rfl
 have hc1 : (w.alloc (Obj.cells #[Value.int IntKind.u64 m0, Value.int IntKind.u64 m1] 49)).cell? ⟨w.heap.size, 1, none⟩ = some (.int .u64 m1) := (blk_cell (heap_alloc_new w _) 1).trans rfl
 go_enter Tryd.func9, Tryd.ntmps9
 go_wp2
 go_region
 go_wp2
 obtain ⟨n, hn, hn1, hn2⟩ : ∃ n : Nat, wrap64 (1 + wrap64 ((IntKind.u64.wrap count).tmod 200)) = (n : Int) ∧ 0 < n ∧ n ≤ 200 := by
  have h1 : (IntKind.u64.wrap count).tmod 200 = IntKind.u64.wrap count % 200 := Int.tmod_eq_emod_of_nonneg (by rw [wrap_u64]; omega)
  rw [h1, wrap64_id (n := IntKind.u64.wrap count % 200) (by omega) (by omega), wrap64_id (by omega) (by omega)]
  exact ⟨(1 + IntKind.u64.wrap count % 200).toNat, by omega, by omega, by omega⟩
 obtain ⟨a, ha, ha1, ha2⟩ : ∃ a : Int, first.tmod 1099511627776 = a ∧ -2000000000000 < a ∧ a < 2000000000000 := by
  refine ⟨_, rfl, ?_, ?_⟩
  ·have := Int.lt_tmod_of_pos first (show (0 : Int) < 1099511627776 by decide); omega
  ·have := Int.tmod_lt_of_pos first (show (0 : Int) < 1099511627776 by decide); omega
 rw [hn, ha]
 have HN := Aside0.mk hn
 have HF := Aside0.mk (sizes a (st + 1) m1 n ⟨ha1, ha2⟩ ⟨by omega, by omega⟩ hv hn1 hn2)
 have HN2 := Aside0.mk hn2
 have HB := Aside0.mk (below_drew1 ((Below.refl w.heap.size w).alloc (Nat.le_refl _) (Obj.cells #[Value.int IntKind.u64 m0, Value.int IntKind.u64 m1] 49)))
 have HA : Aside0 (wrap64 a = a) := ⟨wrap64_id (by omega) (by omega)⟩
 clear hn ha hc0 hc1 hst hv hf hn1 hn2 ha1 ha2
 go_loopw [10, 11, 12] (fun v10 v11 v12 wr => ∃ (i : Nat) (ii at0 : Int), v11 = .int .i64 at0 ∧ v12 = .int .i64 ii ∧ Aside0 (ii = (i : Int)) ∧ Aside0 (at0 = wrap64 (a + (i : Int) * (st + 1))) ∧ Aside0 (i ≤ n) ∧ Aside0 (Kd.R k51 51 wr w.heap.size (fun _ => True) v10 (sm a (st + 1) m1 i)) ∧ Aside0 (Below w.heap.size w wr)) (fun _ _ v12 _ => ((n : Int) - intOf v12).toNat)
 case atStart => exact ⟨0, 0, a, rfl, rfl, ⟨rfl⟩, ⟨by have := HA.out; simp [this]⟩, ⟨Nat.zero_le _⟩, ⟨Kd.R_nil _ _ _ _ _⟩, HB⟩
 case round =>
  clear HB
  obtain ⟨i, ii, at0, rfl, rfl, HI, HAT, HIM, HO, HB⟩ := hrel
  have hi0 : 0 ≤ ii := by have := HI.out; omega
  have hi1 : ii ≤ 200 := by have := HI.out; have := HIM.out; have := HN2.out; omega
  by_cases hlt : i < n
  ·have hd : decide (ii < (n : Int)) = true := decide_eq_true (by have := HI.out; omega)
   have hmk : sm a (st + 1) m1 i ++ [(⟨at0, m1⟩ : S51)] = sm a (st + 1) m1 (i + 1) := by rw [sm_succ, HAT.out]
   have HMK := Aside0.mk hmk
   have HLN : Aside0 ((sm a (st + 1) m1 i).length = i) := ⟨sm_len _ _ _ _⟩
   clear hmk
   go_wp2_with ((with_reducible refine gate_builtin (b := .append) (xs := #[.tmp 40, .tmp 44]) rfl ?_); at_builtin; refine Kd.R_append k51 (w0 := w) w.heap.size rfl (.tmp 40) (.tmp 44) 41 51 (.agg #[(.int .i64 0), (.int .u64 0)]) 16 rfl Tryd.underlying41 info51 rfl (by decide) (by omega) u10 (sm a (st + 1) m1 i) (⟨at0, m1⟩ : S51) [.int .i64 at0, .int .u64 m1] (fun _ => True) (fun _ => False) rfl rfl ?aP (fun _ hk => hk.elim) ?aF ?aO ?aB ?aS ?aL ?_; (case aP => exact k51_mkM _ _ _ (⟨at0, m1⟩ : S51)); (case aB => exact HB.out); (case aF => exact (fun _ _ => trivial)); (case aO => exact HO.out); (case aS => exact (below_size HB.out)); (case aL => have := HLN.out; have := HI.out; omega); intro v6 w6 ho hb hg hat; have HO6 := Aside0.mk ho; have HB6 := Aside0.mk hb; clear ho hb hg hat)
   go_roundw
   case rel =>
    refine ⟨i + 1, _, _, rfl, rfl, ⟨by have := HI.out; omega⟩, ⟨?_⟩, ⟨by omega⟩, ⟨by have := HO6.out; rw [HMK.out] at this; exact this⟩, HB6⟩
    rw [HAT.out, show ((i + 1 : Nat) : Int) * (st + 1) = (i : Int) * (st + 1) + (st + 1) by rw [Int.natCast_add, Int.add_mul]; simp]
    generalize (i : Int) * (st + 1) = y
    clear HAT HI HIM HO6 HB6 HO HB HMK HLN HF HN HA HN2 HTAB
    simp only [wrap64_eq]; omega
   case measure => simp [intOf]; have := HI.out; omega
  ·obtain ⟨A, cap, e0⟩ := Kd.R_slice HO.out
   subst e0
   obtain rfl : i = n := by have := HIM.out; omega
   have hd : decide (ii < (i : Int)) = false := decide_eq_false (by have := HI.out; omega)
   obtain ⟨ea, eb, ec, ex, best, f1, f2, f3, f4, f5, f6, g1, g2, g3, g4, g5⟩ := HF.out
   have F1 := Aside0.mk f1
   have F2 := Aside0.mk f2
   have F3 := Aside0.mk f3
   have F4 := Aside0.mk f4
   have F5 := Aside0.mk f5
   have F6 := Aside0.mk f6
   have x1 : wrap64 (16 * (i : Int)) = 16 * (i : Int) := wrap64_id (by omega) (by have := HN2.out; omega)
   have x2 : wrap64 (3 + 16 * (i : Int)) = 3 + 16 * (i : Int) := wrap64_id (by omega) (by have := HN2.out; omega)
   have x3 : ((ea.length : Int) == 3 + 16 * (i : Int)) = true := beq_iff_eq.mpr (by omega)
   have x4 : decide ((eb.length : Int) ≤ 56) = true := decide_eq_true (by omega)
   have x5 : decide ((ex.length : Int) ≤ (ea.length : Int)) = true := decide_eq_true (by omega)
   have x6 : decide ((ex.length : Int) ≤ (eb.length : Int)) = true := decide_eq_true (by omega)
   have x7 : decide ((ex.length : Int) ≤ (ec.length : Int)) = true := decide_eq_true (by omega)
   have y4 : decide (eb.length ≤ 56) = true := decide_eq_true (by omega)
   have y5 : decide (ex.length ≤ ea.length) = true := decide_eq_true (by omega)
   have y6 : decide (ex.length ≤ eb.length) = true := decide_eq_true (by omega)
   have y7 : decide (ex.length ≤ ec.length) = true := decide_eq_true (by omega)
   have HY0 := HO
   have HB0 := HB
   clear f1 f2 f3 f4 f5 f6 HF hlt HI HAT HIM HN HA HO HB
   go_wp2_with (first
    | (go_at_call 19; (with_reducible refine (chunk_Encode.calls 9000 A cap (sm a (st + 1) m1 i) 0 ea 0 _ (Kd.R_reads' HY0.out).2.2 (Kd.R_reads' HY0.out).2.1 (Go.Proofs.YtmlbppfcpejlpaaDoor.W08.Tab.below HTAB.out HB0.out) F1.out).mono ?_); rintro e w1 ⟨v1, rfl, ho, hb⟩; obtain ⟨A1, c1, e1⟩ := Kd.R_slice ho; subst e1; have HY1 := Aside0.mk (Kd.R_below HY0.out hb); have HB1 := Aside0.mk (below_step HB0.out hb); clear ho hb HY0 HB0 F1)
    | (go_at_call 19; (with_reducible refine (chunk_Encode.calls 9000 A cap (sm a (st + 1) m1 i) 10 eb 0 _ (Kd.R_reads' HY1.out).2.2 (Kd.R_reads' HY1.out).2.1 (Go.Proofs.YtmlbppfcpejlpaaDoor.W08.Tab.below HTAB.out HB1.out) F2.out).mono ?_); rintro e w2 ⟨v2, rfl, ho, hb⟩; obtain ⟨A2, c2, e2⟩ := Kd.R_slice ho; subst e2; have HY2 := Aside0.mk (Kd.R_below HY1.out hb); have HB2 := Aside0.mk (below_step HB1.out hb); clear ho hb HY1 HB1 F2)
    | (go_at_call 19; (with_reducible refine (chunk_Encode.calls 9000 A cap (sm a (st + 1) m1 i) 15 ec 0 _ (Kd.R_reads' HY2.out).2.2 (Kd.R_reads' HY2.out).2.1 (Go.Proofs.YtmlbppfcpejlpaaDoor.W08.Tab.below HTAB.out HB2.out) F3.out).mono ?_); rintro e w3 ⟨v3, rfl, ho, hb⟩; obtain ⟨A3, c3, e3⟩ := Kd.R_slice ho; subst e3; have HY3 := Aside0.mk (Kd.R_below HY2.out hb); have HB3 := Aside0.mk (below_step HB2.out hb); clear ho hb HY2 HB2 F3)
    | (go_at_call 19; (with_reducible refine (chunk_Encode.calls 9000 A cap (sm a (st + 1) m1 i) best ex 0 _ (Kd.R_reads' HY4.out).2.2 (Kd.R_reads' HY4.out).2.1 (Go.Proofs.YtmlbppfcpejlpaaDoor.W08.Tab.below HTAB.out HB4.out) F5.out).mono ?_); rintro e w5 ⟨v5, rfl, ho, hb⟩; obtain ⟨A5, c5, e5⟩ := Kd.R_slice ho; subst e5; have HY5 := Aside0.mk (Kd.R_below HY4.out hb); have HB5 := Aside0.mk (below_step HB4.out hb); clear ho hb HY4 HB4 F5)
    | (go_at_call 15; (with_reducible refine (chunk_Codec.calls 2 2 10 _ (by decide +kernel)).mono ?_); rintro e wc ⟨rfl, hd⟩; have hb := Drawn0.below hd; have q1 := Aside0.mk (Kd.R_below HY1.out hb); have q2 := Aside0.mk (below_step HB1.out hb); clear HY1 HB1; have HY1 := q1; have HB1 := q2; clear q1 q2 hd hb)
    | (go_at_call 15; (with_reducible refine (chunk_Codec.calls 3 3 15 _ (by decide +kernel)).mono ?_); rintro e wc ⟨rfl, hd⟩; have hb := Drawn0.below hd; have q1 := Aside0.mk (Kd.R_below HY2.out hb); have q2 := Aside0.mk (below_step HB2.out hb); clear HY2 HB2; have HY2 := q1; have HB2 := q2; clear q1 q2 hd hb)
    | (go_at_call 20; (with_reducible refine (chunk_Best.calls 9000 A cap (sm a (st + 1) m1 i) best 0 _ (Kd.R_reads' HY3.out).2.2 (Kd.R_reads' HY3.out).2.1 (Go.Proofs.YtmlbppfcpejlpaaDoor.W08.Tab.below HTAB.out HB3.out) F4.out).mono ?_); rintro e w4 ⟨rfl, hb⟩; have HY4 := Aside0.mk (Kd.R_below HY3.out hb); have HB4 := Aside0.mk (below_step HB3.out hb); clear hb HY3 HB3)
    | (go_at_call 16; (with_reducible refine (ricklaw10_codes.calls 9000 true _ (Go.Proofs.YtmlbppfcpejlpaaDoor.W08.Tab.below HTAB.out HB5.out) F6.out rfl).mono ?_); rintro e w6 ⟨rfl, hb⟩; have HB6 := Aside0.mk (below_step HB5.out hb); clear hb HY5 HB5))
   go_ret
   exact ⟨rfl, HB6.out⟩

end Go.Proofs.YtmlbppfcpejlpaaDoor.X

/- ChunkSizes: by raw ways a chunk has sixteen bytes a sample; with one step between times and one value it has few, by the ways that are made for it. No conditions. -/
namespace Go.Proofs.YtmlbppfcpejlpaaDoor.Pure
open Go Go.RowKit
theorem pair2 : Go.WideMaps.ArrKey Tryd.prog 49 34 2 := ⟨Tryd.underlying49, by kernel_rfl, by kernel_rfl, by kernel_rfl⟩
theorem ChunkSizes (count first m0 m1 : Int) (w : World) (hT_ : Go.Proofs.YtmlbppfcpejlpaaDoor.W08.Tab w) (hf : (Lit.int .i64 first).wf = true) (hv : (Lit.int .u64 m1).wf = true) :
  Calls Tryd.prog 9 #[.int .i64 count, .int .i64 first, .agg #[.int .u64 m0, .int .u64 m1]] w fun e w' => e = .returned (.bool true) ∧ Below w.heap.size w w' :=
 X.ricklaw10_ChunkSizes.calls count first m0 m1 w hT_ (S.wf_u64 hv) (S.wf_i64 hf)
end Go.Proofs.YtmlbppfcpejlpaaDoor.Pure

/- The row's condition 'the table reads as listed' gives the walks their premise; the heap that the door leaves meets it. -/
namespace Go.Proofs.YtmlbppfcpejlpaaDoor.T08
open Go Go.RowKit Go.Proofs.YtmlbppfcpejlpaaDoor.W08
def laid1 : List (String × DataW Unit) := [("math/bits.deBruijn64tab", Rows.laid_math_bits_deBruijn64tab)]
def zs : List Int := Lib.deBruijn64tab.map (fun n => ((n : Nat) : Int))
theorem laid_zs : laid1 = [("math/bits.deBruijn64tab", Lib.tabData .u8 zs)] := by rfl
theorem gn : Tryd.prog.globalNamed "math/bits.deBruijn64tab" = some 0 := by kernel_rfl
theorem zs_at : ∀ j, j < 64 → zs.getD j 0 = ((Lib.deBruijn64tab.getD j 0 : Nat) : Int) := by decide +kernel
theorem zs_len : zs.length = 64 := by rfl
theorem tab_of {W : World} (h : laidMetH Tryd.prog laid1 W) : Tab W := by
 have h1 : laidMet Tryd.prog laid1 W := h
 rw [laid_zs] at h1
 have ht : Lib.TabIs Tryd.prog W "math/bits.deBruijn64tab" .u8 zs := Lib.tabIs_of_head (n := 64) (t := 84) (e := 5) gn (by kernel_rfl) (by kernel_rfl) (by kernel_rfl) (by kernel_rfl) (by kernel_rfl) h1
 intro j hj
 rw [← zs_at j hj]
 exact ht.cell gn j (by rw [zs_len]; exact hj)
theorem door_met (os : Os) (args : Array Value) : laidMetH Tryd.prog laid1 ((World.doorLaid Tryd.prog 600 os).forCall (fun _ _ => 0) ⟨#[], args, []⟩).memory :=
 laidMetH_of_parts3 (fuel := 8) (laidMet_of_run' 8 (by kernel_rfl) (by kernel_rfl)) (by kernel_rfl) (by kernel_rfl)
end Go.Proofs.YtmlbppfcpejlpaaDoor.T08
