/- The program's IsPeeledFor returns what the reference's returns, for all arguments. -/
import Derived.Test.YtpadboijploheaaPFnExactIsPeeledForx6
import Derived.Test.YtpadboijploheaaBase
namespace Go.Proofs.Ytpadboijploheaa.Pure
open Go.RowKit Go.Proofs.Ytpadboijploheaa.PFnExactIsPeeledFor Go.Proofs.YtpadboijploheaaW.PrintWords Go.Proofs.YtpadboijploheaaW.PrintLast Go.Proofs.Ytpadboijploheaa.Base
set_option linter.unusedVariables false
set_option linter.unusedSimpArgs false

theorem impl_in_eq (a b c : Int) : impl_in.f a b c = some (decide (b ≤ a ∧ a ≤ c)) := by
  unfold impl_in.f
  by_cases h : b ≤ a <;> simp [h]
theorem impl_IsPeeledc1_eq (x : Int) : impl_IsPeeledc1.f x = some (!inB 0 3 x) := by
  simp only [impl_IsPeeledc1.f, impl_in_eq, Option.bind_some, inB]
theorem slices_IndexFunc_int_int_impl_IsPeeledc1_ev (xs : List Int)  (hx : xs.length ≤ 9223372036854775807) : Ev (fun k => slices_IndexFunc_int_int_impl_IsPeeledc1.f k xs ) (idxV (fun x => !inB 0 3 x) xs 0) := by
  refine Ev.up (L := fun k i => slices_IndexFunc_int_int_impl_IsPeeledc1.l0 k xs (xs.length : Int) (i : Int) ) (r := fun i => idxV (fun x => !inB 0 3 x) xs i) xs.length ?_ ?_ 0 (Nat.zero_le _)
  · refine Ev.succ ?_
    have h1 : ¬ ((xs.length : Int) < (xs.length : Int)) := by omega
    simp only [slices_IndexFunc_int_int_impl_IsPeeledc1.l0, h1, ↓reduceIte]
    exact Ev.some_ (idxV_end _ _).symm
  · intro i hi ih
    refine Ev.succ ?_
    have h1 : (i : Int) < (xs.length : Int) := by omega
    have h2 : (0 : Int) ≤ (i : Int) := by omega
    have hw : wrap64 ((i : Int) + 1) = ((i + 1 : Nat) : Int) := by rw [w64 (by omega) (by omega)]; rfl
    have e := rd_nat xs i hi
    simp only [slices_IndexFunc_int_int_impl_IsPeeledc1.l0, h1, h2, ↓reduceIte, hw]
    simp only [impl_IsPeeledc1_eq (rd xs (i : Int))  , Option.bind_some]
    cases hp : (!inB 0 3 (rd xs (i : Int))) with
    | true =>
      simp only [↓reduceIte]
      exact Ev.some_ (idxV_hit hi (by rw [← e]; exact hp)).symm
    | false =>
      simp only [Bool.false_eq_true, ↓reduceIte]
      rw [idxV_miss hi (by rw [← e]; exact hp)]
      exact ih
theorem slices_ContainsFunc_int_int_impl_IsPeeledc1_ev (xs : List Int)  (hx : xs.length ≤ 9223372036854775807) : Ev (fun k => slices_ContainsFunc_int_int_impl_IsPeeledc1.f k xs ) (xs.any (fun x => !inB 0 3 x)) := by
  unfold slices_ContainsFunc_int_int_impl_IsPeeledc1.f
  refine Ev.bind (slices_IndexFunc_int_int_impl_IsPeeledc1_ev xs  hx ) ?_
  rw [idxV_ge]
  exact Ev.now _
theorem spec_l1In_eq (a b c : Int) : spec_l1In.f a b c = some (decide (b ≤ a ∧ a ≤ c)) := by
  unfold spec_l1In.f
  by_cases h : b ≤ a <;> simp [h]
theorem spec_l1All_ev (l : List Int) (a b : Int) (hl : l.length ≤ 9223372036854775807) : Ev (fun k => spec_l1All.f k l a b) (l.all (inB a b)) := by
  have h := Ev.up (L := fun k i => spec_l1All.l0 k a b l (l.length : Int) (i : Int)) (r := fun i => (l.drop i).all (inB a b)) l.length ?_ ?_ 0 (Nat.zero_le _)
  · exact h
  · refine Ev.succ ?_
    have h1 : ¬ ((l.length : Int) < (l.length : Int)) := by omega
    simp only [spec_l1All.l0, h1, ↓reduceIte]
    exact Ev.some_ (by simp)
  · intro i hi ih
    refine Ev.succ ?_
    have h1 : (i : Int) < (l.length : Int) := by omega
    have h2 : (0 : Int) ≤ (i : Int) := by omega
    have hw : wrap64 ((i : Int) + 1) = ((i + 1 : Nat) : Int) := by rw [w64 (by omega) (by omega)]; rfl
    simp only [spec_l1All.l0, h1, h2, ↓reduceIte, hw, spec_l1In_eq, Option.bind_some]
    rw [drop_cons _ _ hi, List.all_cons, ← rd_nat _ _ hi]
    by_cases c : a ≤ rd l (i : Int) ∧ rd l (i : Int) ≤ b
    · have c2 : inB a b (rd l (i : Int)) = true := by simp [inB, c]
      simp only [c, and_self, decide_true, ↓reduceIte, c2, Bool.true_and]
      exact ih
    · have c2 : inB a b (rd l (i : Int)) = false := by simp [inB]; omega
      simp only [c, decide_false, Bool.false_eq_true, ↓reduceIte, c2, Bool.false_and]
      exact Ev.now _
theorem impl_isSeed_eq (a : Int) : impl_isSeed.f a = some (decide (0 ≤ a ∧ a ≤ 9999)) := by
  simp only [impl_isSeed.f, impl_in_eq, Option.bind_some]
theorem impl_segmentOk_eq (a : Int) : impl_segmentOk.f a = some (decide (1 ≤ a ∧ a ≤ 24)) := by
  simp only [impl_segmentOk.f, impl_in_eq, Option.bind_some]
theorem spec_pow (h : Int) (h0 : 0 ≤ h) (h1 : h < 65521) : Int.tmod (wrap64 ((Int.tmod (wrap64 ((Int.tmod (wrap64 ((Int.tmod (wrap64 ((Int.tmod (wrap64 (h * h)) 65521) * (Int.tmod (wrap64 (h * h)) 65521))) 65521) * h)) 65521) * (Int.tmod (wrap64 ((Int.tmod (wrap64 ((Int.tmod (wrap64 (h * h)) 65521) * (Int.tmod (wrap64 (h * h)) 65521))) 65521) * h)) 65521))) 65521) * h)) 65521 = h ^ 11 % 65521 := by
  have step : ∀ a b : Int, 0 ≤ a → a < 65521 → 0 ≤ b → b < 65521 → Int.tmod (wrap64 (a * b)) 65521 = a * b % 65521 := by
    intro a b ha ha' hb hb'
    obtain ⟨p0, p1⟩ := prod_range ha ha' hb hb'
    rw [w64 (by omega) (by omega), tmod_pos p0]
  have rng : ∀ x : Int, 0 ≤ x % 65521 ∧ x % 65521 < 65521 := fun x => ⟨Int.emod_nonneg _ (by decide), Int.emod_lt_of_pos _ (by decide)⟩
  rw [step h h h0 h1 h0 h1]
  rw [step _ _ (rng _).1 (rng _).2 (rng _).1 (rng _).2]
  rw [step _ _ (rng _).1 (rng _).2 h0 h1]
  rw [step _ _ (rng _).1 (rng _).2 (rng _).1 (rng _).2]
  rw [step _ _ (rng _).1 (rng _).2 h0 h1]
  simp only [mul_mod_l, mul_mod_r]
  congr 1
  simp only [Int.pow_succ, Int.pow_zero, Int.one_mul, Int.mul_assoc]
theorem spec_biHash_l0 (s : ByteArray) (hs : s.size ≤ 9223372036854775807) (d : Nat) : ∀ (i : Nat) (h : Int), i + d = s.size → 0 ≤ h → h < 65521 → Ev (fun k => spec_biHash.l0 k s h (i : Int)) (hashFrom h ((bytesOf s).drop i)) := by
  induction d with
  | zero =>
    intro i h hi h0 h1
    refine Ev.succ ?_
    have c1 : ¬ ((i : Int) < (s.size : Int)) := by omega
    simp only [spec_biHash.l0, c1, ↓reduceIte]
    rw [spec_pow h h0 h1]
    exact Ev.some_ (by rw [List.drop_of_length_le (by rw [bytesOf_length]; omega)]; rfl)
  | succ d ih =>
    intro i h hi h0 h1
    refine Ev.succ ?_
    have c1 : (i : Int) < (s.size : Int) := by omega
    have c2 : (0 : Int) ≤ (i : Int) := by omega
    have hw : wrap64 ((i : Int) + 1) = ((i + 1 : Nat) : Int) := by rw [w64 (by omega) (by omega)]; rfl
    have hb := bt_nat s i (by omega)
    have hr := bt_range s i
    have e : Int.tmod (wrap64 ((wrap64 (263 * h)) + (wrap64 (bt s i)))) 65521 = hstep h (bt s i) := by
      rw [w64 (n := 263 * h) (by omega) (by omega), w64 (n := bt s i) (by omega) (by omega), w64 (by omega) (by omega), tmod_pos (by omega)]
      rfl
    simp only [spec_biHash.l0, c1, c2, ↓reduceIte, hw, e]
    rw [drop_cons _ _ (by rw [bytesOf_length]; omega), ← hb]
    exact ih (i + 1) (hstep h (bt s i)) (by omega) (Int.emod_nonneg _ (by decide)) (Int.emod_lt_of_pos _ (by decide))
theorem spec_biHash_ev (a b : Int) (s : ByteArray) (hs : s.size ≤ 9223372036854775807) (ha0 : 0 ≤ a) (ha1 : a ≤ 9999) (hb0 : 0 ≤ b) (hb1 : b ≤ 9) : Ev (fun k => spec_biHash.f k a b s) (hashV a b s) := by
  have e : Int.tmod (wrap64 ((wrap64 ((wrap64 (31 * a)) + (wrap64 (977 * b)))) + 7)) 65521 = hash0 a b := by
    rw [w64 (n := 31 * a) (by omega) (by omega), w64 (n := 977 * b) (by omega) (by omega), w64 (n := 31 * a + 977 * b) (by omega) (by omega), w64 (by omega) (by omega), tmod_pos (by omega)]
    rfl
  unfold spec_biHash.f
  simp only [e]
  exact spec_biHash_l0 s hs s.size 0 (hash0 a b) (by omega) (Int.emod_nonneg _ (by decide)) (Int.emod_lt_of_pos _ (by decide))
theorem spec_biPlace_ev (a b : Int) (s : ByteArray) (n : Int) (hs : s.size ≤ 9223372036854775807) (ha0 : 0 ≤ a) (ha1 : a ≤ 9999) (hb0 : 0 ≤ b) (hb1 : b ≤ 9) (hn0 : 0 ≤ n) (hn1 : n ≤ 65521) : Ev (fun k => spec_biPlace.f k a b s n) (placeV a b s n) := by
  have hr := hash_range a b s
  have p0 : 0 ≤ hashV a b s * n := Int.mul_nonneg hr.1 hn0
  have p1 : hashV a b s * n ≤ 4293001441 := by
    have h1 : hashV a b s * n ≤ hashV a b s * 65521 := Int.mul_le_mul_of_nonneg_left (by omega) hr.1
    omega
  unfold spec_biPlace.f
  refine Ev.bind (spec_biHash_ev a b s hs ha0 ha1 hb0 hb1) ?_
  refine Ev.some_ ?_
  have h2 : hashV a b s * n / 65521 ≤ hashV a b s * n := Int.ediv_le_self _ p0
  have h3 : 0 ≤ hashV a b s * n / 65521 := Int.ediv_nonneg p0 (by decide)
  rw [w64 (n := hashV a b s * n) (by omega) (by omega), tdiv_pos p0, w64 (by omega) (by omega)]
  rfl
theorem impl_hash_l1 (h : Int) (h0 : 0 ≤ h) (h1 : h < 65521) (d : Nat) : ∀ (i : Nat) (o : Int), i + d = 11 → o = h ^ i % 65521 → Ev (fun k => impl_hash.l1 k h o (i : Int)) (h ^ 11 % 65521) := by
  induction d with
  | zero =>
    intro i o hi ho
    obtain rfl : i = 11 := by omega
    refine Ev.succ ?_
    simp only [impl_hash.l1]
    exact Ev.some_ ho
  | succ d ih =>
    intro i o hi ho
    refine Ev.succ ?_
    have c1 : (i : Int) < 11 := by omega
    have hw : wrap64 ((i : Int) + 1) = ((i + 1 : Nat) : Int) := by rw [w64 (by omega) (by omega)]; rfl
    have r : 0 ≤ o ∧ o < 65521 := by rw [ho]; exact ⟨Int.emod_nonneg _ (by decide), Int.emod_lt_of_pos _ (by decide)⟩
    obtain ⟨p0, p1⟩ := prod_range r.1 r.2 h0 h1
    have e : Int.tmod (wrap64 (o * h)) 65521 = h ^ (i + 1) % 65521 := by
      rw [w64 (by omega) (by omega), tmod_pos p0, ho, mul_mod_l, Int.pow_succ]
    simp only [impl_hash.l1, c1, ↓reduceIte, hw]
    exact ih (i + 1) _ (by omega) e
theorem impl_hash_l0 (s : ByteArray) (hs : s.size ≤ 9223372036854775807) (d : Nat) : ∀ (i : Nat) (h : Int), i + d = s.size → 0 ≤ h → h < 65521 → Ev (fun k => impl_hash.l0 k s h (s.size : Int) (i : Int)) (hashFrom h ((bytesOf s).drop i)) := by
  induction d with
  | zero =>
    intro i h hi h0 h1
    refine Ev.succ ?_
    have c1 : ¬ ((i : Int) < (s.size : Int)) := by omega
    simp only [impl_hash.l0, c1, ↓reduceIte]
    rw [List.drop_of_length_le (by rw [bytesOf_length]; omega)]
    exact impl_hash_l1 h h0 h1 11 0 1 (by omega) (by simp)
  | succ d ih =>
    intro i h hi h0 h1
    refine Ev.succ ?_
    have c1 : (i : Int) < (s.size : Int) := by omega
    have c2 : (0 : Int) ≤ (i : Int) := by omega
    have hw : wrap64 ((i : Int) + 1) = ((i + 1 : Nat) : Int) := by rw [w64 (by omega) (by omega)]; rfl
    have hb := bt_nat s i (by omega)
    have hr := bt_range s i
    have e : Int.tmod (wrap64 ((wrap64 (263 * h)) + (wrap64 (bt s i)))) 65521 = hstep h (bt s i) := by
      rw [w64 (n := 263 * h) (by omega) (by omega), w64 (n := bt s i) (by omega) (by omega), w64 (by omega) (by omega), tmod_pos (by omega)]
      rfl
    simp only [impl_hash.l0, c1, c2, ↓reduceIte, hw, e]
    rw [drop_cons _ _ (by rw [bytesOf_length]; omega), ← hb]
    exact ih (i + 1) (hstep h (bt s i)) (by omega) (Int.emod_nonneg _ (by decide)) (Int.emod_lt_of_pos _ (by decide))
theorem impl_hash_ev (a b : Int) (s : ByteArray) (hs : s.size ≤ 9223372036854775807) (ha0 : 0 ≤ a) (ha1 : a ≤ 9999) (hb0 : 0 ≤ b) (hb1 : b ≤ 9) : Ev (fun k => impl_hash.f k a b s) (hashV a b s) := by
  have e : Int.tmod (wrap64 ((wrap64 ((wrap64 (31 * a)) + (wrap64 (977 * b)))) + 7)) 65521 = hash0 a b := by
    rw [w64 (n := 31 * a) (by omega) (by omega), w64 (n := 977 * b) (by omega) (by omega), w64 (n := 31 * a + 977 * b) (by omega) (by omega), w64 (by omega) (by omega), tmod_pos (by omega)]
    rfl
  unfold impl_hash.f
  simp only [e]
  exact impl_hash_l0 s hs s.size 0 (hash0 a b) (by omega) (Int.emod_nonneg _ (by decide)) (Int.emod_lt_of_pos _ (by decide))
theorem impl_place_ev (a b : Int) (s : ByteArray) (n : Int) (hs : s.size ≤ 9223372036854775807) (ha0 : 0 ≤ a) (ha1 : a ≤ 9999) (hb0 : 0 ≤ b) (hb1 : b ≤ 9) (hn0 : 0 ≤ n) (hn1 : n ≤ 65521) : Ev (fun k => impl_place.f k a b s n) (placeV a b s n) := by
  have hr := hash_range a b s
  have p0 : 0 ≤ hashV a b s * n := Int.mul_nonneg hr.1 hn0
  have p1 : hashV a b s * n ≤ 4293001441 := by
    have h1 : hashV a b s * n ≤ hashV a b s * 65521 := Int.mul_le_mul_of_nonneg_left (by omega) hr.1
    omega
  unfold impl_place.f
  refine Ev.bind (impl_hash_ev a b s hs ha0 ha1 hb0 hb1) ?_
  refine Ev.some_ ?_
  have h2 : hashV a b s * n / 65521 ≤ hashV a b s * n := Int.ediv_le_self _ p0
  have h3 : 0 ≤ hashV a b s * n / 65521 := Int.ediv_nonneg p0 (by decide)
  rw [w64 (n := hashV a b s * n) (by omega) (by omega), tdiv_pos p0, w64 (by omega) (by omega)]
  rfl
def tripleV (a b : Int) (s : ByteArray) (n : Nat) : List Int := (List.range n).map fun i : Nat => placeV a (i : Int) s b + (i : Int) * b
theorem tripleV_length (a b : Int) (s : ByteArray) (n : Nat) : (tripleV a b s n).length = n := by simp [tripleV]
theorem tripleV_succ (a b : Int) (s : ByteArray) (n : Nat) : tripleV a b s (n + 1) = tripleV a b s n ++ [placeV a n s b + n * b] := by simp [tripleV, List.range_succ]
theorem tripleV_three (a b : Int) (s : ByteArray) : tripleV a b s 3 = [placeV a 0 s b, placeV a 1 s b + b, placeV a 2 s b + 2 * b] := by simp [tripleV, List.range_succ]
theorem tripleV_range {a b : Int} {s : ByteArray} (h : 0 < b) : ∀ x ∈ tripleV a b s 3, 0 ≤ x ∧ x < 3 * b := by
  intro x hx
  have h0 := place_range (a := a) (b := 0) (s := s) h
  have h1 := place_range (a := a) (b := 1) (s := s) h
  have h2 := place_range (a := a) (b := 2) (s := s) h
  rw [tripleV_three] at hx
  simp only [List.mem_cons, List.not_mem_nil, or_false] at hx
  rcases hx with rfl | rfl | rfl <;> omega
theorem spec_peTriple_l0 (a b : Int) (s : ByteArray) (hs : s.size ≤ 9223372036854775807) (ha0 : 0 ≤ a) (ha1 : a ≤ 9999) (hb0 : 0 < b) (hb1 : b ≤ 65521) (d : Nat) : ∀ i : Nat, i + d = 3 → Ev (fun k => spec_peTriple.l0 k a s b (tripleV a b s i) (i : Int)) (tripleV a b s 3) := by
  induction d with
  | zero =>
    intro i hi
    refine Ev.succ ?_
    have h1 : ¬ ((i : Int) < 3) := by omega
    simp only [spec_peTriple.l0, h1, ↓reduceIte]
    exact Ev.some_ (by rw [← hi]; rfl)
  | succ d ih =>
    intro i hi
    refine Ev.succ ?_
    have h1 : (i : Int) < 3 := by omega
    have hw : wrap64 ((i : Int) + 1) = ((i + 1 : Nat) : Int) := by rw [w64 (by omega) (by omega)]; rfl
    have h2 : (tripleV a b s i).length < 17592186044416 := by rw [tripleV_length]; omega
    have hp := place_range (a := a) (b := (i : Int)) (s := s) (n := b) hb0
    have e1 : 0 ≤ (i : Int) * b ∧ (i : Int) * b ≤ 131042 := by
      have hi3 : i = 0 ∨ i = 1 ∨ i = 2 := by omega
      rcases hi3 with rfl | rfl | rfl <;> omega
    have hw1 : wrap64 ((i : Int) * b) = (i : Int) * b := w64 (by omega) (by omega)
    have hw2 : wrap64 (placeV a (i : Int) s b + (i : Int) * b) = placeV a (i : Int) s b + (i : Int) * b := w64 (by omega) (by omega)
    simp only [spec_peTriple.l0, h1, h2, ↓reduceIte, hw]
    refine Ev.bind (spec_biPlace_ev a i s b hs ha0 ha1 (by omega) (by omega) (by omega) hb1) ?_
    rw [hw1, hw2, ← tripleV_succ]
    exact ih (i + 1) (by omega)
theorem spec_peTriple_ev (a b : Int) (s : ByteArray) (hs : s.size ≤ 9223372036854775807) (ha0 : 0 ≤ a) (ha1 : a ≤ 9999) (hb0 : 0 < b) (hb1 : b ≤ 65521) : Ev (fun k => spec_peTriple.f k a s b) (tripleV a b s 3) := spec_peTriple_l0 a b s hs ha0 ha1 hb0 hb1 3 0 rfl
theorem impl_threePlaces_l0 (a b : Int) (s : ByteArray) (hs : s.size ≤ 9223372036854775807) (ha0 : 0 ≤ a) (ha1 : a ≤ 9999) (hb0 : 0 < b) (hb1 : b ≤ 65521) (d : Nat) : ∀ i : Nat, i + d = 3 → Ev (fun k => impl_threePlaces.l0 k a s b (tripleV a b s i) (i : Int)) (tripleV a b s 3) := by
  induction d with
  | zero =>
    intro i hi
    refine Ev.succ ?_
    have h1 : ¬ ((i : Int) < 3) := by omega
    simp only [impl_threePlaces.l0, h1, ↓reduceIte]
    exact Ev.some_ (by rw [← hi]; rfl)
  | succ d ih =>
    intro i hi
    refine Ev.succ ?_
    have h1 : (i : Int) < 3 := by omega
    have hw : wrap64 ((i : Int) + 1) = ((i + 1 : Nat) : Int) := by rw [w64 (by omega) (by omega)]; rfl
    have h2 : (tripleV a b s i).length < 17592186044416 := by rw [tripleV_length]; omega
    have hp := place_range (a := a) (b := (i : Int)) (s := s) (n := b) hb0
    have e1 : 0 ≤ (i : Int) * b ∧ (i : Int) * b ≤ 131042 := by
      have hi3 : i = 0 ∨ i = 1 ∨ i = 2 := by omega
      rcases hi3 with rfl | rfl | rfl <;> omega
    have hw1 : wrap64 ((i : Int) * b) = (i : Int) * b := w64 (by omega) (by omega)
    have hw2 : wrap64 (placeV a (i : Int) s b + (i : Int) * b) = placeV a (i : Int) s b + (i : Int) * b := w64 (by omega) (by omega)
    simp only [impl_threePlaces.l0, h1, h2, ↓reduceIte, hw]
    refine Ev.bind (impl_place_ev a i s b hs ha0 ha1 (by omega) (by omega) (by omega) hb1) ?_
    rw [hw1, hw2, ← tripleV_succ]
    exact ih (i + 1) (by omega)
theorem impl_threePlaces_ev (a b : Int) (s : ByteArray) (hs : s.size ≤ 9223372036854775807) (ha0 : 0 ≤ a) (ha1 : a ≤ 9999) (hb0 : 0 < b) (hb1 : b ≤ 65521) : Ev (fun k => impl_threePlaces.f k a s b) (tripleV a b s 3) := impl_threePlaces_l0 a b s hs ha0 ha1 hb0 hb1 3 0 rfl
def goodPeeled (a b : Int) (l : List Int) : Bool := decide ((0 ≤ a ∧ a ≤ 9999) ∧ (1 ≤ b ∧ b ≤ 24) ∧ (l.length : Int) = 3 * b) && l.all (inB 0 3)
theorem goodPeeled_of {a b : Int} {l : List Int} (h : goodPeeled a b l = true) : (0 ≤ a ∧ a ≤ 9999) ∧ (1 ≤ b ∧ b ≤ 24) ∧ (l.length : Int) = 3 * b ∧ ∀ x ∈ l, 0 ≤ x ∧ x ≤ 3 := by
  unfold goodPeeled inB at h
  simp only [Bool.and_eq_true, decide_eq_true_eq, List.all_eq_true] at h
  exact ⟨h.1.1, h.1.2.1, h.1.2.2, h.2⟩
theorem any_not_all_P {α : Type} (p : α → Bool) (l : List α) : l.any (fun x => !p x) = !l.all p := by
  induction l with
  | nil => rfl
  | cons x l ih => simp only [List.any_cons, List.all_cons, ih, Bool.not_and]
theorem spec_pfPeeled_ev (a b : Int) (l : List Int) (hl : l.length ≤ 9223372036854775807) : Ev (fun k => spec_pfPeeled.f k a b l) (goodPeeled a b l) := by
  unfold goodPeeled spec_pfPeeled.f
  simp only [spec_l1In_eq, Option.bind_some]
  by_cases h : 0 ≤ a ∧ a ≤ 9999
  · simp only [h, and_self, decide_true, ↓reduceIte, true_and]
    by_cases h1 : 1 ≤ b ∧ b ≤ 24
    · have hw : wrap64 (3 * b) = 3 * b := w64 (by omega) (by omega)
      simp only [h1, and_self, decide_true, ↓reduceIte, true_and, hw]
      by_cases h2 : (l.length : Int) = 3 * b
      · simp only [h2, ↓reduceIte, decide_true, Bool.true_and]
        exact Ev.bind (spec_l1All_ev l 0 3 hl) (Ev.now _)
      · simp only [h2, ↓reduceIte, decide_false, Bool.false_and]
        exact Ev.now _
    · simp only [h1, decide_false, Bool.false_eq_true, ↓reduceIte, false_and, Bool.false_and]
      exact Ev.now _
  · simp only [h, decide_false, Bool.false_eq_true, ↓reduceIte, false_and, Bool.false_and]
    exact Ev.now _
theorem impl_IsPeeled_ev (a b : Int) (l : List Int) (hl : l.length ≤ 9223372036854775807) : Ev (fun k => impl_IsPeeled.f k a b l) (goodPeeled a b l) := by
  unfold impl_IsPeeled.f goodPeeled
  refine Ev.bind (slices_ContainsFunc_int_int_impl_IsPeeledc1_ev l hl) ?_
  rw [any_not_all_P]
  cases l.all (inB 0 3) with
  | false => simp only [Bool.not_false, ↓reduceIte, Bool.and_false]; exact Ev.now _
  | true =>
    simp only [Bool.not_true, Bool.false_eq_true, ↓reduceIte, impl_isSeed_eq, impl_segmentOk_eq, Option.bind_some, Bool.and_true]
    by_cases h : 0 ≤ a ∧ a ≤ 9999
    · simp only [h, and_self, decide_true, ↓reduceIte, true_and]
      by_cases h1 : 1 ≤ b ∧ b ≤ 24
      · have hw : wrap64 (3 * b) = 3 * b := w64 (by omega) (by omega)
        simp only [h1, and_self, decide_true, ↓reduceIte, true_and, hw]
        exact Ev.some_ rfl
      · simp only [h1, decide_false, Bool.false_eq_true, ↓reduceIte, false_and]
        exact Ev.now _
    · simp only [h, decide_false, Bool.false_eq_true, ↓reduceIte, false_and]
      exact Ev.now _
theorem mark_range {l : List Int} (h : ∀ x ∈ l, 0 ≤ x ∧ x ≤ 3) (i : Int) : 0 ≤ rd l i ∧ rd l i ≤ 3 := by
  unfold rd
  rw [List.getD_eq_getElem?_getD]
  cases e : l[i.toNat]? with
  | none => simp
  | some x => simpa using h x (List.mem_of_getElem? e)
def sum3 (l xs : List Int) : Int := rd l (rd xs 0) + rd l (rd xs 1) + rd l (rd xs 2)
theorem sum3_range {l xs : List Int} (h : ∀ x ∈ l, 0 ≤ x ∧ x ≤ 3) : 0 ≤ sum3 l xs ∧ sum3 l xs ≤ 9 := by
  have h0 := mark_range h (rd xs 0)
  have h1 := mark_range h (rd xs 1)
  have h2 := mark_range h (rd xs 2)
  unfold sum3
  omega
def placeOf (a b : Int) (l : List Int) (s : ByteArray) : Int := rd (tripleV a b s 3) (sum3 l (tripleV a b s 3) % 3)
theorem triple_at {a b : Int} {s : ByteArray} (hb : 0 < b) (i : Int) (h0 : 0 ≤ i) (h1 : i < 3) : 0 ≤ rd (tripleV a b s 3) i ∧ rd (tripleV a b s 3) i < 3 * b := by
  have hl := tripleV_length a b s 3
  obtain ⟨n, rfl⟩ := Int.eq_ofNat_of_zero_le h0
  have hn : n < (tripleV a b s 3).length := by omega
  rw [rd_nat _ n hn]
  exact tripleV_range hb _ (List.getElem_mem hn)
theorem placeOf_range {a b : Int} {l : List Int} {s : ByteArray} (hb : 0 < b) : 0 ≤ placeOf a b l s ∧ placeOf a b l s < 3 * b := by
  unfold placeOf
  exact triple_at hb _ (by omega) (by omega)
theorem spec_pfSum_triple (a b : Int) (l : List Int) (s : ByteArray) (hb : 0 < b) (hl : (l.length : Int) = 3 * b) (h : ∀ x ∈ l, 0 ≤ x ∧ x ≤ 3) : Ev (fun k => spec_pfSum.f k l (tripleV a b s 3)) (sum3 l (tripleV a b s 3)) := by
  have hlen := tripleV_length a b s 3
  have h0 := triple_at (a := a) (s := s) hb 0 (by omega) (by omega)
  have h1 := triple_at (a := a) (s := s) hb 1 (by omega) (by omega)
  have h2 := triple_at (a := a) (s := s) hb 2 (by omega) (by omega)
  have m0 := mark_range h (rd (tripleV a b s 3) 0)
  have m1 := mark_range h (rd (tripleV a b s 3) 1)
  have m2 := mark_range h (rd (tripleV a b s 3) 2)
  unfold sum3 spec_pfSum.f
  generalize tripleV a b s 3 = xs at *
  have e : (xs.length : Int) = 3 := by omega
  have g0 : rd xs 0 < (l.length : Int) := by omega
  have g1 : rd xs 1 < (l.length : Int) := by omega
  have g2 : rd xs 2 < (l.length : Int) := by omega
  have w0 : wrap64 (0 + rd l (rd xs 0)) = rd l (rd xs 0) := by rw [w64 (by omega) (by omega), Int.zero_add]
  have w1 : wrap64 (rd l (rd xs 0) + rd l (rd xs 1)) = rd l (rd xs 0) + rd l (rd xs 1) := w64 (by omega) (by omega)
  have w2 : wrap64 (rd l (rd xs 0) + rd l (rd xs 1) + rd l (rd xs 2)) = rd l (rd xs 0) + rd l (rd xs 1) + rd l (rd xs 2) := w64 (by omega) (by omega)
  have i1 : wrap64 (0 + 1) = 1 := w64 (n := 0 + 1) (by decide) (by decide)
  have i2 : wrap64 (1 + 1) = 2 := w64 (n := 1 + 1) (by decide) (by decide)
  have i3 : wrap64 (2 + 1) = 3 := w64 (n := 2 + 1) (by decide) (by decide)
  rw [e]
  refine Ev.succ ?_
  simp only [spec_pfSum.l0, e, h0.1, g0, w0, i1, ↓reduceIte, show (0 : Int) < 3 from by decide, show (0 : Int) ≤ 0 from by decide]
  refine Ev.succ ?_
  simp only [spec_pfSum.l0, e, h1.1, g1, w1, i2, ↓reduceIte, show (1 : Int) < 3 from by decide, show (0 : Int) ≤ 1 from by decide]
  refine Ev.succ ?_
  simp only [spec_pfSum.l0, e, h2.1, g2, w2, i3, ↓reduceIte, show (2 : Int) < 3 from by decide, show (0 : Int) ≤ 2 from by decide]
  refine Ev.succ ?_
  simp only [spec_pfSum.l0, ↓reduceIte, show ¬ ((3 : Int) < 3) from by decide]
  exact Ev.now _
theorem spec_pfPlace_ev (a b : Int) (l : List Int) (s : ByteArray) (hs : s.size ≤ 9223372036854775807) (h : goodPeeled a b l = true) : Ev (fun k => spec_pfPlace.f k a b l s) (placeOf a b l s) := by
  obtain ⟨⟨a0, a1⟩, ⟨b0, b1⟩, hl, hx⟩ := goodPeeled_of h
  have hsum := sum3_range (xs := tripleV a b s 3) hx
  unfold spec_pfPlace.f placeOf
  refine Ev.bind (spec_peTriple_ev a b s hs a0 a1 (by omega) (by omega)) ?_
  refine Ev.bind (spec_pfSum_triple a b l s (by omega) hl hx) ?_
  rw [tmod_pos hsum.1, tripleV_length, if_pos (by omega), if_pos (by omega)]
  exact Ev.now _
theorem impl_Peeled_place_in30_0_ev (a b : Int) (l : List Int) (s : ByteArray) (hs : s.size ≤ 9223372036854775807) (h : goodPeeled a b l = true) : Ev (fun k => impl_Peeled_place_in30_0.f k a b l s) (placeOf a b l s) := by
  obtain ⟨⟨a0, a1⟩, ⟨b0, b1⟩, hl, hx⟩ := goodPeeled_of h
  have hsum := sum3_range (xs := tripleV a b s 3) hx
  unfold impl_Peeled_place_in30_0.f placeOf
  refine Ev.bind (impl_threePlaces_ev a b s hs a0 a1 (by omega) (by omega)) ?_
  have hled : impl_led.f l (tripleV a b s 3) = some (sum3 l (tripleV a b s 3) % 3) := by
    have hlen := tripleV_length a b s 3
    have hb : 0 < b := by omega
    have h0 := triple_at (a := a) (s := s) hb 0 (by omega) (by omega)
    have h1 := triple_at (a := a) (s := s) hb 1 (by omega) (by omega)
    have h2 := triple_at (a := a) (s := s) hb 2 (by omega) (by omega)
    have m0 := mark_range hx (rd (tripleV a b s 3) 0)
    have m1 := mark_range hx (rd (tripleV a b s 3) 1)
    have m2 := mark_range hx (rd (tripleV a b s 3) 2)
    unfold sum3 impl_led.f
    generalize tripleV a b s 3 = xs at *
    have e : (xs.length : Int) = 3 := by omega
    have g0 : rd xs 0 < (l.length : Int) := by omega
    have g1 : rd xs 1 < (l.length : Int) := by omega
    have g2 : rd xs 2 < (l.length : Int) := by omega
    have w1 : wrap64 (rd l (rd xs 0) + rd l (rd xs 1)) = rd l (rd xs 0) + rd l (rd xs 1) := w64 (by omega) (by omega)
    have w2 : wrap64 (rd l (rd xs 0) + rd l (rd xs 1) + rd l (rd xs 2)) = rd l (rd xs 0) + rd l (rd xs 1) + rd l (rd xs 2) := w64 (by omega) (by omega)
    simp only [e, h0.1, h1.1, h2.1, g0, g1, g2, w1, w2, ↓reduceIte, show (0 : Int) < 3 from by decide, show (1 : Int) < 3 from by decide, show (2 : Int) < 3 from by decide]
    rw [tmod_pos (by omega)]
  simp only [hled, Option.bind_some]
  rw [tripleV_length, if_pos (by omega), if_pos (by omega)]
  exact Ev.now _
/-- How many marks are no free ones. -/
def usedM (x : Int) : Bool := !decide (x = 3)
def rankN (l : List Int) (p : Nat) : Nat := (l.take p).countP usedM
theorem rank_le (l : List Int) (p : Nat) : rankN l p ≤ p := by
  unfold rankN
  have h := List.countP_le_length (p := usedM) (l := l.take p)
  have h2 := List.length_take_le p l
  omega
theorem rank_lt {l : List Int} {p q : Nat} (hp : p < l.length) (hpq : p < q) (hu : usedM l[p] = true) : rankN l p < rankN l q := by
  have h1 : rankN l (p + 1) = rankN l p + 1 := by
    unfold rankN
    rw [List.take_succ_eq_append_getElem hp, List.countP_append, List.countP_singleton, if_pos hu]
  have h2 : rankN l (p + 1) ≤ rankN l q := by
    unfold rankN
    exact List.Sublist.countP_le (List.take_sublist_take_left (by omega))
  omega
theorem rank_inj {l : List Int} {p q : Int} (p0 : 0 ≤ p) (q0 : 0 ≤ q) (hp : p < (l.length : Int)) (hq : q < (l.length : Int)) (up : usedM (rd l p) = true) (uq : usedM (rd l q) = true) (h : (rankN l p.toNat : Int) = (rankN l q.toNat : Int)) : p = q := by
  obtain ⟨n, rfl⟩ := Int.eq_ofNat_of_zero_le p0
  obtain ⟨m, rfl⟩ := Int.eq_ofNat_of_zero_le q0
  rw [rd_nat _ _ (by omega)] at up uq
  simp only [Int.toNat_natCast] at h
  rcases Nat.lt_trichotomy n m with c | c | c
  · have := rank_lt (q := m) (by omega) c up
    omega
  · rw [c]
  · have := rank_lt (q := n) (by omega) c uq
    omega
theorem spec_rank_l0 (l : List Int) (hl : l.length ≤ 1000) (d : Nat) : ∀ (i : Nat) (v : Int), i + d = l.length → 0 ≤ v → v ≤ i → Ev (fun k => spec_pfRank.l0 k v l (l.length : Int) (i : Int)) (v + ((l.drop i).countP usedM : Nat)) := by
  induction d with
  | zero =>
    intro i v hi v0 v1
    refine Ev.succ ?_
    have h1 : ¬ ((i : Int) < (l.length : Int)) := by omega
    simp only [spec_pfRank.l0, h1, ↓reduceIte]
    exact Ev.some_ (by rw [List.drop_eq_nil_of_le (by omega)]; simp)
  | succ d ih =>
    intro i v hi v0 v1
    refine Ev.succ ?_
    have h0 : i < l.length := by omega
    have h1 : (i : Int) < (l.length : Int) := by omega
    have h2 : (0 : Int) ≤ (i : Int) := by omega
    have hw : wrap64 ((i : Int) + 1) = ((i + 1 : Nat) : Int) := by rw [w64 (by omega) (by omega)]; rfl
    have hw2 : wrap64 (v + 1) = v + 1 := w64 (by omega) (by omega)
    rw [drop_cons l i h0, List.countP_cons]
    simp only [spec_pfRank.l0, h1, h2, ↓reduceIte, hw, hw2, rd_nat l i h0]
    by_cases c : l[i] = 3
    · have hu : usedM l[i] = false := by unfold usedM; simp [c]
      simp only [c, ↓reduceIte]
      rw [c] at hu
      simp only [hu, Bool.false_eq_true, ↓reduceIte, Nat.add_zero]
      exact ih (i + 1) v (by omega) v0 (by omega)
    · have hu : usedM l[i] = true := by unfold usedM; simp [c]
      simp only [c, hu, ↓reduceIte]
      have e := ih (i + 1) (v + 1) (by omega) (by omega) (by omega)
      rw [show v + (((l.drop (i + 1)).countP usedM + 1 : Nat) : Int) = v + 1 + (((l.drop (i + 1)).countP usedM : Nat) : Int) from by omega]
      exact e
theorem impl_used_l0 (l : List Int) (hl : l.length ≤ 1000) (d : Nat) : ∀ (i : Nat) (v : Int), i + d = l.length → 0 ≤ v → v ≤ i → Ev (fun k => impl_Peeled_used_in30_0.l0 k v l (l.length : Int) (i : Int)) (v + ((l.drop i).countP usedM : Nat)) := by
  induction d with
  | zero =>
    intro i v hi v0 v1
    refine Ev.succ ?_
    have h1 : ¬ ((i : Int) < (l.length : Int)) := by omega
    simp only [impl_Peeled_used_in30_0.l0, h1, ↓reduceIte]
    exact Ev.some_ (by rw [List.drop_eq_nil_of_le (by omega)]; simp)
  | succ d ih =>
    intro i v hi v0 v1
    refine Ev.succ ?_
    have h0 : i < l.length := by omega
    have h1 : (i : Int) < (l.length : Int) := by omega
    have h2 : (0 : Int) ≤ (i : Int) := by omega
    have hw : wrap64 ((i : Int) + 1) = ((i + 1 : Nat) : Int) := by rw [w64 (by omega) (by omega)]; rfl
    have hw2 : wrap64 (v + 1) = v + 1 := w64 (by omega) (by omega)
    rw [drop_cons l i h0, List.countP_cons]
    simp only [impl_Peeled_used_in30_0.l0, h1, h2, ↓reduceIte, hw, hw2, rd_nat l i h0]
    by_cases c : l[i] = 3
    · have hu : usedM l[i] = false := by unfold usedM; simp [c]
      simp only [c, ↓reduceIte]
      rw [c] at hu
      simp only [hu, Bool.false_eq_true, ↓reduceIte, Nat.add_zero]
      exact ih (i + 1) v (by omega) v0 (by omega)
    · have hu : usedM l[i] = true := by unfold usedM; simp [c]
      simp only [c, hu, ↓reduceIte]
      have e := ih (i + 1) (v + 1) (by omega) (by omega) (by omega)
      rw [show v + (((l.drop (i + 1)).countP usedM + 1 : Nat) : Int) = v + 1 + (((l.drop (i + 1)).countP usedM : Nat) : Int) from by omega]
      exact e
theorem spec_pfRank_ev (a b : Int) (l : List Int) (hl : l.length ≤ 1000) (p : Int) (p0 : 0 ≤ p) (p1 : p ≤ (l.length : Int)) : Ev (fun k => spec_pfRank.f k a b l p) (rankN l p.toNat : Int) := by
  unfold spec_pfRank.f rankN
  simp only [p0, p1, ↓reduceIte]
  have h := List.length_take_le p.toNat l
  have e := spec_rank_l0 (l.take p.toNat) (by omega) _ 0 0 (Nat.zero_add _) (by omega) (by omega)
  rw [Int.zero_add, List.drop_zero] at e
  exact e
theorem impl_used_ev (a b : Int) (l : List Int) (hl : l.length ≤ 1000) (p : Int) (p0 : 0 ≤ p) (p1 : p ≤ (l.length : Int)) : Ev (fun k => impl_Peeled_used_in30_0.f k a b l p) (rankN l p.toNat : Int) := by
  unfold impl_Peeled_used_in30_0.f rankN
  simp only [p0, p1, ↓reduceIte]
  have h := List.length_take_le p.toNat l
  have e := impl_used_l0 (l.take p.toNat) (by omega) _ 0 0 (Nat.zero_add _) (by omega) (by omega)
  rw [Int.zero_add, List.drop_zero] at e
  exact e
theorem laws_szIntS_eq (l : List Int) (a : Int) (h0 : 0 ≤ a) (h1 : a ≤ 1048576) (hl : l.length ≤ 9223372036854775807) : laws_szIntS.f l a = some (if (l.length : Int) ≤ a then a - l.length else -1) := by
  unfold laws_szIntS.f
  rw [w64 (by omega) (by omega)]
  by_cases c : (l.length : Int) ≤ a
  · rw [if_neg (by omega), if_pos c]
  · rw [if_pos (by omega), if_neg c]
theorem laws_toIntS_l0 (l : List Int) (hl : l.length ≤ 9223372036854775807) (d : Nat) : ∀ (i : Nat) (o : List Int), o.length = l.length → o.take i = l.take i → i + d = l.length → Ev (fun k => laws_toIntS.l0 k l o (i : Int)) l := by
  induction d with
  | zero =>
    intro i o ho ht hi
    refine Ev.succ ?_
    have h1 : ¬ ((i : Int) < (l.length : Int)) := by omega
    simp only [laws_toIntS.l0, h1, ↓reduceIte]
    rw [List.take_of_length_le (by omega), List.take_of_length_le (by omega)] at ht
    exact Ev.some_ ht
  | succ d ih =>
    intro i o ho ht hi
    refine Ev.succ ?_
    have h1 : (i : Int) < (l.length : Int) := by omega
    have h2 : (0 : Int) ≤ (i : Int) := by omega
    have h3 : (i : Int) < (o.length : Int) := by omega
    have hw : wrap64 ((i : Int) + 1) = ((i + 1 : Nat) : Int) := by rw [w64 (by omega) (by omega)]; rfl
    simp only [laws_toIntS.l0, h1, h2, h3, ↓reduceIte, hw, Int.toNat_natCast]
    exact ih (i + 1) _ (by simp [ho]) (by rw [take_set_succ _ _ _ (by omega), ht, rd_nat _ _ (by omega), List.take_succ_eq_append_getElem (by omega)]) (by omega)
theorem laws_toIntS_ev (l : List Int) (hl : l.length ≤ 35184372088832) : Ev (fun k => laws_toIntS.f k l) l := by
  have h1 : 0 ≤ (l.length : Int) := by omega
  have h2 : ((l.length : Int)).toNat ≤ 35184372088832 := by omega
  simp only [laws_toIntS.f, h1, h2, ↓reduceIte]
  exact laws_toIntS_l0 l (by omega) l.length 0 _ (by simp) (by simp) (by omega)
theorem laws_eqIntS_self (l : List Int) (hl : l.length ≤ 9223372036854775807) : Ev (fun k => laws_eqIntS.f k l l) true := by
  unfold laws_eqIntS.f
  simp only [↓reduceIte]
  refine Ev.up (L := fun k i => laws_eqIntS.l0 k l l (i : Int)) (r := fun _ => true) l.length ?_ ?_ 0 (Nat.zero_le _)
  · refine Ev.succ ?_
    have h1 : ¬ ((l.length : Int) < (l.length : Int)) := by omega
    simp only [laws_eqIntS.l0, h1, ↓reduceIte]
    exact Ev.now _
  · intro i hi ih
    refine Ev.succ ?_
    have h1 : (i : Int) < (l.length : Int) := by omega
    have h2 : (0 : Int) ≤ (i : Int) := by omega
    have hw : wrap64 ((i : Int) + 1) = ((i + 1 : Nat) : Int) := by rw [w64 (by omega) (by omega)]; rfl
    simp only [laws_eqIntS.l0, h1, h2, ↓reduceIte, hw]
    exact ih
theorem laws_szPeeled_eq (a b : Int) (l : List Int) (m : Int) (h0 : 0 ≤ m) (h1 : m ≤ 1048576) (hl : l.length ≤ 9223372036854775807) : laws_szPeeled.f a b l m = some (if (l.length : Int) ≤ m then m - l.length else -1) := by
  simp only [laws_szPeeled.f, laws_szIntS_eq l m h0 h1 hl, Option.bind_some]
  by_cases c : (l.length : Int) ≤ m
  · simp only [c, ↓reduceIte, show ¬ (m - (l.length : Int) < 0) from by omega]
  · simp only [c, ↓reduceIte, show ((-1 : Int) < 0) from by decide]
theorem laws_toPeeled_ev (a b : Int) (l : List Int) (hl : l.length ≤ 1048576) : Ev (fun k => laws_toPeeled.f k a b l) (a, b, l) := by
  unfold laws_toPeeled.f
  exact Ev.bind (laws_toIntS_ev l (by omega)) (Ev.now _)
theorem laws_eqPeeled_self (a b : Int) (l : List Int) (hl : l.length ≤ 9223372036854775807) : Ev (fun k => laws_eqPeeled.f k a b l a b l) true := by
  simp only [laws_eqPeeled.f, ↓reduceIte]
  exact Ev.bind (laws_eqIntS_self l hl) (by simp only [↓reduceIte]; exact Ev.now _)
theorem laws_eqStringS_self (l : List ByteArray) (hl : l.length ≤ 9223372036854775807) : Ev (fun k => laws_eqStringS.f k l l) true := by
  unfold laws_eqStringS.f
  simp only [↓reduceIte]
  refine Ev.up (L := fun k i => laws_eqStringS.l0 k l l (i : Int)) (r := fun _ => true) l.length ?_ ?_ 0 (Nat.zero_le _)
  · refine Ev.succ ?_
    have h1 : ¬ ((l.length : Int) < (l.length : Int)) := by omega
    simp only [laws_eqStringS.l0, h1, ↓reduceIte]
    exact Ev.now _
  · intro i hi ih
    refine Ev.succ ?_
    have h1 : (i : Int) < (l.length : Int) := by omega
    have h2 : (0 : Int) ≤ (i : Int) := by omega
    have hw : wrap64 ((i : Int) + 1) = ((i + 1 : Nat) : Int) := by rw [w64 (by omega) (by omega)]; rfl
    simp only [laws_eqStringS.l0, h1, h2, ↓reduceIte, hw]
    exact ih
theorem laws_toStringS_l0 (l : List ByteArray) (hl : l.length ≤ 9223372036854775807) (d : Nat) : ∀ (i : Nat) (o : List ByteArray), o.length = l.length → o.take i = l.take i → i + d = l.length → Ev (fun k => laws_toStringS.l0 k l o (i : Int)) l := by
  induction d with
  | zero =>
    intro i o ho ht hi
    refine Ev.succ ?_
    have h1 : ¬ ((i : Int) < (l.length : Int)) := by omega
    simp only [laws_toStringS.l0, h1, ↓reduceIte]
    rw [List.take_of_length_le (by omega), List.take_of_length_le (by omega)] at ht
    exact Ev.some_ ht
  | succ d ih =>
    intro i o ho ht hi
    refine Ev.succ ?_
    have h1 : (i : Int) < (l.length : Int) := by omega
    have h2 : (0 : Int) ≤ (i : Int) := by omega
    have h3 : (i : Int) < (o.length : Int) := by omega
    have hw : wrap64 ((i : Int) + 1) = ((i + 1 : Nat) : Int) := by rw [w64 (by omega) (by omega)]; rfl
    simp only [laws_toStringS.l0, h1, h2, h3, ↓reduceIte, hw, Int.toNat_natCast]
    exact ih (i + 1) _ (by simp [ho]) (by rw [take_set_succ _ _ _ (by omega), ht, rdOf_nat _ _ _ (by omega), List.take_succ_eq_append_getElem (by omega)]) (by omega)
theorem laws_toStringS_ev (l : List ByteArray) (hl : l.length ≤ 17592186044416) : Ev (fun k => laws_toStringS.f k l) l := by
  have h1 : 0 ≤ (l.length : Int) := by omega
  have h2 : ((l.length : Int)).toNat ≤ 17592186044416 := by omega
  simp only [laws_toStringS.f, h1, h2, ↓reduceIte]
  exact laws_toStringS_l0 l (by omega) l.length 0 _ (by simp) (by simp) (by omega)
def szT : List ByteArray → Int → Int
  | [], m => m
  | s :: r, m => if m - (s.size : Int) < 0 then -1 else szT r (m - (s.size : Int))
theorem szT_le (l : List ByteArray) : ∀ m : Int, 0 ≤ m → szT l m ≤ m := by
  induction l with
  | nil => intro m h; exact Int.le_refl m
  | cons s r ih =>
    intro m h
    unfold szT
    by_cases c : m - (s.size : Int) < 0
    · rw [if_pos c]; omega
    · rw [if_neg c]
      have := ih (m - (s.size : Int)) (by omega)
      omega
theorem szT_sizes (l : List ByteArray) : ∀ m : Int, 0 ≤ szT l m → ∀ s ∈ l, (s.size : Int) ≤ m := by
  induction l with
  | nil => intro m h s hs; cases hs
  | cons x r ih =>
    intro m h s hs
    unfold szT at h
    by_cases c : m - (x.size : Int) < 0
    · rw [if_pos c] at h; omega
    · rw [if_neg c] at h
      rcases List.mem_cons.1 hs with rfl | hs
      · omega
      · have := ih _ h s hs
        omega
theorem laws_szStringS_l0 (l : List ByteArray) (hl : l.length ≤ 9223372036854775807) (hs : ∀ s ∈ l, s.size ≤ 9223372036854775807) (d : Nat) : ∀ (i : Nat) (m : Int), i + d = l.length → 0 ≤ m → m ≤ 1048576 → Ev (fun k => laws_szStringS.l0 k l m (i : Int)) (szT (l.drop i) m) := by
  induction d with
  | zero =>
    intro i m hi m0 m1
    refine Ev.succ ?_
    have h1 : ¬ ((i : Int) < (l.length : Int)) := by omega
    simp only [laws_szStringS.l0, h1, ↓reduceIte]
    exact Ev.some_ (by rw [List.drop_eq_nil_of_le (by omega)]; rfl)
  | succ d ih =>
    intro i m hi m0 m1
    refine Ev.succ ?_
    have h0 : i < l.length := by omega
    have h1 : (i : Int) < (l.length : Int) := by omega
    have h2 : (0 : Int) ≤ (i : Int) := by omega
    have hw : wrap64 ((i : Int) + 1) = ((i + 1 : Nat) : Int) := by rw [w64 (by omega) (by omega)]; rfl
    have hz := hs _ (List.getElem_mem h0)
    have hw2 : wrap64 (m - ((l[i]).size : Int)) = m - ((l[i]).size : Int) := w64 (by omega) (by omega)
    rw [drop_cons l i h0]
    simp only [laws_szStringS.l0, h1, h2, ↓reduceIte, hw, rdOf_nat ByteArray.empty l i h0, hw2, szT]
    by_cases c : m - ((l[i]).size : Int) < 0
    · simp only [c, ↓reduceIte]; exact Ev.now _
    · simp only [c, ↓reduceIte]
      exact ih (i + 1) _ (by omega) (by omega) (by omega)
def szTexts (l : List ByteArray) (m : Int) : Int := if m - (l.length : Int) < 0 then -1 else szT l (m - (l.length : Int))
theorem laws_szStringS_ev (l : List ByteArray) (m : Int) (hl : l.length ≤ 9223372036854775807) (hs : ∀ s ∈ l, s.size ≤ 9223372036854775807) (m0 : 0 ≤ m) (m1 : m ≤ 1048576) : Ev (fun k => laws_szStringS.f k l m) (szTexts l m) := by
  unfold laws_szStringS.f szTexts
  rw [w64 (n := m - (l.length : Int)) (by omega) (by omega)]
  by_cases c : m - (l.length : Int) < 0
  · simp only [c, ↓reduceIte]; exact Ev.now _
  · simp only [c, ↓reduceIte]
    exact laws_szStringS_l0 l hl hs l.length 0 _ (by omega) (by omega) (by omega)
theorem szTexts_of {l : List ByteArray} {m : Int} (h : ¬ szTexts l m < 0) : (l.length : Int) ≤ m ∧ szTexts l m ≤ m ∧ 0 ≤ szTexts l m := by
  have e : szTexts l m = if m - (l.length : Int) < 0 then -1 else szT l (m - (l.length : Int)) := rfl
  by_cases c : m - (l.length : Int) < 0
  · rw [if_pos c] at e; omega
  · rw [if_neg c] at e
    have := szT_le l (m - (l.length : Int)) (by omega)
    omega
theorem spec_IsKey_ev (s : ByteArray) (hs : s.size ≤ 9223372036854775807) : Ev (fun k => spec_IsKey.f k s) (isKey s) := by
  have h := Ev.up (L := fun k i => spec_IsKey.l0 k s (i : Int)) (r := fun i => ((bytesOf s).drop i).all okByte && decide (1 ≤ (s.size : Int) ∧ (s.size : Int) ≤ 12)) s.size ?_ ?_ 0 (Nat.zero_le _)
  · exact h
  · refine Ev.succ ?_
    have h1 : ¬ ((s.size : Int) < (s.size : Int)) := by omega
    simp only [spec_IsKey.l0, h1, ↓reduceIte, spec_l1In_eq, Option.bind_some]
    exact Ev.some_ (by rw [List.drop_of_length_le (by rw [bytesOf_length]; exact Nat.le_refl _)]; simp)
  · intro i hi ih
    refine Ev.succ ?_
    have h1 : (i : Int) < (s.size : Int) := by omega
    have h2 : (0 : Int) ≤ (i : Int) := by omega
    have hw : wrap64 ((i : Int) + 1) = ((i + 1 : Nat) : Int) := by rw [w64 (by omega) (by omega)]; rfl
    have hb := bt_nat s i hi
    simp only [spec_IsKey.l0, h1, h2, ↓reduceIte, hw]
    rw [drop_cons _ _ (by rw [bytesOf_length]; exact hi), List.all_cons, ← hb]
    by_cases c1 : bt s i < 33
    · simp only [c1, ↓reduceIte]
      exact Ev.some_ (by simp [okByte]; omega)
    · by_cases c2 : bt s i > 125
      · simp only [c1, c2, ↓reduceIte]
        exact Ev.some_ (by simp [okByte]; omega)
      · simp only [c1, c2, ↓reduceIte]
        have c3 : okByte (bt s i) = true := by simp [okByte]; omega
        rw [c3, Bool.true_and]
        exact ih
theorem impl_IsKey_ev (s : ByteArray) (hs : s.size ≤ 9223372036854775807) : Ev (fun k => impl_IsKey.f k s) (isKey s) := by
  have h := Ev.up (L := fun k i => impl_IsKey.l0 k s (s.size : Int) (i : Int)) (r := fun i => ((bytesOf s).drop i).all okByte && decide (1 ≤ (s.size : Int) ∧ (s.size : Int) ≤ 12)) s.size ?_ ?_ 0 (Nat.zero_le _)
  · exact h
  · refine Ev.succ ?_
    have h1 : ¬ ((s.size : Int) < (s.size : Int)) := by omega
    simp only [impl_IsKey.l0, h1, ↓reduceIte, impl_in_eq, Option.bind_some]
    exact Ev.some_ (by rw [List.drop_of_length_le (by rw [bytesOf_length]; exact Nat.le_refl _)]; simp)
  · intro i hi ih
    refine Ev.succ ?_
    have h1 : (i : Int) < (s.size : Int) := by omega
    have h2 : (0 : Int) ≤ (i : Int) := by omega
    have hw : wrap64 ((i : Int) + 1) = ((i + 1 : Nat) : Int) := by rw [w64 (by omega) (by omega)]; rfl
    have hb := bt_nat s i hi
    simp only [impl_IsKey.l0, h1, h2, ↓reduceIte, hw]
    rw [drop_cons _ _ (by rw [bytesOf_length]; exact hi), List.all_cons, ← hb]
    by_cases c1 : bt s i < 33
    · simp only [c1, ↓reduceIte]
      exact Ev.some_ (by simp [okByte]; omega)
    · by_cases c2 : bt s i > 125
      · simp only [c1, c2, ↓reduceIte]
        exact Ev.some_ (by simp [okByte]; omega)
      · simp only [c1, c2, ↓reduceIte]
        have c3 : okByte (bt s i) = true := by simp [okByte]; omega
        rw [c3, Bool.true_and]
        exact ih
def keyAt (l : List ByteArray) (i : Nat) : Bool := isKey (rdOf ByteArray.empty l (i : Int)) && (decide (i = 0) || Op.bytesLess (rdOf ByteArray.empty l ((i - 1 : Nat) : Int)).toList (rdOf ByteArray.empty l (i : Int)).toList)
def keysFrom (l : List ByteArray) (i : Nat) : Bool := (List.range' i (l.length - i)).all (keyAt l) && decide ((l.length : Int) ≤ 40)
def areKeys (l : List ByteArray) : Bool := keysFrom l 0
theorem keysFrom_end (l : List ByteArray) : keysFrom l l.length = decide ((l.length : Int) ≤ 40) := by simp [keysFrom]
theorem keysFrom_step (l : List ByteArray) (i : Nat) (h : i < l.length) : keysFrom l i = (keyAt l i && keysFrom l (i + 1)) := by
  unfold keysFrom
  rw [show l.length - i = (l.length - (i + 1)) + 1 from by omega, List.range'_succ, List.all_cons, Bool.and_assoc]
theorem areKeys_of {l : List ByteArray} (h : areKeys l = true) : l.length ≤ 40 ∧ ∀ s ∈ l, isKey s = true := by
  unfold areKeys keysFrom at h
  simp only [Bool.and_eq_true, decide_eq_true_eq, List.all_eq_true, List.mem_range'] at h
  refine ⟨by omega, fun s hs => ?_⟩
  obtain ⟨i, hi, rfl⟩ := List.getElem_of_mem hs
  have := h.1 i ⟨i, by omega, by omega⟩
  unfold keyAt at this
  simp only [Bool.and_eq_true] at this
  rw [rdOf_nat _ _ _ hi] at this
  exact this.1
theorem rdOf_size {l : List ByteArray} (h : ∀ s ∈ l, s.size ≤ 9223372036854775807) (i : Int) : (rdOf ByteArray.empty l i).size ≤ 9223372036854775807 := by
  unfold rdOf
  rw [List.getD_eq_getElem?_getD]
  cases e : l[i.toNat]? with
  | none => simp
  | some x => simpa using h x (List.mem_of_getElem? e)
theorem spec_biKeys_ev (l : List ByteArray) (hl : l.length ≤ 9223372036854775807) (hs : ∀ s ∈ l, s.size ≤ 9223372036854775807) : Ev (fun k => spec_biKeys.f k l) (areKeys l) := by
  refine Ev.up (L := fun k i => spec_biKeys.l0 k l l (l.length : Int) (i : Int)) (r := fun i => keysFrom l i) l.length ?_ ?_ 0 (Nat.zero_le _)
  · refine Ev.succ ?_
    have h1 : ¬ ((l.length : Int) < (l.length : Int)) := by omega
    simp only [spec_biKeys.l0, h1, ↓reduceIte, keysFrom_end]
    exact Ev.now _
  · intro i hi ih
    refine Ev.succ ?_
    have h1 : (i : Int) < (l.length : Int) := by omega
    have h2 : (0 : Int) ≤ (i : Int) := by omega
    have hw : wrap64 ((i : Int) + 1) = ((i + 1 : Nat) : Int) := by rw [w64 (by omega) (by omega)]; rfl
    simp only [spec_biKeys.l0, h1, h2, ↓reduceIte, hw]
    refine Ev.bind (spec_IsKey_ev _ (rdOf_size hs _)) ?_
    rw [keysFrom_step l i hi]
    unfold keyAt
    cases isKey (rdOf ByteArray.empty l (i : Int)) with
    | false => simp only [Bool.false_eq_true, ↓reduceIte, Bool.false_and]; exact Ev.now _
    | true =>
      simp only [↓reduceIte, Bool.true_and]
      by_cases c : i = 0
      · subst c
        simp only [Int.natCast_zero, decide_true, Bool.true_or, Bool.true_and, ↓reduceIte, gt_iff_lt, Int.lt_irrefl]
        exact ih
      · have h3 : (i : Int) > 0 := by omega
        have hw1 : wrap64 ((i : Int) - 1) = ((i - 1 : Nat) : Int) := by rw [w64 (by omega) (by omega)]; omega
        have h4 : (0 : Int) ≤ ((i - 1 : Nat) : Int) := by omega
        have h5 : ((i - 1 : Nat) : Int) < (l.length : Int) := by omega
        simp only [c, h3, hw1, h4, h5, ↓reduceIte, decide_false, Bool.false_or]
        cases Op.bytesLess (rdOf ByteArray.empty l ((i - 1 : Nat) : Int)).toList (rdOf ByteArray.empty l (i : Int)).toList with
        | false => simp only [Bool.false_eq_true, ↓reduceIte, Bool.false_and]; exact Ev.now _
        | true => simp only [↓reduceIte, Bool.true_and]; exact ih
theorem impl_AreKeys_ev (l : List ByteArray) (hl : l.length ≤ 9223372036854775807) (hs : ∀ s ∈ l, s.size ≤ 9223372036854775807) : Ev (fun k => impl_AreKeys.f k l) (areKeys l) := by
  refine Ev.up (L := fun k i => impl_AreKeys.l0 k l l (l.length : Int) (i : Int)) (r := fun i => keysFrom l i) l.length ?_ ?_ 0 (Nat.zero_le _)
  · refine Ev.succ ?_
    have h1 : ¬ ((l.length : Int) < (l.length : Int)) := by omega
    simp only [impl_AreKeys.l0, h1, ↓reduceIte, keysFrom_end]
    exact Ev.now _
  · intro i hi ih
    refine Ev.succ ?_
    have h1 : (i : Int) < (l.length : Int) := by omega
    have h2 : (0 : Int) ≤ (i : Int) := by omega
    have hw : wrap64 ((i : Int) + 1) = ((i + 1 : Nat) : Int) := by rw [w64 (by omega) (by omega)]; rfl
    simp only [impl_AreKeys.l0, h1, h2, ↓reduceIte, hw]
    refine Ev.bind (impl_IsKey_ev _ (rdOf_size hs _)) ?_
    rw [keysFrom_step l i hi]
    unfold keyAt
    cases isKey (rdOf ByteArray.empty l (i : Int)) with
    | false => simp only [Bool.false_eq_true, ↓reduceIte, Bool.false_and]; exact Ev.now _
    | true =>
      simp only [↓reduceIte, Bool.true_and]
      by_cases c : i = 0
      · subst c
        simp only [Int.natCast_zero, decide_true, Bool.true_or, Bool.true_and, ↓reduceIte, gt_iff_lt, Int.lt_irrefl]
        exact ih
      · have h3 : (i : Int) > 0 := by omega
        have hw1 : wrap64 ((i : Int) - 1) = ((i - 1 : Nat) : Int) := by rw [w64 (by omega) (by omega)]; omega
        have h4 : (0 : Int) ≤ ((i - 1 : Nat) : Int) := by omega
        have h5 : ((i - 1 : Nat) : Int) < (l.length : Int) := by omega
        simp only [c, h3, hw1, h4, h5, ↓reduceIte, decide_false, Bool.false_or]
        cases Op.bytesLess (rdOf ByteArray.empty l ((i - 1 : Nat) : Int)).toList (rdOf ByteArray.empty l (i : Int)).toList with
        | false => simp only [Bool.false_eq_true, ↓reduceIte, Bool.false_and]; exact Ev.now _
        | true => simp only [↓reduceIte, Bool.true_and]; exact ih
theorem mem_take_succ {l : List Int} {i : Nat} (h : i < l.length) (x : Int) : x ∈ l.take (i + 1) ↔ x ∈ l.take i ∨ x = rd l (i : Int) := by
  rw [List.take_succ_eq_append_getElem h, rd_nat l i h, List.mem_append, List.mem_singleton]
theorem spec_l1Has_ev (l : List Int) (x : Int) (hl : l.length ≤ 9223372036854775807) : Ev (fun k => spec_l1Has.f k l x) (decide (x ∈ l)) := by
  suffices h : ∀ d i : Nat, i + d = l.length → x ∉ l.take i → Ev (fun k => spec_l1Has.l0 k x l (l.length : Int) (i : Int)) (decide (x ∈ l)) from h l.length 0 (by omega) (by simp)
  intro d
  induction d with
  | zero =>
    intro i hi hn
    refine Ev.succ ?_
    have h1 : ¬ ((i : Int) < (l.length : Int)) := by omega
    rw [List.take_of_length_le (by omega)] at hn
    simp only [spec_l1Has.l0, h1, ↓reduceIte, hn, decide_false]
    exact Ev.now _
  | succ d ih =>
    intro i hi hn
    refine Ev.succ ?_
    have h1 : (i : Int) < (l.length : Int) := by omega
    have h2 : (0 : Int) ≤ (i : Int) := by omega
    have hw : wrap64 ((i : Int) + 1) = ((i + 1 : Nat) : Int) := by rw [w64 (by omega) (by omega)]; rfl
    simp only [spec_l1Has.l0, h1, h2, ↓reduceIte, hw]
    by_cases c : rd l (i : Int) = x
    · simp only [c, ↓reduceIte]
      have : x ∈ l := by rw [← c, rd_nat l i (by omega)]; exact List.getElem_mem _
      exact Ev.some_ (by simp [this])
    · simp only [c, ↓reduceIte]
      exact ih (i + 1) (by omega) (by rw [mem_take_succ (by omega)]; rintro (h | h); exact hn h; exact c h.symm)
theorem nodup_map_on {α β : Type} {f : α → β} {P : List α} (h : ∀ x ∈ P, ∀ y ∈ P, f x = f y → x = y) : (P.map f).Nodup ↔ P.Nodup := by
  unfold List.Nodup
  rw [List.pairwise_map]
  constructor
  · intro hp
    exact hp.imp_of_mem (fun _ _ hne e => hne (by rw [e]))
  · intro hp
    exact hp.imp_of_mem (fun hx hy hne e => hne (h _ hx _ hy e))

def placesOf (a b : Int) (l : List Int) (ks : List ByteArray) : List Int := ks.map (placeOf a b l)
theorem placesOf_length (a b : Int) (l : List Int) (ks : List ByteArray) : (placesOf a b l ks).length = ks.length := by simp [placesOf]
theorem placesOf_snoc (a b : Int) (l : List Int) (ks : List ByteArray) (i : Nat) (h : i < ks.length) : placesOf a b l (ks.take (i + 1)) = placesOf a b l (ks.take i) ++ [placeOf a b l ks[i]] := by
  unfold placesOf
  rw [List.take_succ_eq_append_getElem h, List.map_append]
  rfl
def usedAt (l : List Int) (p : Int) : Bool := usedM (rd l p)
def fitsV (l : List Int) (P : List Int) (n : Nat) : Bool := P.all (usedAt l) && (decide P.Nodup && ((rankN l l.length : Int) == (n : Int)))
theorem all_take_snoc {P : List Int} {q : Int} {p : Int → Bool} : (P ++ [q]).all p = (P.all p && p q) := by simp
theorem placesOf_prefix (a b : Int) (l : List Int) (ks : List ByteArray) (i : Nat) : placesOf a b l (ks.take i) <+: placesOf a b l ks := by
  unfold placesOf
  exact (List.take_prefix i ks).map _
theorem spec_pfFits_ev (a b : Int) (l : List Int) (ks : List ByteArray) (h : goodPeeled a b l = true) (hk : ks.length ≤ 40) (hs : ∀ s ∈ ks, s.size ≤ 9223372036854775807) : Ev (fun k => spec_pfFits.f k a b l ks) (fitsV l (placesOf a b l ks) ks.length) := by
  obtain ⟨_, ⟨b0, b1⟩, hl, hx⟩ := goodPeeled_of h
  suffices H : ∀ d i : Nat, i + d = ks.length → (placesOf a b l (ks.take i)).all (usedAt l) = true → (placesOf a b l (ks.take i)).Nodup → Ev (fun k => spec_pfFits.l0 k ks (placesOf a b l (ks.take i)) ks (ks.length : Int) (i : Int) a b l) (fitsV l (placesOf a b l ks) ks.length) from H ks.length 0 (by omega) (by simp [placesOf]) (by simp [placesOf])
  intro d
  induction d with
  | zero =>
    intro i hi hu hn
    refine Ev.succ ?_
    have h1 : ¬ ((i : Int) < (ks.length : Int)) := by omega
    rw [List.take_of_length_le (by omega)] at hu hn
    simp only [spec_pfFits.l0, h1, ↓reduceIte]
    refine Ev.bind (spec_pfRank_ev a b l (by omega) _ (by omega) (by omega)) ?_
    unfold fitsV
    simp only [hu, hn, decide_true, Bool.true_and, Int.toNat_natCast]
    exact Ev.now _
  | succ d ih =>
    intro i hi hu hn
    refine Ev.succ ?_
    have h0 : i < ks.length := by omega
    have h1 : (i : Int) < (ks.length : Int) := by omega
    have h2 : (0 : Int) ≤ (i : Int) := by omega
    have hw : wrap64 ((i : Int) + 1) = ((i + 1 : Nat) : Int) := by rw [w64 (by omega) (by omega)]; rfl
    have hr := placeOf_range (a := a) (b := b) (l := l) (s := ks[i]) (by omega)
    have h3 : placeOf a b l ks[i] < (l.length : Int) := by omega
    have hlen := placesOf_length a b l (ks.take i)
    have hlt := List.length_take_le i ks
    have h4 : (placesOf a b l (ks.take i)).length < 17592186044416 := by omega
    have hsn := placesOf_snoc a b l ks i h0
    have hpre := placesOf_prefix a b l ks (i + 1)
    rw [hsn] at hpre
    simp only [spec_pfFits.l0, h1, h2, ↓reduceIte, hw, rdOf_nat ByteArray.empty ks i h0]
    refine Ev.bind (spec_pfPlace_ev a b l _ (hs _ (List.getElem_mem h0)) h) ?_
    simp only [hr.1, h3, ↓reduceIte]
    by_cases c : rd l (placeOf a b l ks[i]) = 3
    · simp only [c, ↓reduceIte]
      refine Ev.some_ ?_
      have hno : (placesOf a b l ks).all (usedAt l) = false := by
        rw [List.all_eq_false]
        refine ⟨placeOf a b l ks[i], hpre.subset (by simp), ?_⟩
        unfold usedAt usedM
        simp [c]
      unfold fitsV
      rw [hno, Bool.false_and]
    · simp only [c, ↓reduceIte]
      refine Ev.bind (spec_l1Has_ev _ _ (by omega)) ?_
      by_cases g : placeOf a b l ks[i] ∈ placesOf a b l (ks.take i)
      · simp only [g, decide_true, ↓reduceIte]
        refine Ev.some_ ?_
        have hno : ¬ (placesOf a b l ks).Nodup := by
          intro hN
          have h5 := hN.sublist hpre.sublist
          rw [List.nodup_append] at h5
          exact h5.2.2 _ g _ (by simp) rfl
        unfold fitsV
        simp only [hno, decide_false, Bool.false_and, Bool.and_false]
      · simp only [g, decide_false, Bool.false_eq_true, h4, ↓reduceIte]
        have e := ih (i + 1) (by omega)
        rw [hsn] at e
        refine e ?_ ?_
        · rw [all_take_snoc, hu, Bool.true_and]
          unfold usedAt usedM
          simp [c]
        · rw [List.nodup_append]
          refine ⟨hn, by simp, ?_⟩
          intro x hx' y hy exy
          simp at hy
          subst hy
          exact g (exy ▸ hx')
def rankI (l : List Int) (p : Int) : Int := (rankN l p.toNat : Int)
theorem impl_index_ev (a b : Int) (l : List Int) (s : ByteArray) (hs : s.size ≤ 9223372036854775807) (h : goodPeeled a b l = true) : Ev (fun k => impl_Peeled_index_in30_0.f k a b l s) (if usedAt l (placeOf a b l s) = true then (rankI l (placeOf a b l s), true) else (0, false)) := by
  obtain ⟨_, ⟨b0, b1⟩, hl, hx⟩ := goodPeeled_of h
  have hr := placeOf_range (a := a) (b := b) (l := l) (s := s) (by omega)
  have h3 : placeOf a b l s < (l.length : Int) := by omega
  unfold impl_Peeled_index_in30_0.f
  refine Ev.bind (impl_Peeled_place_in30_0_ev a b l s hs h) ?_
  simp only [hr.1, h3, ↓reduceIte]
  by_cases c : rd l (placeOf a b l s) = 3
  · have hu : usedAt l (placeOf a b l s) = false := by unfold usedAt usedM; simp [c]
    simp only [c, hu, Bool.false_eq_true, ↓reduceIte]
    exact Ev.now _
  · have hu : usedAt l (placeOf a b l s) = true := by unfold usedAt usedM; simp [c]
    simp only [c, hu, ↓reduceIte]
    exact Ev.bind (impl_used_ev a b l (by omega) _ hr.1 (by omega)) (Ev.now _)
theorem ranks_nodup {a b : Int} {l : List Int} {ks : List ByteArray} (hb : 0 < b) (hl : (l.length : Int) = 3 * b) (hu : (placesOf a b l ks).all (usedAt l) = true) : ((placesOf a b l ks).map (rankI l)).Nodup ↔ (placesOf a b l ks).Nodup := by
  have hin : ∀ x ∈ placesOf a b l ks, 0 ≤ x ∧ x < (l.length : Int) := by
    intro x hx
    unfold placesOf at hx
    obtain ⟨s, _, rfl⟩ := List.mem_map.1 hx
    have := placeOf_range (a := a) (b := b) (l := l) (s := s) hb
    omega
  rw [List.all_eq_true] at hu
  refine nodup_map_on ?_
  intro x hx y hy e
  exact rank_inj (hin x hx).1 (hin y hy).1 (hin x hx).2 (hin y hy).2 (hu x hx) (hu y hy) e
theorem impl_isFor_ev (a b : Int) (l : List Int) (ks : List ByteArray) (h : goodPeeled a b l = true) (hk : ks.length ≤ 40) (hs : ∀ s ∈ ks, s.size ≤ 9223372036854775807) : Ev (fun k => impl_Peeled_isFor_in30_0.f k a b l ks) (fitsV l (placesOf a b l ks) ks.length) := by
  obtain ⟨_, ⟨b0, b1⟩, hl, hx⟩ := goodPeeled_of h
  suffices H : ∀ d i : Nat, i + d = ks.length → (placesOf a b l (ks.take i)).all (usedAt l) = true → Ev (fun k => impl_Peeled_isFor_in30_0.l0 k ks ((placesOf a b l (ks.take i)).map (rankI l)) ks (ks.length : Int) (i : Int) a b l) (fitsV l (placesOf a b l ks) ks.length) from H ks.length 0 (by omega) (by simp [placesOf])
  intro d
  induction d with
  | zero =>
    intro i hi hu
    refine Ev.succ ?_
    have h1 : ¬ ((i : Int) < (ks.length : Int)) := by omega
    rw [List.take_of_length_le (by omega)] at hu
    rw [List.take_of_length_le (by omega)]
    have hlen := placesOf_length a b l ks
    have hd : impl_distinct.f ((placesOf a b l ks).map (rankI l)) = some (decide ((placesOf a b l ks).map (rankI l)).Nodup) := by
      unfold impl_distinct.f
      rw [if_pos (by rw [List.length_map]; omega), if_pos ?_]
      simp only [List.all_eq_true, decide_eq_true_eq]
      intro x hx'
      obtain ⟨p, hp, rfl⟩ := List.mem_map.1 hx'
      unfold rankI
      have := rank_le l p.toNat
      unfold placesOf at hp
      obtain ⟨s, _, rfl⟩ := List.mem_map.1 hp
      have := placeOf_range (a := a) (b := b) (l := l) (s := s) (by omega)
      omega
    simp only [impl_Peeled_isFor_in30_0.l0, h1, ↓reduceIte, hd, Option.bind_some, ranks_nodup (show 0 < b by omega) hl hu]
    unfold fitsV
    by_cases g : (placesOf a b l ks).Nodup
    · simp only [g, decide_true, ↓reduceIte, hu, Bool.true_and]
      exact Ev.bind (impl_used_ev a b l (by omega) _ (by omega) (by omega)) (Ev.now _)
    · simp only [g, decide_false, Bool.false_eq_true, ↓reduceIte, Bool.false_and, Bool.and_false]
      exact Ev.now _
  | succ d ih =>
    intro i hi hu
    refine Ev.succ ?_
    have h0 : i < ks.length := by omega
    have h1 : (i : Int) < (ks.length : Int) := by omega
    have h2 : (0 : Int) ≤ (i : Int) := by omega
    have hw : wrap64 ((i : Int) + 1) = ((i + 1 : Nat) : Int) := by rw [w64 (by omega) (by omega)]; rfl
    have hlen := placesOf_length a b l (ks.take i)
    have hlt := List.length_take_le i ks
    have h4 : ((placesOf a b l (ks.take i)).map (rankI l)).length < 17592186044416 := by rw [List.length_map]; omega
    have hsn := placesOf_snoc a b l ks i h0
    have hpre := placesOf_prefix a b l ks (i + 1)
    rw [hsn] at hpre
    simp only [impl_Peeled_isFor_in30_0.l0, h1, h2, ↓reduceIte, hw, rdOf_nat ByteArray.empty ks i h0]
    refine Ev.bind (impl_index_ev a b l _ (hs _ (List.getElem_mem h0)) h) ?_
    cases hc : usedAt l (placeOf a b l ks[i]) with
    | false =>
      simp only [Bool.false_eq_true, ↓reduceIte]
      refine Ev.some_ ?_
      have hno : (placesOf a b l ks).all (usedAt l) = false := by
        rw [List.all_eq_false]
        exact ⟨placeOf a b l ks[i], hpre.subset (by simp), by simp [hc]⟩
      unfold fitsV
      rw [hno, Bool.false_and]
    | true =>
      simp only [h4, ↓reduceIte]
      have e := ih (i + 1) (by omega)
      rw [hsn, List.map_append] at e
      exact e (by rw [all_take_snoc, hu, hc]; rfl)
def peeledForV (a b : Int) (l : List Int) (ks : List ByteArray) : Bool × Bool := if goodPeeled a b l && areKeys ks then (fitsV l (placesOf a b l ks) ks.length, true) else (false, false)
theorem spec_IsPeeledFor_ev (a b : Int) (l : List Int) (ks : List ByteArray) (hl : l.length ≤ 9223372036854775807) (hk : ks.length ≤ 9223372036854775807) (hs : ∀ s ∈ ks, s.size ≤ 9223372036854775807) : Ev (fun k => spec_IsPeeledFor.f k a b l ks) (peeledForV a b l ks) := by
  unfold spec_IsPeeledFor.f peeledForV
  refine Ev.bind (spec_pfPeeled_ev a b l hl) ?_
  cases h : goodPeeled a b l with
  | false => simp only [Bool.false_eq_true, ↓reduceIte, Bool.false_and]; exact Ev.now _
  | true =>
    simp only [↓reduceIte, Bool.true_and]
    refine Ev.bind (spec_biKeys_ev ks hk hs) ?_
    cases hks : areKeys ks with
    | false => simp only [Bool.false_eq_true, ↓reduceIte]; exact Ev.now _
    | true =>
      simp only [↓reduceIte]
      exact Ev.bind (spec_pfFits_ev a b l ks h (areKeys_of hks).1 hs) (Ev.now _)
theorem impl_IsPeeledFor_ev (a b : Int) (l : List Int) (ks : List ByteArray) (hl : l.length ≤ 9223372036854775807) (hk : ks.length ≤ 9223372036854775807) (hs : ∀ s ∈ ks, s.size ≤ 9223372036854775807) : Ev (fun k => impl_IsPeeledFor.f k a b l ks) (peeledForV a b l ks) := by
  unfold impl_IsPeeledFor.f peeledForV
  refine Ev.bind (impl_IsPeeled_ev a b l hl) ?_
  cases h : goodPeeled a b l with
  | false => simp only [Bool.false_eq_true, ↓reduceIte, Bool.false_and]; exact Ev.now _
  | true =>
    simp only [↓reduceIte, Bool.true_and]
    refine Ev.bind (impl_AreKeys_ev ks hk hs) ?_
    cases hks : areKeys ks with
    | false => simp only [Bool.false_eq_true, ↓reduceIte]; exact Ev.now _
    | true =>
      simp only [↓reduceIte]
      exact Ev.bind (impl_isFor_ev a b l ks h (areKeys_of hks).1 hs) (Ev.now _)
theorem FnExactIsPeeledFor : ∀ (a0_0 : Int) (a0_1 : Int) (l0_2 : List Int) (l1 : List ByteArray), ((Lit.int .i64 a0_0).wf = true) → ((Lit.int .i64 a0_1).wf = true) → (l0_2.length ≤ maxLen ∧ ∀ l0_2' ∈ l0_2, (Lit.int .i64 l0_2').wf = true) → (l1.length ≤ maxLen ∧ ∀ l1' ∈ l1, l1'.size ≤ maxLen) → ∃ k, laws_FnExactIsPeeledFor.f k a0_0 a0_1 l0_2 l1 = some true := by
  intro a b l ks h0 h1 hl hk
  refine Ev.rounds ?_
  have hl1 : l.length ≤ 9223372036854775807 := by have := hl.1; unfold maxLen at this; exact this
  have hk1 : ks.length ≤ 9223372036854775807 := by have := hk.1; unfold maxLen at this; exact this
  have hk2 : ∀ s ∈ ks, s.size ≤ 9223372036854775807 := by have := hk.2; unfold maxLen at this; exact this
  unfold laws_FnExactIsPeeledFor.f
  simp only [laws_szPeeled_eq a b l 1048576 (by decide) (by decide) hl1, Option.bind_some]
  by_cases e : (l.length : Int) ≤ 1048576
  · simp only [e, ↓reduceIte, show ¬ (1048576 - (l.length : Int) < 0) from by omega]
    refine Ev.bind (laws_szStringS_ev ks _ hk1 hk2 (by omega) (by omega)) ?_
    by_cases z : szTexts ks (1048576 - (l.length : Int)) < 0
    · simp only [z, ↓reduceIte]; exact Ev.now _
    · simp only [z, ↓reduceIte]
      have zz := szTexts_of z
      refine Ev.bind (laws_toPeeled_ev a b l (by omega)) ?_
      refine Ev.bind (laws_toStringS_ev ks (by omega)) ?_
      refine Ev.bind (spec_IsPeeledFor_ev a b l ks hl1 hk1 hk2) ?_
      refine Ev.bind (laws_toPeeled_ev a b l (by omega)) ?_
      refine Ev.bind (laws_toStringS_ev ks (by omega)) ?_
      refine Ev.bind (impl_IsPeeledFor_ev a b l ks hl1 hk1 hk2) ?_
      simp only [bne_self_eq_false, Bool.false_eq_true, ↓reduceIte]
      refine Ev.succ ?_
      simp only [laws_FnExactIsPeeledFor.j0, Bool.false_eq_true, ↓reduceIte]
      refine Ev.bind (laws_toPeeled_ev a b l (by omega)) ?_
      refine Ev.bind (laws_eqPeeled_self a b l hl1) ?_
      simp only [↓reduceIte]
      refine Ev.bind (laws_toStringS_ev ks (by omega)) ?_
      refine Ev.bind (laws_eqStringS_self ks hk1) ?_
      simp only [↓reduceIte]
      exact Ev.now _
  · simp only [e, ↓reduceIte, show ((-1 : Int) < 0) from by decide]
    exact Ev.now _

end Go.Proofs.Ytpadboijploheaa.Pure
