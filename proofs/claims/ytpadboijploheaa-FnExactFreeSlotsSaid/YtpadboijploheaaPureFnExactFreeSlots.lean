/- The program's FreeSlots returns what the reference's returns, for all arguments. -/
import Derived.Test.YtpadboijploheaaPFnExactFreeSlotsx7
import Derived.Test.YtpadboijploheaaBase
namespace Go.Proofs.Ytpadboijploheaa.Pure
open Go.RowKit Go.Proofs.Ytpadboijploheaa.PFnExactFreeSlots Go.Proofs.YtpadboijploheaaW.PrintWords Go.Proofs.YtpadboijploheaaW.PrintLast Go.Proofs.Ytpadboijploheaa.Base
set_option linter.unusedVariables false
set_option linter.unusedSimpArgs false

theorem impl_in_eq (a b c : Int) : impl_in.f a b c = some (decide (b ≤ a ∧ a ≤ c)) := by
  unfold impl_in.f
  by_cases h : b ≤ a <;> simp [h]
theorem impl_IsDisplacedc1_eq (x : Int) : impl_IsDisplacedc1.f x = some (!inB 0 999 x) := by
  simp only [impl_IsDisplacedc1.f, impl_in_eq, Option.bind_some, inB]
theorem slices_IndexFunc_int_int_impl_IsDisplacedc1_ev (xs : List Int)  (hx : xs.length ≤ 9223372036854775807) : Ev (fun k => slices_IndexFunc_int_int_impl_IsDisplacedc1.f k xs ) (idxV (fun x => !inB 0 999 x) xs 0) := by
  refine Ev.up (L := fun k i => slices_IndexFunc_int_int_impl_IsDisplacedc1.l0 k xs (xs.length : Int) (i : Int) ) (r := fun i => idxV (fun x => !inB 0 999 x) xs i) xs.length ?_ ?_ 0 (Nat.zero_le _)
  · refine Ev.succ ?_
    have h1 : ¬ ((xs.length : Int) < (xs.length : Int)) := by omega
    simp only [slices_IndexFunc_int_int_impl_IsDisplacedc1.l0, h1, ↓reduceIte]
    exact Ev.some_ (idxV_end _ _).symm
  · intro i hi ih
    refine Ev.succ ?_
    have h1 : (i : Int) < (xs.length : Int) := by omega
    have h2 : (0 : Int) ≤ (i : Int) := by omega
    have hw : wrap64 ((i : Int) + 1) = ((i + 1 : Nat) : Int) := by rw [w64 (by omega) (by omega)]; rfl
    have e := rd_nat xs i hi
    simp only [slices_IndexFunc_int_int_impl_IsDisplacedc1.l0, h1, h2, ↓reduceIte, hw]
    simp only [impl_IsDisplacedc1_eq (rd xs (i : Int))  , Option.bind_some]
    cases hp : (!inB 0 999 (rd xs (i : Int))) with
    | true =>
      simp only [↓reduceIte]
      exact Ev.some_ (idxV_hit hi (by rw [← e]; exact hp)).symm
    | false =>
      simp only [Bool.false_eq_true, ↓reduceIte]
      rw [idxV_miss hi (by rw [← e]; exact hp)]
      exact ih
theorem slices_ContainsFunc_int_int_impl_IsDisplacedc1_ev (xs : List Int)  (hx : xs.length ≤ 9223372036854775807) : Ev (fun k => slices_ContainsFunc_int_int_impl_IsDisplacedc1.f k xs ) (xs.any (fun x => !inB 0 999 x)) := by
  unfold slices_ContainsFunc_int_int_impl_IsDisplacedc1.f
  refine Ev.bind (slices_IndexFunc_int_int_impl_IsDisplacedc1_ev xs  hx ) ?_
  rw [idxV_ge]
  exact Ev.now _
theorem spec_l1In_eq (a b c : Int) : spec_l1In.f a b c = some (decide (b ≤ a ∧ a ≤ c)) := by
  unfold spec_l1In.f
  by_cases h : b ≤ a <;> simp [h]
theorem spec_l1All_ev (l : List Int) (a b : Int) (hl : l.length ≤ 9223372036854775807) : Ev (fun k => spec_l1All.f k l a b) (l.all (inB a b)) := by
  have h := Ev.up (L := fun k i => spec_l1All.l0 k a b l (l.length : Int) (i : Int)) (r := fun i => (l.drop i).all (inB a b)) l.length ?_ ?_ 0 (Nat.zero_le _)
  · exact h
  · refine Ev.succ ?_
    have h1 : ¬ ((l.length : Int) < (l.length : Int)) := by omega
    simp only [spec_l1All.l0, h1, ↓reduceIte]
    exact Ev.some_ (by simp)
  · intro i hi ih
    refine Ev.succ ?_
    have h1 : (i : Int) < (l.length : Int) := by omega
    have h2 : (0 : Int) ≤ (i : Int) := by omega
    have hw : wrap64 ((i : Int) + 1) = ((i + 1 : Nat) : Int) := by rw [w64 (by omega) (by omega)]; rfl
    simp only [spec_l1All.l0, h1, h2, ↓reduceIte, hw, spec_l1In_eq, Option.bind_some]
    rw [drop_cons _ _ hi, List.all_cons, ← rd_nat _ _ hi]
    by_cases c : a ≤ rd l (i : Int) ∧ rd l (i : Int) ≤ b
    · have c2 : inB a b (rd l (i : Int)) = true := by simp [inB, c]
      simp only [c, and_self, decide_true, ↓reduceIte, c2, Bool.true_and]
      exact ih
    · have c2 : inB a b (rd l (i : Int)) = false := by simp [inB]; omega
      simp only [c, decide_false, Bool.false_eq_true, ↓reduceIte, c2, Bool.false_and]
      exact Ev.now _
theorem impl_isSeed_eq (a : Int) : impl_isSeed.f a = some (decide (0 ≤ a ∧ a ≤ 9999)) := by
  simp only [impl_isSeed.f, impl_in_eq, Option.bind_some]
theorem spec_pow (h : Int) (h0 : 0 ≤ h) (h1 : h < 65521) : Int.tmod (wrap64 ((Int.tmod (wrap64 ((Int.tmod (wrap64 ((Int.tmod (wrap64 ((Int.tmod (wrap64 (h * h)) 65521) * (Int.tmod (wrap64 (h * h)) 65521))) 65521) * h)) 65521) * (Int.tmod (wrap64 ((Int.tmod (wrap64 ((Int.tmod (wrap64 (h * h)) 65521) * (Int.tmod (wrap64 (h * h)) 65521))) 65521) * h)) 65521))) 65521) * h)) 65521 = h ^ 11 % 65521 := by
  have step : ∀ a b : Int, 0 ≤ a → a < 65521 → 0 ≤ b → b < 65521 → Int.tmod (wrap64 (a * b)) 65521 = a * b % 65521 := by
    intro a b ha ha' hb hb'
    obtain ⟨p0, p1⟩ := prod_range ha ha' hb hb'
    rw [w64 (by omega) (by omega), tmod_pos p0]
  have rng : ∀ x : Int, 0 ≤ x % 65521 ∧ x % 65521 < 65521 := fun x => ⟨Int.emod_nonneg _ (by decide), Int.emod_lt_of_pos _ (by decide)⟩
  rw [step h h h0 h1 h0 h1]
  rw [step _ _ (rng _).1 (rng _).2 (rng _).1 (rng _).2]
  rw [step _ _ (rng _).1 (rng _).2 h0 h1]
  rw [step _ _ (rng _).1 (rng _).2 (rng _).1 (rng _).2]
  rw [step _ _ (rng _).1 (rng _).2 h0 h1]
  simp only [mul_mod_l, mul_mod_r]
  congr 1
  simp only [Int.pow_succ, Int.pow_zero, Int.one_mul, Int.mul_assoc]
theorem spec_biHash_l0 (s : ByteArray) (hs : s.size ≤ 9223372036854775807) (d : Nat) : ∀ (i : Nat) (h : Int), i + d = s.size → 0 ≤ h → h < 65521 → Ev (fun k => spec_biHash.l0 k s h (i : Int)) (hashFrom h ((bytesOf s).drop i)) := by
  induction d with
  | zero =>
    intro i h hi h0 h1
    refine Ev.succ ?_
    have c1 : ¬ ((i : Int) < (s.size : Int)) := by omega
    simp only [spec_biHash.l0, c1, ↓reduceIte]
    rw [spec_pow h h0 h1]
    exact Ev.some_ (by rw [List.drop_of_length_le (by rw [bytesOf_length]; omega)]; rfl)
  | succ d ih =>
    intro i h hi h0 h1
    refine Ev.succ ?_
    have c1 : (i : Int) < (s.size : Int) := by omega
    have c2 : (0 : Int) ≤ (i : Int) := by omega
    have hw : wrap64 ((i : Int) + 1) = ((i + 1 : Nat) : Int) := by rw [w64 (by omega) (by omega)]; rfl
    have hb := bt_nat s i (by omega)
    have hr := bt_range s i
    have e : Int.tmod (wrap64 ((wrap64 (263 * h)) + (wrap64 (bt s i)))) 65521 = hstep h (bt s i) := by
      rw [w64 (n := 263 * h) (by omega) (by omega), w64 (n := bt s i) (by omega) (by omega), w64 (by omega) (by omega), tmod_pos (by omega)]
      rfl
    simp only [spec_biHash.l0, c1, c2, ↓reduceIte, hw, e]
    rw [drop_cons _ _ (by rw [bytesOf_length]; omega), ← hb]
    exact ih (i + 1) (hstep h (bt s i)) (by omega) (Int.emod_nonneg _ (by decide)) (Int.emod_lt_of_pos _ (by decide))
theorem spec_biHash_ev (a b : Int) (s : ByteArray) (hs : s.size ≤ 9223372036854775807) (ha0 : 0 ≤ a) (ha1 : a ≤ 9999) (hb0 : 0 ≤ b) (hb1 : b ≤ 9) : Ev (fun k => spec_biHash.f k a b s) (hashV a b s) := by
  have e : Int.tmod (wrap64 ((wrap64 ((wrap64 (31 * a)) + (wrap64 (977 * b)))) + 7)) 65521 = hash0 a b := by
    rw [w64 (n := 31 * a) (by omega) (by omega), w64 (n := 977 * b) (by omega) (by omega), w64 (n := 31 * a + 977 * b) (by omega) (by omega), w64 (by omega) (by omega), tmod_pos (by omega)]
    rfl
  unfold spec_biHash.f
  simp only [e]
  exact spec_biHash_l0 s hs s.size 0 (hash0 a b) (by omega) (Int.emod_nonneg _ (by decide)) (Int.emod_lt_of_pos _ (by decide))
theorem spec_biPlace_ev (a b : Int) (s : ByteArray) (n : Int) (hs : s.size ≤ 9223372036854775807) (ha0 : 0 ≤ a) (ha1 : a ≤ 9999) (hb0 : 0 ≤ b) (hb1 : b ≤ 9) (hn0 : 0 ≤ n) (hn1 : n ≤ 65521) : Ev (fun k => spec_biPlace.f k a b s n) (placeV a b s n) := by
  have hr := hash_range a b s
  have p0 : 0 ≤ hashV a b s * n := Int.mul_nonneg hr.1 hn0
  have p1 : hashV a b s * n ≤ 4293001441 := by
    have h1 : hashV a b s * n ≤ hashV a b s * 65521 := Int.mul_le_mul_of_nonneg_left (by omega) hr.1
    omega
  unfold spec_biPlace.f
  refine Ev.bind (spec_biHash_ev a b s hs ha0 ha1 hb0 hb1) ?_
  refine Ev.some_ ?_
  have h2 : hashV a b s * n / 65521 ≤ hashV a b s * n := Int.ediv_le_self _ p0
  have h3 : 0 ≤ hashV a b s * n / 65521 := Int.ediv_nonneg p0 (by decide)
  rw [w64 (n := hashV a b s * n) (by omega) (by omega), tdiv_pos p0, w64 (by omega) (by omega)]
  rfl
theorem impl_hash_l1 (h : Int) (h0 : 0 ≤ h) (h1 : h < 65521) (d : Nat) : ∀ (i : Nat) (o : Int), i + d = 11 → o = h ^ i % 65521 → Ev (fun k => impl_hash.l1 k h o (i : Int)) (h ^ 11 % 65521) := by
  induction d with
  | zero =>
    intro i o hi ho
    obtain rfl : i = 11 := by omega
    refine Ev.succ ?_
    simp only [impl_hash.l1]
    exact Ev.some_ ho
  | succ d ih =>
    intro i o hi ho
    refine Ev.succ ?_
    have c1 : (i : Int) < 11 := by omega
    have hw : wrap64 ((i : Int) + 1) = ((i + 1 : Nat) : Int) := by rw [w64 (by omega) (by omega)]; rfl
    have r : 0 ≤ o ∧ o < 65521 := by rw [ho]; exact ⟨Int.emod_nonneg _ (by decide), Int.emod_lt_of_pos _ (by decide)⟩
    obtain ⟨p0, p1⟩ := prod_range r.1 r.2 h0 h1
    have e : Int.tmod (wrap64 (o * h)) 65521 = h ^ (i + 1) % 65521 := by
      rw [w64 (by omega) (by omega), tmod_pos p0, ho, mul_mod_l, Int.pow_succ]
    simp only [impl_hash.l1, c1, ↓reduceIte, hw]
    exact ih (i + 1) _ (by omega) e
theorem impl_hash_l0 (s : ByteArray) (hs : s.size ≤ 9223372036854775807) (d : Nat) : ∀ (i : Nat) (h : Int), i + d = s.size → 0 ≤ h → h < 65521 → Ev (fun k => impl_hash.l0 k s h (s.size : Int) (i : Int)) (hashFrom h ((bytesOf s).drop i)) := by
  induction d with
  | zero =>
    intro i h hi h0 h1
    refine Ev.succ ?_
    have c1 : ¬ ((i : Int) < (s.size : Int)) := by omega
    simp only [impl_hash.l0, c1, ↓reduceIte]
    rw [List.drop_of_length_le (by rw [bytesOf_length]; omega)]
    exact impl_hash_l1 h h0 h1 11 0 1 (by omega) (by simp)
  | succ d ih =>
    intro i h hi h0 h1
    refine Ev.succ ?_
    have c1 : (i : Int) < (s.size : Int) := by omega
    have c2 : (0 : Int) ≤ (i : Int) := by omega
    have hw : wrap64 ((i : Int) + 1) = ((i + 1 : Nat) : Int) := by rw [w64 (by omega) (by omega)]; rfl
    have hb := bt_nat s i (by omega)
    have hr := bt_range s i
    have e : Int.tmod (wrap64 ((wrap64 (263 * h)) + (wrap64 (bt s i)))) 65521 = hstep h (bt s i) := by
      rw [w64 (n := 263 * h) (by omega) (by omega), w64 (n := bt s i) (by omega) (by omega), w64 (by omega) (by omega), tmod_pos (by omega)]
      rfl
    simp only [impl_hash.l0, c1, c2, ↓reduceIte, hw, e]
    rw [drop_cons _ _ (by rw [bytesOf_length]; omega), ← hb]
    exact ih (i + 1) (hstep h (bt s i)) (by omega) (Int.emod_nonneg _ (by decide)) (Int.emod_lt_of_pos _ (by decide))
theorem impl_hash_ev (a b : Int) (s : ByteArray) (hs : s.size ≤ 9223372036854775807) (ha0 : 0 ≤ a) (ha1 : a ≤ 9999) (hb0 : 0 ≤ b) (hb1 : b ≤ 9) : Ev (fun k => impl_hash.f k a b s) (hashV a b s) := by
  have e : Int.tmod (wrap64 ((wrap64 ((wrap64 (31 * a)) + (wrap64 (977 * b)))) + 7)) 65521 = hash0 a b := by
    rw [w64 (n := 31 * a) (by omega) (by omega), w64 (n := 977 * b) (by omega) (by omega), w64 (n := 31 * a + 977 * b) (by omega) (by omega), w64 (by omega) (by omega), tmod_pos (by omega)]
    rfl
  unfold impl_hash.f
  simp only [e]
  exact impl_hash_l0 s hs s.size 0 (hash0 a b) (by omega) (Int.emod_nonneg _ (by decide)) (Int.emod_lt_of_pos _ (by decide))
theorem impl_place_ev (a b : Int) (s : ByteArray) (n : Int) (hs : s.size ≤ 9223372036854775807) (ha0 : 0 ≤ a) (ha1 : a ≤ 9999) (hb0 : 0 ≤ b) (hb1 : b ≤ 9) (hn0 : 0 ≤ n) (hn1 : n ≤ 65521) : Ev (fun k => impl_place.f k a b s n) (placeV a b s n) := by
  have hr := hash_range a b s
  have p0 : 0 ≤ hashV a b s * n := Int.mul_nonneg hr.1 hn0
  have p1 : hashV a b s * n ≤ 4293001441 := by
    have h1 : hashV a b s * n ≤ hashV a b s * 65521 := Int.mul_le_mul_of_nonneg_left (by omega) hr.1
    omega
  unfold impl_place.f
  refine Ev.bind (impl_hash_ev a b s hs ha0 ha1 hb0 hb1) ?_
  refine Ev.some_ ?_
  have h2 : hashV a b s * n / 65521 ≤ hashV a b s * n := Int.ediv_le_self _ p0
  have h3 : 0 ≤ hashV a b s * n / 65521 := Int.ediv_nonneg p0 (by decide)
  rw [w64 (n := hashV a b s * n) (by omega) (by omega), tdiv_pos p0, w64 (by omega) (by omega)]
  rfl
def goodDisplaced (a b c : Int) (l : List Int) : Bool := decide ((0 ≤ a ∧ a ≤ 9999) ∧ (1 ≤ b ∧ b ≤ 24) ∧ (1 ≤ c ∧ c ≤ 64) ∧ (l.length : Int) = b) && l.all (inB 0 999)
theorem goodDisplaced_of {a b c : Int} {l : List Int} (h : goodDisplaced a b c l = true) : (0 ≤ a ∧ a ≤ 9999) ∧ (1 ≤ b ∧ b ≤ 24) ∧ (1 ≤ c ∧ c ≤ 64) ∧ (l.length : Int) = b ∧ ∀ x ∈ l, 0 ≤ x ∧ x ≤ 999 := by
  unfold goodDisplaced inB at h
  simp only [Bool.and_eq_true, decide_eq_true_eq, List.all_eq_true] at h
  exact ⟨h.1.1, h.1.2.1, h.1.2.2.1, h.1.2.2.2, h.2⟩
theorem any_not_all_D {α : Type} (p : α → Bool) (l : List α) : l.any (fun x => !p x) = !l.all p := by
  induction l with
  | nil => rfl
  | cons x l ih => simp only [List.any_cons, List.all_cons, ih, Bool.not_and]
theorem spec_pfDisplaced_ev (a b c : Int) (l : List Int) (hl : l.length ≤ 9223372036854775807) : Ev (fun k => spec_pfDisplaced.f k a b c l) (goodDisplaced a b c l) := by
  unfold goodDisplaced spec_pfDisplaced.f
  simp only [spec_l1In_eq, Option.bind_some]
  by_cases h : 0 ≤ a ∧ a ≤ 9999
  · simp only [h, and_self, decide_true, ↓reduceIte, true_and]
    by_cases h1 : 1 ≤ b ∧ b ≤ 24
    · simp only [h1, and_self, decide_true, ↓reduceIte, true_and]
      by_cases h3 : 1 ≤ c ∧ c ≤ 64
      · simp only [h3, and_self, decide_true, ↓reduceIte, true_and]
        by_cases h2 : (l.length : Int) = b
        · simp only [h2, ↓reduceIte, decide_true, Bool.true_and]
          exact Ev.bind (spec_l1All_ev l 0 999 hl) (Ev.now _)
        · simp only [h2, ↓reduceIte, decide_false, Bool.false_and]
          exact Ev.now _
      · simp only [h3, decide_false, Bool.false_eq_true, ↓reduceIte, false_and, Bool.false_and]
        exact Ev.now _
    · simp only [h1, decide_false, Bool.false_eq_true, ↓reduceIte, false_and, Bool.false_and]
      exact Ev.now _
  · simp only [h, decide_false, Bool.false_eq_true, ↓reduceIte, false_and, Bool.false_and]
    exact Ev.now _
theorem impl_IsDisplaced_ev (a b c : Int) (l : List Int) (hl : l.length ≤ 9223372036854775807) : Ev (fun k => impl_IsDisplaced.f k a b c l) (goodDisplaced a b c l) := by
  unfold impl_IsDisplaced.f goodDisplaced
  refine Ev.bind (slices_ContainsFunc_int_int_impl_IsDisplacedc1_ev l hl) ?_
  rw [any_not_all_D]
  cases l.all (inB 0 999) with
  | false => simp only [Bool.not_false, ↓reduceIte, Bool.and_false]; exact Ev.now _
  | true =>
    simp only [Bool.not_true, Bool.false_eq_true, ↓reduceIte, impl_isSeed_eq, impl_in_eq, Option.bind_some, Bool.and_true]
    by_cases h : 0 ≤ a ∧ a ≤ 9999
    · simp only [h, and_self, decide_true, ↓reduceIte, true_and]
      by_cases h1 : 1 ≤ b ∧ b ≤ 24
      · simp only [h1, and_self, decide_true, ↓reduceIte, true_and]
        by_cases h3 : 1 ≤ c ∧ c ≤ 64
        · simp only [h3, and_self, decide_true, ↓reduceIte, true_and]
          exact Ev.some_ rfl
        · simp only [h3, decide_false, Bool.false_eq_true, ↓reduceIte, false_and]
          exact Ev.now _
      · simp only [h1, decide_false, Bool.false_eq_true, ↓reduceIte, false_and]
        exact Ev.now _
    · simp only [h, decide_false, Bool.false_eq_true, ↓reduceIte, false_and]
      exact Ev.now _
theorem shift_range {l : List Int} (h : ∀ x ∈ l, 0 ≤ x ∧ x ≤ 999) (i : Int) : 0 ≤ rd l i ∧ rd l i ≤ 999 := by
  unfold rd
  rw [List.getD_eq_getElem?_getD]
  cases e : l[i.toNat]? with
  | none => simp
  | some x => simpa using h x (List.mem_of_getElem? e)
def slotV (a c : Int) (s : ByteArray) (x : Int) : Int := (hashV a 1 s + x * (hashV a 2 s + 1)) % c
theorem slotV_range {a c : Int} {s : ByteArray} {x : Int} (hc : 0 < c) : 0 ≤ slotV a c s x ∧ slotV a c s x < c := by
  unfold slotV
  exact ⟨Int.emod_nonneg _ (by omega), Int.emod_lt_of_pos _ hc⟩
theorem slot_words (a c : Int) (s : ByteArray) (x : Int) (x0 : 0 ≤ x) (x1 : x ≤ 999) : Int.tmod (wrap64 (hashV a 1 s + (wrap64 (x * (wrap64 (hashV a 2 s + 1)))))) c = slotV a c s x := by
  have h1 := hash_range a 1 s
  have h2 := hash_range a 2 s
  have m0 : 0 ≤ x * (hashV a 2 s + 1) := Int.mul_nonneg x0 (by omega)
  have m1 : x * (hashV a 2 s + 1) ≤ 999 * 65521 := Int.mul_le_mul x1 (by omega) (by omega) (by omega)
  unfold slotV
  rw [w64 (n := hashV a 2 s + 1) (by omega) (by omega), w64 (n := x * (hashV a 2 s + 1)) (by omega) (by omega), w64 (by omega) (by omega), tmod_pos (by omega)]
def slotOf (a b c : Int) (l : List Int) (s : ByteArray) : Int := slotV a c s (rd l (placeV a 0 s b))
theorem spec_pfSlotOf_ev (a b c : Int) (l : List Int) (s : ByteArray) (hs : s.size ≤ 9223372036854775807) (h : goodDisplaced a b c l = true) : Ev (fun k => spec_pfSlotOf.f k a b c l s) (slotOf a b c l s) := by
  obtain ⟨⟨a0, a1⟩, ⟨b0, b1⟩, ⟨c0, c1⟩, hl, hx⟩ := goodDisplaced_of h
  have hp := place_range (a := a) (b := 0) (s := s) (n := b) (by omega)
  have h3 : placeV a 0 s b < (l.length : Int) := by omega
  have hr := shift_range hx (placeV a 0 s b)
  have hc : ¬ (c = 0) := by omega
  unfold spec_pfSlotOf.f slotOf
  refine Ev.bind (spec_biPlace_ev a 0 s b hs a0 a1 (by omega) (by omega) (by omega) (by omega)) ?_
  simp only [hp.1, h3, ↓reduceIte]
  unfold spec_pfSlot.f
  refine Ev.bind (a := slotV a c s (rd l (placeV a 0 s b))) (Ev.bind (spec_biHash_ev a 1 s hs a0 a1 (by omega) (by omega)) (Ev.bind (spec_biHash_ev a 2 s hs a0 a1 (by omega) (by omega)) ?_)) (Ev.now _)
  simp only [hc, ↓reduceIte, slot_words a c s _ hr.1 hr.2]
  exact Ev.now _
theorem impl_Displaced_slot_ev (a b c : Int) (l : List Int) (s : ByteArray) (hs : s.size ≤ 9223372036854775807) (h : goodDisplaced a b c l = true) : Ev (fun k => impl_Displaced_slot_in46_0.f k a b c l s) (slotOf a b c l s) := by
  obtain ⟨⟨a0, a1⟩, ⟨b0, b1⟩, ⟨c0, c1⟩, hl, hx⟩ := goodDisplaced_of h
  have hp := place_range (a := a) (b := 0) (s := s) (n := b) (by omega)
  have h3 : placeV a 0 s b < (l.length : Int) := by omega
  have hr := shift_range hx (placeV a 0 s b)
  have hc : ¬ (c = 0) := by omega
  unfold impl_Displaced_slot_in46_0.f slotOf
  refine Ev.bind (impl_place_ev a 0 s b hs a0 a1 (by omega) (by omega) (by omega) (by omega)) ?_
  simp only [hp.1, h3, ↓reduceIte]
  unfold impl_shifted.f
  refine Ev.bind (a := slotV a c s (rd l (placeV a 0 s b))) (Ev.bind (impl_hash_ev a 1 s hs a0 a1 (by omega) (by omega)) (Ev.bind (impl_hash_ev a 2 s hs a0 a1 (by omega) (by omega)) ?_)) (Ev.now _)
  simp only [hc, ↓reduceIte, slot_words a c s _ hr.1 hr.2]
  exact Ev.now _
def slotsOf (a b c : Int) (l : List Int) (ks : List ByteArray) : List Int := ks.map (slotOf a b c l)
theorem slotsOf_length (a b c : Int) (l : List Int) (ks : List ByteArray) : (slotsOf a b c l ks).length = ks.length := by simp [slotsOf]
theorem slotsOf_snoc (a b c : Int) (l : List Int) (ks : List ByteArray) (i : Nat) (h : i < ks.length) : slotsOf a b c l (ks.take (i + 1)) = slotsOf a b c l (ks.take i) ++ [slotOf a b c l ks[i]] := by
  unfold slotsOf
  rw [List.take_succ_eq_append_getElem h, List.map_append]
  rfl
theorem slotsOf_range {a b c : Int} {l : List Int} {ks : List ByteArray} (hc : 0 < c) : ∀ x ∈ slotsOf a b c l ks, 0 ≤ x ∧ x < c := by
  intro x hx
  unfold slotsOf at hx
  obtain ⟨s, _, rfl⟩ := List.mem_map.1 hx
  exact slotV_range hc
theorem impl_slots_ev (a b c : Int) (l : List Int) (ks : List ByteArray) (h : goodDisplaced a b c l = true) (hk : ks.length ≤ 40) (hs : ∀ s ∈ ks, s.size ≤ 9223372036854775807) : Ev (fun k => impl_Displaced_slots_in46_0.f k a b c l ks) (slotsOf a b c l ks) := by
  suffices H : ∀ d i : Nat, i + d = ks.length → Ev (fun k => impl_Displaced_slots_in46_0.l0 k (slotsOf a b c l (ks.take i)) ks (ks.length : Int) (i : Int) a b c l) (slotsOf a b c l ks) from H ks.length 0 (by omega)
  intro d
  induction d with
  | zero =>
    intro i hi
    refine Ev.succ ?_
    have h1 : ¬ ((i : Int) < (ks.length : Int)) := by omega
    simp only [impl_Displaced_slots_in46_0.l0, h1, ↓reduceIte]
    exact Ev.some_ (by rw [List.take_of_length_le (by omega)])
  | succ d ih =>
    intro i hi
    refine Ev.succ ?_
    have h0 : i < ks.length := by omega
    have h1 : (i : Int) < (ks.length : Int) := by omega
    have h2 : (0 : Int) ≤ (i : Int) := by omega
    have hw : wrap64 ((i : Int) + 1) = ((i + 1 : Nat) : Int) := by rw [w64 (by omega) (by omega)]; rfl
    have hlen := slotsOf_length a b c l (ks.take i)
    have hlt := List.length_take_le i ks
    have h4 : (slotsOf a b c l (ks.take i)).length < 17592186044416 := by omega
    simp only [impl_Displaced_slots_in46_0.l0, h1, h2, ↓reduceIte, hw, rdOf_nat ByteArray.empty ks i h0]
    refine Ev.bind (impl_Displaced_slot_ev a b c l _ (hs _ (List.getElem_mem h0)) h) ?_
    simp only [h4, ↓reduceIte]
    rw [← slotsOf_snoc a b c l ks i h0]
    exact ih (i + 1) (by omega)
def distinctSlots (a b c : Int) (l : List Int) (ks : List ByteArray) : List Int × Bool := if (slotsOf a b c l ks).Nodup then (slotsOf a b c l ks, true) else ([], false)
theorem laws_szIntS_eq (l : List Int) (a : Int) (h0 : 0 ≤ a) (h1 : a ≤ 1048576) (hl : l.length ≤ 9223372036854775807) : laws_szIntS.f l a = some (if (l.length : Int) ≤ a then a - l.length else -1) := by
  unfold laws_szIntS.f
  rw [w64 (by omega) (by omega)]
  by_cases c : (l.length : Int) ≤ a
  · rw [if_neg (by omega), if_pos c]
  · rw [if_pos (by omega), if_neg c]
theorem laws_toIntS_l0 (l : List Int) (hl : l.length ≤ 9223372036854775807) (d : Nat) : ∀ (i : Nat) (o : List Int), o.length = l.length → o.take i = l.take i → i + d = l.length → Ev (fun k => laws_toIntS.l0 k l o (i : Int)) l := by
  induction d with
  | zero =>
    intro i o ho ht hi
    refine Ev.succ ?_
    have h1 : ¬ ((i : Int) < (l.length : Int)) := by omega
    simp only [laws_toIntS.l0, h1, ↓reduceIte]
    rw [List.take_of_length_le (by omega), List.take_of_length_le (by omega)] at ht
    exact Ev.some_ ht
  | succ d ih =>
    intro i o ho ht hi
    refine Ev.succ ?_
    have h1 : (i : Int) < (l.length : Int) := by omega
    have h2 : (0 : Int) ≤ (i : Int) := by omega
    have h3 : (i : Int) < (o.length : Int) := by omega
    have hw : wrap64 ((i : Int) + 1) = ((i + 1 : Nat) : Int) := by rw [w64 (by omega) (by omega)]; rfl
    simp only [laws_toIntS.l0, h1, h2, h3, ↓reduceIte, hw, Int.toNat_natCast]
    exact ih (i + 1) _ (by simp [ho]) (by rw [take_set_succ _ _ _ (by omega), ht, rd_nat _ _ (by omega), List.take_succ_eq_append_getElem (by omega)]) (by omega)
theorem laws_toIntS_ev (l : List Int) (hl : l.length ≤ 35184372088832) : Ev (fun k => laws_toIntS.f k l) l := by
  have h1 : 0 ≤ (l.length : Int) := by omega
  have h2 : ((l.length : Int)).toNat ≤ 35184372088832 := by omega
  simp only [laws_toIntS.f, h1, h2, ↓reduceIte]
  exact laws_toIntS_l0 l (by omega) l.length 0 _ (by simp) (by simp) (by omega)
theorem laws_eqIntS_self (l : List Int) (hl : l.length ≤ 9223372036854775807) : Ev (fun k => laws_eqIntS.f k l l) true := by
  unfold laws_eqIntS.f
  simp only [↓reduceIte]
  refine Ev.up (L := fun k i => laws_eqIntS.l0 k l l (i : Int)) (r := fun _ => true) l.length ?_ ?_ 0 (Nat.zero_le _)
  · refine Ev.succ ?_
    have h1 : ¬ ((l.length : Int) < (l.length : Int)) := by omega
    simp only [laws_eqIntS.l0, h1, ↓reduceIte]
    exact Ev.now _
  · intro i hi ih
    refine Ev.succ ?_
    have h1 : (i : Int) < (l.length : Int) := by omega
    have h2 : (0 : Int) ≤ (i : Int) := by omega
    have hw : wrap64 ((i : Int) + 1) = ((i + 1 : Nat) : Int) := by rw [w64 (by omega) (by omega)]; rfl
    simp only [laws_eqIntS.l0, h1, h2, ↓reduceIte, hw]
    exact ih
theorem laws_szDisplaced_eq (a b c : Int) (l : List Int) (m : Int) (h0 : 0 ≤ m) (h1 : m ≤ 1048576) (hl : l.length ≤ 9223372036854775807) : laws_szDisplaced.f a b c l m = some (if (l.length : Int) ≤ m then m - l.length else -1) := by
  simp only [laws_szDisplaced.f, laws_szIntS_eq l m h0 h1 hl, Option.bind_some]
  by_cases c : (l.length : Int) ≤ m
  · simp only [c, ↓reduceIte, show ¬ (m - (l.length : Int) < 0) from by omega]
  · simp only [c, ↓reduceIte, show ((-1 : Int) < 0) from by decide]
theorem laws_toDisplaced_ev (a b c : Int) (l : List Int) (hl : l.length ≤ 1048576) : Ev (fun k => laws_toDisplaced.f k a b c l) (a, b, c, l) := by
  unfold laws_toDisplaced.f
  exact Ev.bind (laws_toIntS_ev l (by omega)) (Ev.now _)
theorem laws_eqDisplaced_self (a b c : Int) (l : List Int) (hl : l.length ≤ 9223372036854775807) : Ev (fun k => laws_eqDisplaced.f k a b c l a b c l) true := by
  simp only [laws_eqDisplaced.f, ↓reduceIte]
  exact Ev.bind (laws_eqIntS_self l hl) (by simp only [↓reduceIte]; exact Ev.now _)
theorem laws_eqStringS_self (l : List ByteArray) (hl : l.length ≤ 9223372036854775807) : Ev (fun k => laws_eqStringS.f k l l) true := by
  unfold laws_eqStringS.f
  simp only [↓reduceIte]
  refine Ev.up (L := fun k i => laws_eqStringS.l0 k l l (i : Int)) (r := fun _ => true) l.length ?_ ?_ 0 (Nat.zero_le _)
  · refine Ev.succ ?_
    have h1 : ¬ ((l.length : Int) < (l.length : Int)) := by omega
    simp only [laws_eqStringS.l0, h1, ↓reduceIte]
    exact Ev.now _
  · intro i hi ih
    refine Ev.succ ?_
    have h1 : (i : Int) < (l.length : Int) := by omega
    have h2 : (0 : Int) ≤ (i : Int) := by omega
    have hw : wrap64 ((i : Int) + 1) = ((i + 1 : Nat) : Int) := by rw [w64 (by omega) (by omega)]; rfl
    simp only [laws_eqStringS.l0, h1, h2, ↓reduceIte, hw]
    exact ih
theorem laws_toStringS_l0 (l : List ByteArray) (hl : l.length ≤ 9223372036854775807) (d : Nat) : ∀ (i : Nat) (o : List ByteArray), o.length = l.length → o.take i = l.take i → i + d = l.length → Ev (fun k => laws_toStringS.l0 k l o (i : Int)) l := by
  induction d with
  | zero =>
    intro i o ho ht hi
    refine Ev.succ ?_
    have h1 : ¬ ((i : Int) < (l.length : Int)) := by omega
    simp only [laws_toStringS.l0, h1, ↓reduceIte]
    rw [List.take_of_length_le (by omega), List.take_of_length_le (by omega)] at ht
    exact Ev.some_ ht
  | succ d ih =>
    intro i o ho ht hi
    refine Ev.succ ?_
    have h1 : (i : Int) < (l.length : Int) := by omega
    have h2 : (0 : Int) ≤ (i : Int) := by omega
    have h3 : (i : Int) < (o.length : Int) := by omega
    have hw : wrap64 ((i : Int) + 1) = ((i + 1 : Nat) : Int) := by rw [w64 (by omega) (by omega)]; rfl
    simp only [laws_toStringS.l0, h1, h2, h3, ↓reduceIte, hw, Int.toNat_natCast]
    exact ih (i + 1) _ (by simp [ho]) (by rw [take_set_succ _ _ _ (by omega), ht, rdOf_nat _ _ _ (by omega), List.take_succ_eq_append_getElem (by omega)]) (by omega)
theorem laws_toStringS_ev (l : List ByteArray) (hl : l.length ≤ 17592186044416) : Ev (fun k => laws_toStringS.f k l) l := by
  have h1 : 0 ≤ (l.length : Int) := by omega
  have h2 : ((l.length : Int)).toNat ≤ 17592186044416 := by omega
  simp only [laws_toStringS.f, h1, h2, ↓reduceIte]
  exact laws_toStringS_l0 l (by omega) l.length 0 _ (by simp) (by simp) (by omega)
def szT : List ByteArray → Int → Int
  | [], m => m
  | s :: r, m => if m - (s.size : Int) < 0 then -1 else szT r (m - (s.size : Int))
theorem szT_le (l : List ByteArray) : ∀ m : Int, 0 ≤ m → szT l m ≤ m := by
  induction l with
  | nil => intro m h; exact Int.le_refl m
  | cons s r ih =>
    intro m h
    unfold szT
    by_cases c : m - (s.size : Int) < 0
    · rw [if_pos c]; omega
    · rw [if_neg c]
      have := ih (m - (s.size : Int)) (by omega)
      omega
theorem szT_sizes (l : List ByteArray) : ∀ m : Int, 0 ≤ szT l m → ∀ s ∈ l, (s.size : Int) ≤ m := by
  induction l with
  | nil => intro m h s hs; cases hs
  | cons x r ih =>
    intro m h s hs
    unfold szT at h
    by_cases c : m - (x.size : Int) < 0
    · rw [if_pos c] at h; omega
    · rw [if_neg c] at h
      rcases List.mem_cons.1 hs with rfl | hs
      · omega
      · have := ih _ h s hs
        omega
theorem laws_szStringS_l0 (l : List ByteArray) (hl : l.length ≤ 9223372036854775807) (hs : ∀ s ∈ l, s.size ≤ 9223372036854775807) (d : Nat) : ∀ (i : Nat) (m : Int), i + d = l.length → 0 ≤ m → m ≤ 1048576 → Ev (fun k => laws_szStringS.l0 k l m (i : Int)) (szT (l.drop i) m) := by
  induction d with
  | zero =>
    intro i m hi m0 m1
    refine Ev.succ ?_
    have h1 : ¬ ((i : Int) < (l.length : Int)) := by omega
    simp only [laws_szStringS.l0, h1, ↓reduceIte]
    exact Ev.some_ (by rw [List.drop_eq_nil_of_le (by omega)]; rfl)
  | succ d ih =>
    intro i m hi m0 m1
    refine Ev.succ ?_
    have h0 : i < l.length := by omega
    have h1 : (i : Int) < (l.length : Int) := by omega
    have h2 : (0 : Int) ≤ (i : Int) := by omega
    have hw : wrap64 ((i : Int) + 1) = ((i + 1 : Nat) : Int) := by rw [w64 (by omega) (by omega)]; rfl
    have hz := hs _ (List.getElem_mem h0)
    have hw2 : wrap64 (m - ((l[i]).size : Int)) = m - ((l[i]).size : Int) := w64 (by omega) (by omega)
    rw [drop_cons l i h0]
    simp only [laws_szStringS.l0, h1, h2, ↓reduceIte, hw, rdOf_nat ByteArray.empty l i h0, hw2, szT]
    by_cases c : m - ((l[i]).size : Int) < 0
    · simp only [c, ↓reduceIte]; exact Ev.now _
    · simp only [c, ↓reduceIte]
      exact ih (i + 1) _ (by omega) (by omega) (by omega)
def szTexts (l : List ByteArray) (m : Int) : Int := if m - (l.length : Int) < 0 then -1 else szT l (m - (l.length : Int))
theorem laws_szStringS_ev (l : List ByteArray) (m : Int) (hl : l.length ≤ 9223372036854775807) (hs : ∀ s ∈ l, s.size ≤ 9223372036854775807) (m0 : 0 ≤ m) (m1 : m ≤ 1048576) : Ev (fun k => laws_szStringS.f k l m) (szTexts l m) := by
  unfold laws_szStringS.f szTexts
  rw [w64 (n := m - (l.length : Int)) (by omega) (by omega)]
  by_cases c : m - (l.length : Int) < 0
  · simp only [c, ↓reduceIte]; exact Ev.now _
  · simp only [c, ↓reduceIte]
    exact laws_szStringS_l0 l hl hs l.length 0 _ (by omega) (by omega) (by omega)
theorem szTexts_of {l : List ByteArray} {m : Int} (h : ¬ szTexts l m < 0) : (l.length : Int) ≤ m ∧ szTexts l m ≤ m ∧ 0 ≤ szTexts l m := by
  have e : szTexts l m = if m - (l.length : Int) < 0 then -1 else szT l (m - (l.length : Int)) := rfl
  by_cases c : m - (l.length : Int) < 0
  · rw [if_pos c] at e; omega
  · rw [if_neg c] at e
    have := szT_le l (m - (l.length : Int)) (by omega)
    omega
theorem spec_IsKey_ev (s : ByteArray) (hs : s.size ≤ 9223372036854775807) : Ev (fun k => spec_IsKey.f k s) (isKey s) := by
  have h := Ev.up (L := fun k i => spec_IsKey.l0 k s (i : Int)) (r := fun i => ((bytesOf s).drop i).all okByte && decide (1 ≤ (s.size : Int) ∧ (s.size : Int) ≤ 12)) s.size ?_ ?_ 0 (Nat.zero_le _)
  · exact h
  · refine Ev.succ ?_
    have h1 : ¬ ((s.size : Int) < (s.size : Int)) := by omega
    simp only [spec_IsKey.l0, h1, ↓reduceIte, spec_l1In_eq, Option.bind_some]
    exact Ev.some_ (by rw [List.drop_of_length_le (by rw [bytesOf_length]; exact Nat.le_refl _)]; simp)
  · intro i hi ih
    refine Ev.succ ?_
    have h1 : (i : Int) < (s.size : Int) := by omega
    have h2 : (0 : Int) ≤ (i : Int) := by omega
    have hw : wrap64 ((i : Int) + 1) = ((i + 1 : Nat) : Int) := by rw [w64 (by omega) (by omega)]; rfl
    have hb := bt_nat s i hi
    simp only [spec_IsKey.l0, h1, h2, ↓reduceIte, hw]
    rw [drop_cons _ _ (by rw [bytesOf_length]; exact hi), List.all_cons, ← hb]
    by_cases c1 : bt s i < 33
    · simp only [c1, ↓reduceIte]
      exact Ev.some_ (by simp [okByte]; omega)
    · by_cases c2 : bt s i > 125
      · simp only [c1, c2, ↓reduceIte]
        exact Ev.some_ (by simp [okByte]; omega)
      · simp only [c1, c2, ↓reduceIte]
        have c3 : okByte (bt s i) = true := by simp [okByte]; omega
        rw [c3, Bool.true_and]
        exact ih
theorem impl_IsKey_ev (s : ByteArray) (hs : s.size ≤ 9223372036854775807) : Ev (fun k => impl_IsKey.f k s) (isKey s) := by
  have h := Ev.up (L := fun k i => impl_IsKey.l0 k s (s.size : Int) (i : Int)) (r := fun i => ((bytesOf s).drop i).all okByte && decide (1 ≤ (s.size : Int) ∧ (s.size : Int) ≤ 12)) s.size ?_ ?_ 0 (Nat.zero_le _)
  · exact h
  · refine Ev.succ ?_
    have h1 : ¬ ((s.size : Int) < (s.size : Int)) := by omega
    simp only [impl_IsKey.l0, h1, ↓reduceIte, impl_in_eq, Option.bind_some]
    exact Ev.some_ (by rw [List.drop_of_length_le (by rw [bytesOf_length]; exact Nat.le_refl _)]; simp)
  · intro i hi ih
    refine Ev.succ ?_
    have h1 : (i : Int) < (s.size : Int) := by omega
    have h2 : (0 : Int) ≤ (i : Int) := by omega
    have hw : wrap64 ((i : Int) + 1) = ((i + 1 : Nat) : Int) := by rw [w64 (by omega) (by omega)]; rfl
    have hb := bt_nat s i hi
    simp only [impl_IsKey.l0, h1, h2, ↓reduceIte, hw]
    rw [drop_cons _ _ (by rw [bytesOf_length]; exact hi), List.all_cons, ← hb]
    by_cases c1 : bt s i < 33
    · simp only [c1, ↓reduceIte]
      exact Ev.some_ (by simp [okByte]; omega)
    · by_cases c2 : bt s i > 125
      · simp only [c1, c2, ↓reduceIte]
        exact Ev.some_ (by simp [okByte]; omega)
      · simp only [c1, c2, ↓reduceIte]
        have c3 : okByte (bt s i) = true := by simp [okByte]; omega
        rw [c3, Bool.true_and]
        exact ih
def keyAt (l : List ByteArray) (i : Nat) : Bool := isKey (rdOf ByteArray.empty l (i : Int)) && (decide (i = 0) || Op.bytesLess (rdOf ByteArray.empty l ((i - 1 : Nat) : Int)).toList (rdOf ByteArray.empty l (i : Int)).toList)
def keysFrom (l : List ByteArray) (i : Nat) : Bool := (List.range' i (l.length - i)).all (keyAt l) && decide ((l.length : Int) ≤ 40)
def areKeys (l : List ByteArray) : Bool := keysFrom l 0
theorem keysFrom_end (l : List ByteArray) : keysFrom l l.length = decide ((l.length : Int) ≤ 40) := by simp [keysFrom]
theorem keysFrom_step (l : List ByteArray) (i : Nat) (h : i < l.length) : keysFrom l i = (keyAt l i && keysFrom l (i + 1)) := by
  unfold keysFrom
  rw [show l.length - i = (l.length - (i + 1)) + 1 from by omega, List.range'_succ, List.all_cons, Bool.and_assoc]
theorem areKeys_of {l : List ByteArray} (h : areKeys l = true) : l.length ≤ 40 ∧ ∀ s ∈ l, isKey s = true := by
  unfold areKeys keysFrom at h
  simp only [Bool.and_eq_true, decide_eq_true_eq, List.all_eq_true, List.mem_range'] at h
  refine ⟨by omega, fun s hs => ?_⟩
  obtain ⟨i, hi, rfl⟩ := List.getElem_of_mem hs
  have := h.1 i ⟨i, by omega, by omega⟩
  unfold keyAt at this
  simp only [Bool.and_eq_true] at this
  rw [rdOf_nat _ _ _ hi] at this
  exact this.1
theorem rdOf_size {l : List ByteArray} (h : ∀ s ∈ l, s.size ≤ 9223372036854775807) (i : Int) : (rdOf ByteArray.empty l i).size ≤ 9223372036854775807 := by
  unfold rdOf
  rw [List.getD_eq_getElem?_getD]
  cases e : l[i.toNat]? with
  | none => simp
  | some x => simpa using h x (List.mem_of_getElem? e)
theorem spec_biKeys_ev (l : List ByteArray) (hl : l.length ≤ 9223372036854775807) (hs : ∀ s ∈ l, s.size ≤ 9223372036854775807) : Ev (fun k => spec_biKeys.f k l) (areKeys l) := by
  refine Ev.up (L := fun k i => spec_biKeys.l0 k l l (l.length : Int) (i : Int)) (r := fun i => keysFrom l i) l.length ?_ ?_ 0 (Nat.zero_le _)
  · refine Ev.succ ?_
    have h1 : ¬ ((l.length : Int) < (l.length : Int)) := by omega
    simp only [spec_biKeys.l0, h1, ↓reduceIte, keysFrom_end]
    exact Ev.now _
  · intro i hi ih
    refine Ev.succ ?_
    have h1 : (i : Int) < (l.length : Int) := by omega
    have h2 : (0 : Int) ≤ (i : Int) := by omega
    have hw : wrap64 ((i : Int) + 1) = ((i + 1 : Nat) : Int) := by rw [w64 (by omega) (by omega)]; rfl
    simp only [spec_biKeys.l0, h1, h2, ↓reduceIte, hw]
    refine Ev.bind (spec_IsKey_ev _ (rdOf_size hs _)) ?_
    rw [keysFrom_step l i hi]
    unfold keyAt
    cases isKey (rdOf ByteArray.empty l (i : Int)) with
    | false => simp only [Bool.false_eq_true, ↓reduceIte, Bool.false_and]; exact Ev.now _
    | true =>
      simp only [↓reduceIte, Bool.true_and]
      by_cases c : i = 0
      · subst c
        simp only [Int.natCast_zero, decide_true, Bool.true_or, Bool.true_and, ↓reduceIte, gt_iff_lt, Int.lt_irrefl]
        exact ih
      · have h3 : (i : Int) > 0 := by omega
        have hw1 : wrap64 ((i : Int) - 1) = ((i - 1 : Nat) : Int) := by rw [w64 (by omega) (by omega)]; omega
        have h4 : (0 : Int) ≤ ((i - 1 : Nat) : Int) := by omega
        have h5 : ((i - 1 : Nat) : Int) < (l.length : Int) := by omega
        simp only [c, h3, hw1, h4, h5, ↓reduceIte, decide_false, Bool.false_or]
        cases Op.bytesLess (rdOf ByteArray.empty l ((i - 1 : Nat) : Int)).toList (rdOf ByteArray.empty l (i : Int)).toList with
        | false => simp only [Bool.false_eq_true, ↓reduceIte, Bool.false_and]; exact Ev.now _
        | true => simp only [↓reduceIte, Bool.true_and]; exact ih
theorem impl_AreKeys_ev (l : List ByteArray) (hl : l.length ≤ 9223372036854775807) (hs : ∀ s ∈ l, s.size ≤ 9223372036854775807) : Ev (fun k => impl_AreKeys.f k l) (areKeys l) := by
  refine Ev.up (L := fun k i => impl_AreKeys.l0 k l l (l.length : Int) (i : Int)) (r := fun i => keysFrom l i) l.length ?_ ?_ 0 (Nat.zero_le _)
  · refine Ev.succ ?_
    have h1 : ¬ ((l.length : Int) < (l.length : Int)) := by omega
    simp only [impl_AreKeys.l0, h1, ↓reduceIte, keysFrom_end]
    exact Ev.now _
  · intro i hi ih
    refine Ev.succ ?_
    have h1 : (i : Int) < (l.length : Int) := by omega
    have h2 : (0 : Int) ≤ (i : Int) := by omega
    have hw : wrap64 ((i : Int) + 1) = ((i + 1 : Nat) : Int) := by rw [w64 (by omega) (by omega)]; rfl
    simp only [impl_AreKeys.l0, h1, h2, ↓reduceIte, hw]
    refine Ev.bind (impl_IsKey_ev _ (rdOf_size hs _)) ?_
    rw [keysFrom_step l i hi]
    unfold keyAt
    cases isKey (rdOf ByteArray.empty l (i : Int)) with
    | false => simp only [Bool.false_eq_true, ↓reduceIte, Bool.false_and]; exact Ev.now _
    | true =>
      simp only [↓reduceIte, Bool.true_and]
      by_cases c : i = 0
      · subst c
        simp only [Int.natCast_zero, decide_true, Bool.true_or, Bool.true_and, ↓reduceIte, gt_iff_lt, Int.lt_irrefl]
        exact ih
      · have h3 : (i : Int) > 0 := by omega
        have hw1 : wrap64 ((i : Int) - 1) = ((i - 1 : Nat) : Int) := by rw [w64 (by omega) (by omega)]; omega
        have h4 : (0 : Int) ≤ ((i - 1 : Nat) : Int) := by omega
        have h5 : ((i - 1 : Nat) : Int) < (l.length : Int) := by omega
        simp only [c, h3, hw1, h4, h5, ↓reduceIte, decide_false, Bool.false_or]
        cases Op.bytesLess (rdOf ByteArray.empty l ((i - 1 : Nat) : Int)).toList (rdOf ByteArray.empty l (i : Int)).toList with
        | false => simp only [Bool.false_eq_true, ↓reduceIte, Bool.false_and]; exact Ev.now _
        | true => simp only [↓reduceIte, Bool.true_and]; exact ih
theorem mem_take_succ {l : List Int} {i : Nat} (h : i < l.length) (x : Int) : x ∈ l.take (i + 1) ↔ x ∈ l.take i ∨ x = rd l (i : Int) := by
  rw [List.take_succ_eq_append_getElem h, rd_nat l i h, List.mem_append, List.mem_singleton]
theorem spec_l1Has_ev (l : List Int) (x : Int) (hl : l.length ≤ 9223372036854775807) : Ev (fun k => spec_l1Has.f k l x) (decide (x ∈ l)) := by
  suffices h : ∀ d i : Nat, i + d = l.length → x ∉ l.take i → Ev (fun k => spec_l1Has.l0 k x l (l.length : Int) (i : Int)) (decide (x ∈ l)) from h l.length 0 (by omega) (by simp)
  intro d
  induction d with
  | zero =>
    intro i hi hn
    refine Ev.succ ?_
    have h1 : ¬ ((i : Int) < (l.length : Int)) := by omega
    rw [List.take_of_length_le (by omega)] at hn
    simp only [spec_l1Has.l0, h1, ↓reduceIte, hn, decide_false]
    exact Ev.now _
  | succ d ih =>
    intro i hi hn
    refine Ev.succ ?_
    have h1 : (i : Int) < (l.length : Int) := by omega
    have h2 : (0 : Int) ≤ (i : Int) := by omega
    have hw : wrap64 ((i : Int) + 1) = ((i + 1 : Nat) : Int) := by rw [w64 (by omega) (by omega)]; rfl
    simp only [spec_l1Has.l0, h1, h2, ↓reduceIte, hw]
    by_cases c : rd l (i : Int) = x
    · simp only [c, ↓reduceIte]
      have : x ∈ l := by rw [← c, rd_nat l i (by omega)]; exact List.getElem_mem _
      exact Ev.some_ (by simp [this])
    · simp only [c, ↓reduceIte]
      exact ih (i + 1) (by omega) (by rw [mem_take_succ (by omega)]; rintro (h | h); exact hn h; exact c h.symm)
theorem slices_Contains_int_int_ev (l : List Int) (x : Int) (hl : l.length ≤ 9223372036854775807) : Ev (fun k => slices_Contains_int_int.f k l x) (decide (x ∈ l)) := by
  have L : ∃ r : Int, decide (r ≥ 0) = decide (x ∈ l) ∧ Ev (fun k => slices_Index_int_int.f k l x) r := by
    suffices h : ∀ d i : Nat, i + d = l.length → x ∉ l.take i → ∃ r : Int, decide (r ≥ 0) = decide (x ∈ l) ∧ Ev (fun k => slices_Index_int_int.l0 k l x (l.length : Int) (i : Int)) r from h l.length 0 (by omega) (by simp)
    intro d
    induction d with
    | zero =>
      intro i hi hn
      have h1 : ¬ ((i : Int) < (l.length : Int)) := by omega
      rw [List.take_of_length_le (by omega)] at hn
      refine ⟨-1, by simp [hn], Ev.succ ?_⟩
      simp only [slices_Index_int_int.l0, h1, ↓reduceIte]
      exact Ev.now _
    | succ d ih =>
      intro i hi hn
      have h1 : (i : Int) < (l.length : Int) := by omega
      have h2 : (0 : Int) ≤ (i : Int) := by omega
      have hw : wrap64 ((i : Int) + 1) = ((i + 1 : Nat) : Int) := by rw [w64 (by omega) (by omega)]; rfl
      by_cases c : x = rd l (i : Int)
      · have : x ∈ l := by rw [c, rd_nat l i (by omega)]; exact List.getElem_mem _
        refine ⟨(i : Int), by simp [this], Ev.succ ?_⟩
        simp only [slices_Index_int_int.l0, h1, h2, ↓reduceIte]
        simp only [← c, ↓reduceIte]
        exact Ev.now _
      · obtain ⟨r, hr, he⟩ := ih (i + 1) (by omega) (by rw [mem_take_succ (by omega)]; rintro (h | h); exact hn h; exact c h)
        refine ⟨r, hr, Ev.succ ?_⟩
        simp only [slices_Index_int_int.l0, h1, h2, c, ↓reduceIte, hw]
        exact he
  obtain ⟨r, hr, he⟩ := L
  unfold slices_Contains_int_int.f
  refine Ev.bind he ?_
  exact Ev.some_ hr
theorem laws_markIntS_l0 (m : Int) (n : Nat) (h0 : 0 ≤ m) (hm : m + n ≤ 4611686018427387904) (d : Nat) : ∀ (i : Nat) (l : List Int), l.length = n → l.take i = marks m i → i + d = n → Ev (fun k => laws_markIntS.l0 k l (m + i) (i : Int)) (m + n, marks m n) := by
  induction d with
  | zero =>
    intro i l hl ht hi
    obtain rfl : i = n := by omega
    refine Ev.succ ?_
    have h1 : ¬ ((i : Int) < (l.length : Int)) := by omega
    simp only [laws_markIntS.l0, h1, ↓reduceIte]
    rw [List.take_of_length_le (by omega)] at ht
    exact Ev.some_ (by rw [ht])
  | succ d ih =>
    intro i l hl ht hi
    refine Ev.succ ?_
    have h1 : (i : Int) < (l.length : Int) := by omega
    have h2 : (0 : Int) ≤ (i : Int) := by omega
    have hw : wrap64 ((i : Int) + 1) = ((i + 1 : Nat) : Int) := by rw [w64 (by omega) (by omega)]; rfl
    have hw2 : wrap64 (m + (i : Int) + 1) = m + ((i + 1 : Nat) : Int) := by rw [w64 (by omega) (by omega)]; omega
    simp only [laws_markIntS.l0, h1, h2, ↓reduceIte, hw, hw2, Int.toNat_natCast]
    exact ih (i + 1) (l.set i (m + i)) (by simp [hl]) (by rw [take_set_succ _ _ _ (by omega), ht, marks_succ]) (by omega)
theorem laws_markIntS_ev (l : List Int) (m : Int) (h0 : 0 ≤ m) (hm : m + l.length ≤ 4611686018427387904) : Ev (fun k => laws_markIntS.f k l m) (m + l.length, marks m l.length) := by
  have h := laws_markIntS_l0 m l.length h0 hm l.length 0 l rfl (by simp [marks]) (by omega)
  simpa [laws_markIntS.f] using h
theorem laws_heldIntS_ev (m : Int) (n : Nat) (h0 : 0 ≤ m) (hm : m + n ≤ 4611686018427387904) : Ev (fun k => laws_heldIntS.f k (marks m n) m) (m + n) := by
  have h := Ev.up (L := fun k i => laws_heldIntS.l0 k (marks m n) (m + (i : Int)) (i : Int)) (r := fun _ => m + n) n ?_ ?_ 0 (Nat.zero_le _)
  · simpa [laws_heldIntS.f] using h
  · refine Ev.succ ?_
    have h1 : ¬ ((n : Int) < ((marks m n).length : Int)) := by rw [marks_length]; omega
    simp only [laws_heldIntS.l0, h1, ↓reduceIte]
    exact Ev.now _
  · intro i hi ih
    refine Ev.succ ?_
    have h1 : (i : Int) < ((marks m n).length : Int) := by rw [marks_length]; omega
    have h2 : (0 : Int) ≤ (i : Int) := by omega
    have h3 : rd (marks m n) (i : Int) = m + i := by rw [rd_nat _ _ (by rw [marks_length]; exact hi)]; simp [marks]
    have hw : wrap64 ((i : Int) + 1) = ((i + 1 : Nat) : Int) := by rw [w64 (by omega) (by omega)]; rfl
    have hw2 : wrap64 (m + (i : Int) + 1) = m + ((i + 1 : Nat) : Int) := by rw [w64 (by omega) (by omega)]; omega
    simp only [laws_heldIntS.l0, h1, h2, h3, ↓reduceIte, hw, hw2]
    exact ih
theorem strOfNums_one (x : Int) : (strOfNums [x]).size = 1 := by
  simp [strOfNums, ByteArray.size]
theorem laws_markText_l0 (f : Nat) : ∀ (n : Int) (acc : ByteArray), 0 ≤ n → n < 2 ^ f → n ≤ 4611686018427387904 → acc.size + f ≤ 1000 → ∃ r, Ev (fun k => laws_markText.l0 k n acc) r := by
  induction f with
  | zero =>
    intro n acc h0 h1 hn hs
    refine ⟨(⟨#[109]⟩ : ByteArray) ++ acc, Ev.succ ?_⟩
    have c1 : ¬ (n > 0) := by simp at h1; omega
    have c2 : 1 + acc.size ≤ 9223372036854775807 := by omega
    simp only [laws_markText.l0, c1, c2, ↓reduceIte]
    exact Ev.now _
  | succ f ih =>
    intro n acc h0 h1 hn hs
    by_cases c1 : n > 0
    · have e2 : (2 : Int) ^ (f + 1) = 2 * 2 ^ f := by rw [Int.pow_succ, Int.mul_comm]
      have e : wrap64 (Int.tdiv n 10) = n / 10 := by rw [tdiv_pos h0, w64 (by omega) (by omega)]
      have e3 := strOfNums_one ((wrap64 (48 + (Int.tmod n 10))) % 256)
      obtain ⟨r, hr⟩ := ih (n / 10) (strOfNums [(wrap64 (48 + (Int.tmod n 10))) % 256] ++ acc) (by omega) (by omega) (by omega) (by rw [ByteArray.size_append, e3]; omega)
      refine ⟨r, Ev.succ ?_⟩
      have c3 : (strOfNums [(wrap64 (48 + (Int.tmod n 10))) % 256]).size + acc.size ≤ 9223372036854775807 := by rw [e3]; omega
      simp only [laws_markText.l0, c1, ↓reduceIte, Option.bind_some, c3, e]
      exact hr
    · refine ⟨(⟨#[109]⟩ : ByteArray) ++ acc, Ev.succ ?_⟩
      have c2 : 1 + acc.size ≤ 9223372036854775807 := by omega
      simp only [laws_markText.l0, c1, c2, ↓reduceIte]
      exact Ev.now _
theorem laws_markText_some (n : Int) (h0 : 0 ≤ n) (hn : n ≤ 4611686018427387904) : ∃ r, Ev (fun k => laws_markText.f k n) r := by
  unfold laws_markText.f
  by_cases c : n ≤ 0
  · simp only [c, ↓reduceIte]
    exact ⟨_, Ev.now _⟩
  · simp only [c, ↓reduceIte]
    exact laws_markText_l0 63 n ⟨#[]⟩ h0 (by omega) hn (by decide)
theorem laws_markText_fn : ∃ f : Int → ByteArray, ∀ n : Int, 0 ≤ n → n ≤ 4611686018427387904 → Ev (fun k => laws_markText.f k n) (f n) :=
  ⟨fun n => if h : 0 ≤ n ∧ n ≤ 4611686018427387904 then Classical.choose (laws_markText_some n h.1 h.2) else ⟨#[]⟩, fun n h0 hn => by
    have e : (if h : 0 ≤ n ∧ n ≤ 4611686018427387904 then Classical.choose (laws_markText_some n h.1 h.2) else (⟨#[]⟩ : ByteArray)) = Classical.choose (laws_markText_some n h0 hn) := dif_pos ⟨h0, hn⟩
    show Ev _ (if h : 0 ≤ n ∧ n ≤ 4611686018427387904 then Classical.choose (laws_markText_some n h.1 h.2) else (⟨#[]⟩ : ByteArray))
    rw [e]
    exact Classical.choose_spec (laws_markText_some n h0 hn)⟩
theorem laws_markStringS_l0 (f : Int → ByteArray) (hf : ∀ n : Int, 0 ≤ n → n ≤ 4611686018427387904 → Ev (fun k => laws_markText.f k n) (f n)) (m : Int) (n : Nat) (h0 : 0 ≤ m) (hm : m + n ≤ 4611686018427387904) (d : Nat) : ∀ (i : Nat) (l : List ByteArray), l.length = n → l.take i = marksOf f m i → i + d = n → Ev (fun k => laws_markStringS.l0 k l (m + i) (i : Int)) (m + n, marksOf f m n) := by
  induction d with
  | zero =>
    intro i l hl ht hi
    obtain rfl : i = n := by omega
    refine Ev.succ ?_
    have h1 : ¬ ((i : Int) < (l.length : Int)) := by omega
    simp only [laws_markStringS.l0, h1, ↓reduceIte]
    rw [List.take_of_length_le (by omega)] at ht
    exact Ev.some_ (by rw [ht])
  | succ d ih =>
    intro i l hl ht hi
    refine Ev.succ ?_
    have h1 : (i : Int) < (l.length : Int) := by omega
    have h2 : (0 : Int) ≤ (i : Int) := by omega
    have hw : wrap64 ((i : Int) + 1) = ((i + 1 : Nat) : Int) := by rw [w64 (by omega) (by omega)]; rfl
    have hw2 : wrap64 (m + (i : Int) + 1) = m + ((i + 1 : Nat) : Int) := by rw [w64 (by omega) (by omega)]; omega
    simp only [laws_markStringS.l0, h1, h2, ↓reduceIte, hw, hw2, Int.toNat_natCast]
    refine Ev.bind (hf (m + i) (by omega) (by omega)) ?_
    exact ih (i + 1) (l.set i (f (m + i))) (by simp [hl]) (by rw [take_set_succ _ _ _ (by omega), ht, marksOf_succ]) (by omega)
theorem laws_markStringS_ev (f : Int → ByteArray) (hf : ∀ n : Int, 0 ≤ n → n ≤ 4611686018427387904 → Ev (fun k => laws_markText.f k n) (f n)) (l : List ByteArray) (m : Int) (h0 : 0 ≤ m) (hm : m + l.length ≤ 4611686018427387904) : Ev (fun k => laws_markStringS.f k l m) (m + l.length, marksOf f m l.length) := by
  have h := laws_markStringS_l0 f hf m l.length h0 hm l.length 0 l rfl (by simp [marksOf]) (by omega)
  simpa [laws_markStringS.f] using h

theorem spec_pfSlots_ev (a b c : Int) (l : List Int) (ks : List ByteArray) (h : goodDisplaced a b c l = true) (hk : ks.length ≤ 40) (hs : ∀ s ∈ ks, s.size ≤ 9223372036854775807) : Ev (fun k => spec_pfSlots.f k a b c l ks) (distinctSlots a b c l ks) := by
  suffices H : ∀ d i : Nat, i + d = ks.length → (slotsOf a b c l (ks.take i)).Nodup → Ev (fun k => spec_pfSlots.l0 k (slotsOf a b c l (ks.take i)) ks (ks.length : Int) (i : Int) a b c l) (distinctSlots a b c l ks) from H ks.length 0 (by omega) (by simp [slotsOf])
  intro d
  induction d with
  | zero =>
    intro i hi hn
    refine Ev.succ ?_
    have h1 : ¬ ((i : Int) < (ks.length : Int)) := by omega
    rw [List.take_of_length_le (by omega)] at hn
    simp only [spec_pfSlots.l0, h1, ↓reduceIte]
    refine Ev.some_ ?_
    unfold distinctSlots
    rw [if_pos hn, List.take_of_length_le (by omega)]
  | succ d ih =>
    intro i hi hn
    refine Ev.succ ?_
    have h0 : i < ks.length := by omega
    have h1 : (i : Int) < (ks.length : Int) := by omega
    have h2 : (0 : Int) ≤ (i : Int) := by omega
    have hw : wrap64 ((i : Int) + 1) = ((i + 1 : Nat) : Int) := by rw [w64 (by omega) (by omega)]; rfl
    have hlen := slotsOf_length a b c l (ks.take i)
    have hlt := List.length_take_le i ks
    have h4 : (slotsOf a b c l (ks.take i)).length < 17592186044416 := by omega
    have hsn := slotsOf_snoc a b c l ks i h0
    have hpre : slotsOf a b c l (ks.take (i + 1)) <+: slotsOf a b c l ks := by
      unfold slotsOf
      exact (List.take_prefix (i + 1) ks).map _
    rw [hsn] at hpre
    simp only [spec_pfSlots.l0, h1, h2, ↓reduceIte, hw, rdOf_nat ByteArray.empty ks i h0]
    refine Ev.bind (spec_pfSlotOf_ev a b c l _ (hs _ (List.getElem_mem h0)) h) ?_
    refine Ev.bind (spec_l1Has_ev _ _ (by omega)) ?_
    by_cases g : slotOf a b c l ks[i] ∈ slotsOf a b c l (ks.take i)
    · simp only [g, decide_true, ↓reduceIte]
      refine Ev.some_ ?_
      have hno : ¬ (slotsOf a b c l ks).Nodup := by
        intro hN
        have h5 := hN.sublist hpre.sublist
        rw [List.nodup_append] at h5
        exact h5.2.2 _ g _ (by simp) rfl
      unfold distinctSlots
      rw [if_neg hno]
    · simp only [g, decide_false, Bool.false_eq_true, h4, ↓reduceIte]
      have e := ih (i + 1) (by omega)
      rw [hsn] at e
      refine e ?_
      rw [List.nodup_append]
      refine ⟨hn, by simp, ?_⟩
      intro x hx' y hy exy
      simp at hy
      subst hy
      exact g (exy ▸ hx')
def freeFrom (xs : List Int) (n i : Nat) : List Int := ((List.range' i (n - i)).filter fun j : Nat => !decide ((j : Int) ∈ xs)).map fun j : Nat => (j : Int)
theorem freeFrom_end (xs : List Int) (n : Nat) : freeFrom xs n n = [] := by simp [freeFrom]
theorem freeFrom_step (xs : List Int) (n i : Nat) (h : i < n) : freeFrom xs n i = if (i : Int) ∈ xs then freeFrom xs n (i + 1) else (i : Int) :: freeFrom xs n (i + 1) := by
  unfold freeFrom
  rw [show n - i = (n - (i + 1)) + 1 from by omega, List.range'_succ, List.filter_cons]
  by_cases c : (i : Int) ∈ xs <;> simp [c]
theorem freeFrom_length (xs : List Int) (n i : Nat) : (freeFrom xs n i).length ≤ n - i := by
  unfold freeFrom
  rw [List.length_map]
  have h := List.length_filter_le (fun j : Nat => !decide ((j : Int) ∈ xs)) (List.range' i (n - i))
  rw [List.length_range'] at h
  exact h
theorem spec_free_l0 (a b c : Int) (l xs : List Int) (hx : xs.length ≤ 1000) (hc0 : 0 ≤ c) (hc : c ≤ 1000) (d : Nat) : ∀ (i : Nat) (acc : List Int), i + d = c.toNat → acc.length ≤ i → Ev (fun k => spec_FreeSlots.l0 k xs acc (i : Int) a b c l) (acc ++ freeFrom xs c.toNat i, true) := by
  induction d with
  | zero =>
    intro i acc hi ha
    refine Ev.succ ?_
    have h1 : ¬ ((i : Int) < c) := by omega
    obtain rfl : i = c.toNat := by omega
    simp only [spec_FreeSlots.l0, h1, ↓reduceIte]
    exact Ev.some_ (by rw [freeFrom_end, List.append_nil])
  | succ d ih =>
    intro i acc hi ha
    refine Ev.succ ?_
    have h1 : (i : Int) < c := by omega
    have hw : wrap64 ((i : Int) + 1) = ((i + 1 : Nat) : Int) := by rw [w64 (by omega) (by omega)]; rfl
    have h4 : acc.length < 17592186044416 := by omega
    simp only [spec_FreeSlots.l0, h1, ↓reduceIte, hw]
    refine Ev.bind (spec_l1Has_ev _ _ (by omega)) ?_
    rw [freeFrom_step _ _ _ (by omega)]
    by_cases g : (i : Int) ∈ xs
    · simp only [g, decide_true, ↓reduceIte]
      exact ih (i + 1) acc (by omega) (by omega)
    · simp only [g, decide_false, Bool.false_eq_true, h4, ↓reduceIte]
      have e := ih (i + 1) (acc ++ [(i : Int)]) (by omega) (by simp; omega)
      rw [List.append_assoc] at e
      exact e
theorem impl_free_l0 (xs : List Int) (c : Int) (hx : xs.length ≤ 1000) (hc0 : 0 ≤ c) (hc : c ≤ 1000) (d : Nat) : ∀ (i : Nat) (acc : List Int), i + d = c.toNat → acc.length ≤ i → Ev (fun k => impl_FreeSlots.l0 k acc xs c (i : Int)) (acc ++ freeFrom xs c.toNat i, true) := by
  induction d with
  | zero =>
    intro i acc hi ha
    refine Ev.succ ?_
    have h1 : ¬ ((i : Int) < c) := by omega
    obtain rfl : i = c.toNat := by omega
    simp only [impl_FreeSlots.l0, h1, ↓reduceIte]
    exact Ev.some_ (by rw [freeFrom_end, List.append_nil])
  | succ d ih =>
    intro i acc hi ha
    refine Ev.succ ?_
    have h1 : (i : Int) < c := by omega
    have hw : wrap64 ((i : Int) + 1) = ((i + 1 : Nat) : Int) := by rw [w64 (by omega) (by omega)]; rfl
    have h4 : acc.length < 17592186044416 := by omega
    simp only [impl_FreeSlots.l0, h1, ↓reduceIte, hw]
    refine Ev.bind (slices_Contains_int_int_ev _ _ (by omega)) ?_
    rw [freeFrom_step _ _ _ (by omega)]
    by_cases g : (i : Int) ∈ xs
    · simp only [g, decide_true, ↓reduceIte]
      exact ih (i + 1) acc (by omega) (by omega)
    · simp only [g, decide_false, Bool.false_eq_true, h4, ↓reduceIte]
      have e := ih (i + 1) (acc ++ [(i : Int)]) (by omega) (by simp; omega)
      rw [List.append_assoc] at e
      exact e
def freeV (a b c : Int) (l : List Int) (ks : List ByteArray) : List Int × Bool := if (goodDisplaced a b c l && areKeys ks) = true ∧ (slotsOf a b c l ks).Nodup then (freeFrom (slotsOf a b c l ks) c.toNat 0, true) else ([], false)
theorem freeV_length (a b c : Int) (l : List Int) (ks : List ByteArray) : (freeV a b c l ks).1.length ≤ 64 := by
  unfold freeV
  by_cases h : (goodDisplaced a b c l && areKeys ks) = true ∧ (slotsOf a b c l ks).Nodup
  · rw [if_pos h]
    have h1 := h.1
    simp only [Bool.and_eq_true] at h1
    obtain ⟨_, _, ⟨c0, c1⟩, _⟩ := goodDisplaced_of h1.1
    have := freeFrom_length (slotsOf a b c l ks) c.toNat 0
    show (freeFrom (slotsOf a b c l ks) c.toNat 0).length ≤ 64
    omega
  · rw [if_neg h]; exact Nat.zero_le _
theorem spec_FreeSlots_ev (a b c : Int) (l : List Int) (ks : List ByteArray) (hl : l.length ≤ 9223372036854775807) (hk : ks.length ≤ 9223372036854775807) (hs : ∀ s ∈ ks, s.size ≤ 9223372036854775807) : Ev (fun k => spec_FreeSlots.f k a b c l ks) (freeV a b c l ks) := by
  unfold spec_FreeSlots.f freeV
  refine Ev.bind (spec_pfDisplaced_ev a b c l hl) ?_
  cases h : goodDisplaced a b c l with
  | false => simp only [Bool.false_eq_true, ↓reduceIte, Bool.false_and, false_and]; refine Ev.succ ?_; simp only [spec_FreeSlots.j0, ↓reduceIte]; exact Ev.now _
  | true =>
    simp only [↓reduceIte, Bool.true_and]
    refine Ev.bind (spec_biKeys_ev ks hk hs) ?_
    refine Ev.succ ?_
    cases hks : areKeys ks with
    | false => simp only [spec_FreeSlots.j0, Bool.not_false, Bool.false_eq_true, ↓reduceIte, false_and]; exact Ev.now _
    | true =>
      obtain ⟨_, _, ⟨c0, c1⟩, _⟩ := goodDisplaced_of h
      have h40 := (areKeys_of hks).1
      simp only [spec_FreeSlots.j0, Bool.not_true, Bool.false_eq_true, ↓reduceIte, true_and]
      refine Ev.bind (spec_pfSlots_ev a b c l ks h h40 hs) ?_
      unfold distinctSlots
      by_cases g : (slotsOf a b c l ks).Nodup
      · simp only [g, ↓reduceIte]
        have e := spec_free_l0 a b c l (slotsOf a b c l ks) (by rw [slotsOf_length]; omega) (by omega) (by omega) c.toNat 0 [] (Nat.zero_add _) (by simp)
        rw [List.nil_append] at e
        exact e
      · simp only [g, Bool.false_eq_true, ↓reduceIte]
        exact Ev.now _
theorem impl_FreeSlots_ev (a b c : Int) (l : List Int) (ks : List ByteArray) (hl : l.length ≤ 9223372036854775807) (hk : ks.length ≤ 9223372036854775807) (hs : ∀ s ∈ ks, s.size ≤ 9223372036854775807) : Ev (fun k => impl_FreeSlots.f k a b c l ks) (freeV a b c l ks) := by
  unfold impl_FreeSlots.f impl_IsDisplacedFor.f freeV
  have D : Ev (fun k => (impl_IsDisplaced.f k a b c l).bind fun t => if t = true then ((impl_AreKeys.f k ks).bind fun t1 => impl_IsDisplacedFor.j0 k ks (!t1) a b c l) else impl_IsDisplacedFor.j0 k ks true a b c l) (if (goodDisplaced a b c l && areKeys ks) = true then (decide (slotsOf a b c l ks).Nodup, true) else (false, false)) := by
    refine Ev.bind (impl_IsDisplaced_ev a b c l hl) ?_
    cases h : goodDisplaced a b c l with
    | false => simp only [Bool.false_eq_true, ↓reduceIte, Bool.false_and]; refine Ev.succ ?_; simp only [impl_IsDisplacedFor.j0, ↓reduceIte]; exact Ev.now _
    | true =>
      simp only [↓reduceIte, Bool.true_and]
      refine Ev.bind (impl_AreKeys_ev ks hk hs) ?_
      refine Ev.succ ?_
      cases hks : areKeys ks with
      | false => simp only [impl_IsDisplacedFor.j0, Bool.not_false, Bool.false_eq_true, ↓reduceIte]; exact Ev.now _
      | true =>
        obtain ⟨_, _, ⟨c0, c1⟩, _⟩ := goodDisplaced_of h
        have h40 := (areKeys_of hks).1
        simp only [impl_IsDisplacedFor.j0, Bool.not_true, Bool.false_eq_true, ↓reduceIte]
        refine Ev.bind (impl_slots_ev a b c l ks h h40 hs) ?_
        have hd : impl_distinct.f (slotsOf a b c l ks) = some (decide (slotsOf a b c l ks).Nodup) := by
          unfold impl_distinct.f
          rw [if_pos (by rw [slotsOf_length]; omega), if_pos ?_]
          simp only [List.all_eq_true, decide_eq_true_eq]
          intro x hx
          have := slotsOf_range (show 0 < c by omega) x hx
          omega
        simp only [hd, Option.bind_some]
        exact Ev.now _
  refine Ev.bind D ?_
  cases h : goodDisplaced a b c l && areKeys ks with
  | false => simp only [Bool.false_eq_true, ↓reduceIte, false_and]; refine Ev.succ ?_; simp only [impl_FreeSlots.j0, ↓reduceIte]; exact Ev.now _
  | true =>
    have h1 := h
    simp only [Bool.and_eq_true] at h1
    obtain ⟨_, _, ⟨c0, c1⟩, _⟩ := goodDisplaced_of h1.1
    have h40 := (areKeys_of h1.2).1
    simp only [↓reduceIte, true_and]
    refine Ev.succ ?_
    by_cases g : (slotsOf a b c l ks).Nodup
    · simp only [impl_FreeSlots.j0, g, decide_true, Bool.not_true, Bool.false_eq_true, ↓reduceIte]
      refine Ev.bind (impl_slots_ev a b c l ks h1.1 h40 hs) ?_
      have e := impl_free_l0 (slotsOf a b c l ks) c (by rw [slotsOf_length]; omega) (by omega) (by omega) c.toNat 0 [] (Nat.zero_add _) (by simp)
      rw [List.nil_append] at e
      exact e
    · simp only [impl_FreeSlots.j0, g, decide_false, Bool.not_false, ↓reduceIte]
      exact Ev.now _
theorem FnExactFreeSlots : ∀ (a0_0 : Int) (a0_1 : Int) (a0_2 : Int) (l0_3 : List Int) (l1 : List ByteArray), ((Lit.int .i64 a0_0).wf = true) → ((Lit.int .i64 a0_1).wf = true) → ((Lit.int .i64 a0_2).wf = true) → (l0_3.length ≤ maxLen ∧ ∀ l0_3' ∈ l0_3, (Lit.int .i64 l0_3').wf = true) → (l1.length ≤ maxLen ∧ ∀ l1' ∈ l1, l1'.size ≤ maxLen) → ∃ k, laws_FnExactFreeSlots.f k a0_0 a0_1 a0_2 l0_3 l1 = some true := by
  intro a b c l ks h0 h1 h2 hl hk
  refine Ev.rounds ?_
  have hl1 : l.length ≤ 9223372036854775807 := by have := hl.1; unfold maxLen at this; exact this
  have hk1 : ks.length ≤ 9223372036854775807 := by have := hk.1; unfold maxLen at this; exact this
  have hk2 : ∀ s ∈ ks, s.size ≤ 9223372036854775807 := by have := hk.2; unfold maxLen at this; exact this
  obtain ⟨f, hf⟩ := laws_markText_fn
  unfold laws_FnExactFreeSlots.f
  simp only [laws_szDisplaced_eq a b c l 1048576 (by decide) (by decide) hl1, Option.bind_some]
  by_cases e : (l.length : Int) ≤ 1048576
  · simp only [e, ↓reduceIte, show ¬ (1048576 - (l.length : Int) < 0) from by omega]
    refine Ev.bind (laws_szStringS_ev ks _ hk1 hk2 (by omega) (by omega)) ?_
    by_cases z : szTexts ks (1048576 - (l.length : Int)) < 0
    · simp only [z, ↓reduceIte]; exact Ev.now _
    simp only [z, ↓reduceIte]
    have zz := szTexts_of z
    have hg := freeV_length a b c l ks
    have hi := impl_FreeSlots_ev a b c l ks hl1 hk1 hk2
    refine Ev.bind (laws_toDisplaced_ev a b c l (by omega)) ?_
    refine Ev.bind (laws_toStringS_ev ks (by omega)) ?_
    refine Ev.bind (spec_FreeSlots_ev a b c l ks hl1 hk1 hk2) ?_
    refine Ev.bind (laws_toDisplaced_ev a b c l (by omega)) ?_
    refine Ev.bind (laws_toStringS_ev ks (by omega)) ?_
    refine Ev.bind hi ?_
    generalize freeV a b c l ks = v at *
    refine Ev.bind (laws_eqIntS_self v.1 (by omega)) ?_
    simp only [↓reduceIte, bne_self_eq_false]
    refine Ev.succ ?_
    simp only [laws_FnExactFreeSlots.j0, Bool.false_eq_true, ↓reduceIte]
    refine Ev.bind (laws_toDisplaced_ev a b c l (by omega)) ?_
    refine Ev.bind (laws_eqDisplaced_self a b c l hl1) ?_
    simp only [↓reduceIte]
    refine Ev.bind (laws_toStringS_ev ks (by omega)) ?_
    refine Ev.bind (laws_eqStringS_self ks hk1) ?_
    simp only [↓reduceIte]
    unfold laws_markDisplaced.f
    refine Ev.bind (a := (1 + (l.length : Int), marks 1 l.length)) (Ev.bind (laws_markIntS_ev l 1 (by omega) (by omega)) (Ev.now _)) ?_
    refine Ev.bind (laws_markStringS_ev f hf ks (1 + (l.length : Int)) (by omega) (by omega)) ?_
    simp only [show ¬ ((1 : Int) + (l.length : Int) + (ks.length : Int) < 0) from by omega, ↓reduceIte]
    refine Ev.bind (laws_eqIntS_self v.1 (by omega)) ?_
    simp only [↓reduceIte, bne_self_eq_false]
    refine Ev.succ ?_
    simp only [laws_FnExactFreeSlots.j1, Bool.false_eq_true, ↓reduceIte]
    refine Ev.bind (laws_markIntS_ev v.1 1 (by omega) (by omega)) ?_
    refine Ev.bind (laws_heldIntS_ev 1 v.1.length (by omega) (by omega)) ?_
    simp only [show ¬ ((1 : Int) + (v.1.length : Int) < 0) from by omega, ↓reduceIte]
    refine Ev.bind (laws_toDisplaced_ev a b c l (by omega)) ?_
    refine Ev.bind (laws_toStringS_ev ks (by omega)) ?_
    refine Ev.bind hi ?_
    refine Ev.bind (laws_eqIntS_self v.1 (by omega)) ?_
    simp only [↓reduceIte, bne_self_eq_false]
    refine Ev.succ ?_
    simp only [laws_FnExactFreeSlots.j2, Bool.false_eq_true, ↓reduceIte]
    refine Ev.bind (laws_heldIntS_ev 1 v.1.length (by omega) (by omega)) ?_
    simp only [show ¬ ((1 : Int) + (v.1.length : Int) < 0) from by omega, ↓reduceIte]
    exact Ev.now _
  · simp only [e, ↓reduceIte, show ((-1 : Int) < 0) from by decide]
    exact Ev.now _

end Go.Proofs.Ytpadboijploheaa.Pure
