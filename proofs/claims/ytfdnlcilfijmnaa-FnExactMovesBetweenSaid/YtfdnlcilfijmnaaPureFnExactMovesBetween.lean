/- The program's MovesBetween returns what the reference's returns, for all arguments. -/
import Derived.Test.YtfdnlcilfijmnaaPFnExactMovesBetweenx8
import Derived.Test.YtfdnlcilfijmnaaBase
namespace Go.Proofs.Ytfdnlcilfijmnaa.Pure
open Go.RowKit Go.Proofs.Ytfdnlcilfijmnaa.PFnExactMovesBetween Go.Proofs.YtfdnlcilfijmnaaW.PrintWords Go.Proofs.YtfdnlcilfijmnaaW.PrintLast Go.Proofs.Ytfdnlcilfijmnaa.Base
set_option linter.unusedVariables false
set_option linter.unusedSimpArgs false

theorem spec_l1In_eq (a b c : Int) : spec_l1In.f a b c = some (decide (b ≤ a ∧ a ≤ c)) := by
  unfold spec_l1In.f
  by_cases h : b ≤ a <;> simp [h]
theorem spec_cuSize_eq (a b : Int) : spec_cuSize.f a b = some (decide ((0 ≤ a ∧ a ≤ 9999) ∧ 1 ≤ b ∧ b ≤ 64)) := by
  by_cases h : 0 ≤ a ∧ a ≤ 9999 <;> simp [spec_cuSize.f, spec_l1In_eq, h]
theorem impl_in_eq (a b c : Int) : impl_in.f a b c = some (decide (b ≤ a ∧ a ≤ c)) := by
  unfold impl_in.f
  by_cases h : b ≤ a <;> simp [h]
theorem impl_cellsOk_eq (a : Int) : impl_cellsOk.f a = some (decide (1 ≤ a ∧ a ≤ 64)) := by
  simp only [impl_cellsOk.f, impl_in_eq, Option.bind_some]
theorem impl_isSeed_eq (a : Int) : impl_isSeed.f a = some (decide (0 ≤ a ∧ a ≤ 9999)) := by
  simp only [impl_isSeed.f, impl_in_eq, Option.bind_some]
theorem spec_pow (h : Int) (h0 : 0 ≤ h) (h1 : h < 65521) : Int.tmod (wrap64 ((Int.tmod (wrap64 ((Int.tmod (wrap64 ((Int.tmod (wrap64 ((Int.tmod (wrap64 (h * h)) 65521) * (Int.tmod (wrap64 (h * h)) 65521))) 65521) * h)) 65521) * (Int.tmod (wrap64 ((Int.tmod (wrap64 ((Int.tmod (wrap64 (h * h)) 65521) * (Int.tmod (wrap64 (h * h)) 65521))) 65521) * h)) 65521))) 65521) * h)) 65521 = h ^ 11 % 65521 := by
  have step : ∀ a b : Int, 0 ≤ a → a < 65521 → 0 ≤ b → b < 65521 → Int.tmod (wrap64 (a * b)) 65521 = a * b % 65521 := by
    intro a b ha ha' hb hb'
    obtain ⟨p0, p1⟩ := prod_range ha ha' hb hb'
    rw [w64 (by omega) (by omega), tmod_pos p0]
  have rng : ∀ x : Int, 0 ≤ x % 65521 ∧ x % 65521 < 65521 := fun x => ⟨Int.emod_nonneg _ (by decide), Int.emod_lt_of_pos _ (by decide)⟩
  rw [step h h h0 h1 h0 h1]
  rw [step _ _ (rng _).1 (rng _).2 (rng _).1 (rng _).2]
  rw [step _ _ (rng _).1 (rng _).2 h0 h1]
  rw [step _ _ (rng _).1 (rng _).2 (rng _).1 (rng _).2]
  rw [step _ _ (rng _).1 (rng _).2 h0 h1]
  simp only [mul_mod_l, mul_mod_r]
  congr 1
  simp only [Int.pow_succ, Int.pow_zero, Int.one_mul, Int.mul_assoc]
theorem spec_biHash_l0 (s : ByteArray) (hs : s.size ≤ 9223372036854775807) (d : Nat) : ∀ (i : Nat) (h : Int), i + d = s.size → 0 ≤ h → h < 65521 → Ev (fun k => spec_biHash.l0 k s h (i : Int)) (hashFrom h ((bytesOf s).drop i)) := by
  induction d with
  | zero =>
    intro i h hi h0 h1
    refine Ev.succ ?_
    have c1 : ¬ ((i : Int) < (s.size : Int)) := by omega
    simp only [spec_biHash.l0, c1, ↓reduceIte]
    rw [spec_pow h h0 h1]
    exact Ev.some_ (by rw [List.drop_of_length_le (by rw [bytesOf_length]; omega)]; rfl)
  | succ d ih =>
    intro i h hi h0 h1
    refine Ev.succ ?_
    have c1 : (i : Int) < (s.size : Int) := by omega
    have c2 : (0 : Int) ≤ (i : Int) := by omega
    have hw : wrap64 ((i : Int) + 1) = ((i + 1 : Nat) : Int) := by rw [w64 (by omega) (by omega)]; rfl
    have hb := bt_nat s i (by omega)
    have hr := bt_range s i
    have e : Int.tmod (wrap64 ((wrap64 (263 * h)) + (wrap64 (bt s i)))) 65521 = hstep h (bt s i) := by
      rw [w64 (n := 263 * h) (by omega) (by omega), w64 (n := bt s i) (by omega) (by omega), w64 (by omega) (by omega), tmod_pos (by omega)]
      rfl
    simp only [spec_biHash.l0, c1, c2, ↓reduceIte, hw, e]
    rw [drop_cons _ _ (by rw [bytesOf_length]; omega), ← hb]
    exact ih (i + 1) (hstep h (bt s i)) (by omega) (Int.emod_nonneg _ (by decide)) (Int.emod_lt_of_pos _ (by decide))
theorem spec_biHash_ev (a b : Int) (s : ByteArray) (hs : s.size ≤ 9223372036854775807) (ha0 : 0 ≤ a) (ha1 : a ≤ 9999) (hb0 : 0 ≤ b) (hb1 : b ≤ 9) : Ev (fun k => spec_biHash.f k a b s) (hashV a b s) := by
  have e : Int.tmod (wrap64 ((wrap64 ((wrap64 (31 * a)) + (wrap64 (977 * b)))) + 7)) 65521 = hash0 a b := by
    rw [w64 (n := 31 * a) (by omega) (by omega), w64 (n := 977 * b) (by omega) (by omega), w64 (n := 31 * a + 977 * b) (by omega) (by omega), w64 (by omega) (by omega), tmod_pos (by omega)]
    rfl
  unfold spec_biHash.f
  simp only [e]
  exact spec_biHash_l0 s hs s.size 0 (hash0 a b) (by omega) (Int.emod_nonneg _ (by decide)) (Int.emod_lt_of_pos _ (by decide))
theorem spec_biPlace_ev (a b : Int) (s : ByteArray) (n : Int) (hs : s.size ≤ 9223372036854775807) (ha0 : 0 ≤ a) (ha1 : a ≤ 9999) (hb0 : 0 ≤ b) (hb1 : b ≤ 9) (hn0 : 0 ≤ n) (hn1 : n ≤ 65521) : Ev (fun k => spec_biPlace.f k a b s n) (placeV a b s n) := by
  have hr := hash_range a b s
  have p0 : 0 ≤ hashV a b s * n := Int.mul_nonneg hr.1 hn0
  have p1 : hashV a b s * n ≤ 4293001441 := by
    have h1 : hashV a b s * n ≤ hashV a b s * 65521 := Int.mul_le_mul_of_nonneg_left (by omega) hr.1
    omega
  unfold spec_biPlace.f
  refine Ev.bind (spec_biHash_ev a b s hs ha0 ha1 hb0 hb1) ?_
  refine Ev.some_ ?_
  have h2 : hashV a b s * n / 65521 ≤ hashV a b s * n := Int.ediv_le_self _ p0
  have h3 : 0 ≤ hashV a b s * n / 65521 := Int.ediv_nonneg p0 (by decide)
  rw [w64 (n := hashV a b s * n) (by omega) (by omega), tdiv_pos p0, w64 (by omega) (by omega)]
  rfl
theorem spec_cuCells_ev (a : Int) (s : ByteArray) (n : Int) (hs : s.size ≤ 9223372036854775807) (ha0 : 0 ≤ a) (ha1 : a ≤ 9999) (hn0 : 0 ≤ n) (hn1 : n ≤ 65521) : Ev (fun k => spec_cuCells.f k a s n) [placeV a 0 s n, placeV a 1 s n] := by
  unfold spec_cuCells.f
  refine Ev.bind (spec_biPlace_ev a 0 s n hs ha0 ha1 (by decide) (by decide) hn0 hn1) ?_
  exact Ev.bind (spec_biPlace_ev a 1 s n hs ha0 ha1 (by decide) (by decide) hn0 hn1) (Ev.now _)
theorem impl_hash_l1 (h : Int) (h0 : 0 ≤ h) (h1 : h < 65521) (d : Nat) : ∀ (i : Nat) (o : Int), i + d = 11 → o = h ^ i % 65521 → Ev (fun k => impl_hash.l1 k h o (i : Int)) (h ^ 11 % 65521) := by
  induction d with
  | zero =>
    intro i o hi ho
    obtain rfl : i = 11 := by omega
    refine Ev.succ ?_
    simp only [impl_hash.l1]
    exact Ev.some_ ho
  | succ d ih =>
    intro i o hi ho
    refine Ev.succ ?_
    have c1 : (i : Int) < 11 := by omega
    have hw : wrap64 ((i : Int) + 1) = ((i + 1 : Nat) : Int) := by rw [w64 (by omega) (by omega)]; rfl
    have r : 0 ≤ o ∧ o < 65521 := by rw [ho]; exact ⟨Int.emod_nonneg _ (by decide), Int.emod_lt_of_pos _ (by decide)⟩
    obtain ⟨p0, p1⟩ := prod_range r.1 r.2 h0 h1
    have e : Int.tmod (wrap64 (o * h)) 65521 = h ^ (i + 1) % 65521 := by
      rw [w64 (by omega) (by omega), tmod_pos p0, ho, mul_mod_l, Int.pow_succ]
    simp only [impl_hash.l1, c1, ↓reduceIte, hw]
    exact ih (i + 1) _ (by omega) e
theorem impl_hash_l0 (s : ByteArray) (hs : s.size ≤ 9223372036854775807) (d : Nat) : ∀ (i : Nat) (h : Int), i + d = s.size → 0 ≤ h → h < 65521 → Ev (fun k => impl_hash.l0 k s h (s.size : Int) (i : Int)) (hashFrom h ((bytesOf s).drop i)) := by
  induction d with
  | zero =>
    intro i h hi h0 h1
    refine Ev.succ ?_
    have c1 : ¬ ((i : Int) < (s.size : Int)) := by omega
    simp only [impl_hash.l0, c1, ↓reduceIte]
    rw [List.drop_of_length_le (by rw [bytesOf_length]; omega)]
    exact impl_hash_l1 h h0 h1 11 0 1 (by omega) (by simp)
  | succ d ih =>
    intro i h hi h0 h1
    refine Ev.succ ?_
    have c1 : (i : Int) < (s.size : Int) := by omega
    have c2 : (0 : Int) ≤ (i : Int) := by omega
    have hw : wrap64 ((i : Int) + 1) = ((i + 1 : Nat) : Int) := by rw [w64 (by omega) (by omega)]; rfl
    have hb := bt_nat s i (by omega)
    have hr := bt_range s i
    have e : Int.tmod (wrap64 ((wrap64 (263 * h)) + (wrap64 (bt s i)))) 65521 = hstep h (bt s i) := by
      rw [w64 (n := 263 * h) (by omega) (by omega), w64 (n := bt s i) (by omega) (by omega), w64 (by omega) (by omega), tmod_pos (by omega)]
      rfl
    simp only [impl_hash.l0, c1, c2, ↓reduceIte, hw, e]
    rw [drop_cons _ _ (by rw [bytesOf_length]; omega), ← hb]
    exact ih (i + 1) (hstep h (bt s i)) (by omega) (Int.emod_nonneg _ (by decide)) (Int.emod_lt_of_pos _ (by decide))
theorem impl_hash_ev (a b : Int) (s : ByteArray) (hs : s.size ≤ 9223372036854775807) (ha0 : 0 ≤ a) (ha1 : a ≤ 9999) (hb0 : 0 ≤ b) (hb1 : b ≤ 9) : Ev (fun k => impl_hash.f k a b s) (hashV a b s) := by
  have e : Int.tmod (wrap64 ((wrap64 ((wrap64 (31 * a)) + (wrap64 (977 * b)))) + 7)) 65521 = hash0 a b := by
    rw [w64 (n := 31 * a) (by omega) (by omega), w64 (n := 977 * b) (by omega) (by omega), w64 (n := 31 * a + 977 * b) (by omega) (by omega), w64 (by omega) (by omega), tmod_pos (by omega)]
    rfl
  unfold impl_hash.f
  simp only [e]
  exact impl_hash_l0 s hs s.size 0 (hash0 a b) (by omega) (Int.emod_nonneg _ (by decide)) (Int.emod_lt_of_pos _ (by decide))
theorem impl_place_ev (a b : Int) (s : ByteArray) (n : Int) (hs : s.size ≤ 9223372036854775807) (ha0 : 0 ≤ a) (ha1 : a ≤ 9999) (hb0 : 0 ≤ b) (hb1 : b ≤ 9) (hn0 : 0 ≤ n) (hn1 : n ≤ 65521) : Ev (fun k => impl_place.f k a b s n) (placeV a b s n) := by
  have hr := hash_range a b s
  have p0 : 0 ≤ hashV a b s * n := Int.mul_nonneg hr.1 hn0
  have p1 : hashV a b s * n ≤ 4293001441 := by
    have h1 : hashV a b s * n ≤ hashV a b s * 65521 := Int.mul_le_mul_of_nonneg_left (by omega) hr.1
    omega
  unfold impl_place.f
  refine Ev.bind (impl_hash_ev a b s hs ha0 ha1 hb0 hb1) ?_
  refine Ev.some_ ?_
  have h2 : hashV a b s * n / 65521 ≤ hashV a b s * n := Int.ediv_le_self _ p0
  have h3 : 0 ≤ hashV a b s * n / 65521 := Int.ediv_nonneg p0 (by decide)
  rw [w64 (n := hashV a b s * n) (by omega) (by omega), tdiv_pos p0, w64 (by omega) (by omega)]
  rfl
theorem impl_cellsOf_ev (a : Int) (s : ByteArray) (n : Int) (hs : s.size ≤ 9223372036854775807) (ha0 : 0 ≤ a) (ha1 : a ≤ 9999) (hn0 : 0 ≤ n) (hn1 : n ≤ 65521) : Ev (fun k => impl_cellsOf.f k a s n) (placeV a 0 s n, placeV a 1 s n) := by
  unfold impl_cellsOf.f
  refine Ev.bind (impl_place_ev a 0 s n hs ha0 ha1 (by decide) (by decide) hn0 hn1) ?_
  exact Ev.bind (impl_place_ev a 1 s n hs ha0 ha1 (by decide) (by decide) hn0 hn1) (Ev.now _)
theorem spec_IsKey_ev (s : ByteArray) (hs : s.size ≤ 9223372036854775807) : Ev (fun k => spec_IsKey.f k s) (isKey s) := by
  have h := Ev.up (L := fun k i => spec_IsKey.l0 k s (i : Int)) (r := fun i => ((bytesOf s).drop i).all okByte && decide (1 ≤ (s.size : Int) ∧ (s.size : Int) ≤ 12)) s.size ?_ ?_ 0 (Nat.zero_le _)
  · exact h
  · refine Ev.succ ?_
    have h1 : ¬ ((s.size : Int) < (s.size : Int)) := by omega
    simp only [spec_IsKey.l0, h1, ↓reduceIte, spec_l1In_eq, Option.bind_some]
    exact Ev.some_ (by rw [List.drop_of_length_le (by rw [bytesOf_length]; exact Nat.le_refl _)]; simp)
  · intro i hi ih
    refine Ev.succ ?_
    have h1 : (i : Int) < (s.size : Int) := by omega
    have h2 : (0 : Int) ≤ (i : Int) := by omega
    have hw : wrap64 ((i : Int) + 1) = ((i + 1 : Nat) : Int) := by rw [w64 (by omega) (by omega)]; rfl
    have hb := bt_nat s i hi
    simp only [spec_IsKey.l0, h1, h2, ↓reduceIte, hw]
    rw [drop_cons _ _ (by rw [bytesOf_length]; exact hi), List.all_cons, ← hb]
    by_cases c1 : bt s i < 33
    · simp only [c1, ↓reduceIte]
      exact Ev.some_ (by simp [okByte]; omega)
    · by_cases c2 : bt s i > 125
      · simp only [c1, c2, ↓reduceIte]
        exact Ev.some_ (by simp [okByte]; omega)
      · simp only [c1, c2, ↓reduceIte]
        have c3 : okByte (bt s i) = true := by simp [okByte]; omega
        rw [c3, Bool.true_and]
        exact ih
theorem impl_IsKey_ev (s : ByteArray) (hs : s.size ≤ 9223372036854775807) : Ev (fun k => impl_IsKey.f k s) (isKey s) := by
  have h := Ev.up (L := fun k i => impl_IsKey.l0 k s (s.size : Int) (i : Int)) (r := fun i => ((bytesOf s).drop i).all okByte && decide (1 ≤ (s.size : Int) ∧ (s.size : Int) ≤ 12)) s.size ?_ ?_ 0 (Nat.zero_le _)
  · exact h
  · refine Ev.succ ?_
    have h1 : ¬ ((s.size : Int) < (s.size : Int)) := by omega
    simp only [impl_IsKey.l0, h1, ↓reduceIte, impl_in_eq, Option.bind_some]
    exact Ev.some_ (by rw [List.drop_of_length_le (by rw [bytesOf_length]; exact Nat.le_refl _)]; simp)
  · intro i hi ih
    refine Ev.succ ?_
    have h1 : (i : Int) < (s.size : Int) := by omega
    have h2 : (0 : Int) ≤ (i : Int) := by omega
    have hw : wrap64 ((i : Int) + 1) = ((i + 1 : Nat) : Int) := by rw [w64 (by omega) (by omega)]; rfl
    have hb := bt_nat s i hi
    simp only [impl_IsKey.l0, h1, h2, ↓reduceIte, hw]
    rw [drop_cons _ _ (by rw [bytesOf_length]; exact hi), List.all_cons, ← hb]
    by_cases c1 : bt s i < 33
    · simp only [c1, ↓reduceIte]
      exact Ev.some_ (by simp [okByte]; omega)
    · by_cases c2 : bt s i > 125
      · simp only [c1, c2, ↓reduceIte]
        exact Ev.some_ (by simp [okByte]; omega)
      · simp only [c1, c2, ↓reduceIte]
        have c3 : okByte (bt s i) = true := by simp [okByte]; omega
        rw [c3, Bool.true_and]
        exact ih
def keyAt (l : List ByteArray) (i : Nat) : Bool := isKey (rdOf ByteArray.empty l (i : Int)) && (decide (i = 0) || Op.bytesLess (rdOf ByteArray.empty l ((i - 1 : Nat) : Int)).toList (rdOf ByteArray.empty l (i : Int)).toList)
def keysFrom (l : List ByteArray) (i : Nat) : Bool := (List.range' i (l.length - i)).all (keyAt l) && decide ((l.length : Int) ≤ 40)
def areKeys (l : List ByteArray) : Bool := keysFrom l 0
theorem keysFrom_end (l : List ByteArray) : keysFrom l l.length = decide ((l.length : Int) ≤ 40) := by simp [keysFrom]
theorem keysFrom_step (l : List ByteArray) (i : Nat) (h : i < l.length) : keysFrom l i = (keyAt l i && keysFrom l (i + 1)) := by
  unfold keysFrom
  rw [show l.length - i = (l.length - (i + 1)) + 1 from by omega, List.range'_succ, List.all_cons, Bool.and_assoc]
theorem areKeys_of {l : List ByteArray} (h : areKeys l = true) : l.length ≤ 40 ∧ ∀ s ∈ l, isKey s = true := by
  unfold areKeys keysFrom at h
  simp only [Bool.and_eq_true, decide_eq_true_eq, List.all_eq_true, List.mem_range'] at h
  refine ⟨by omega, fun s hs => ?_⟩
  obtain ⟨i, hi, rfl⟩ := List.getElem_of_mem hs
  have := h.1 i ⟨i, by omega, by omega⟩
  unfold keyAt at this
  simp only [Bool.and_eq_true] at this
  rw [rdOf_nat _ _ _ hi] at this
  exact this.1
theorem rdOf_size {l : List ByteArray} (h : ∀ s ∈ l, s.size ≤ 9223372036854775807) (i : Int) : (rdOf ByteArray.empty l i).size ≤ 9223372036854775807 := by
  unfold rdOf
  rw [List.getD_eq_getElem?_getD]
  cases e : l[i.toNat]? with
  | none => simp
  | some x => simpa using h x (List.mem_of_getElem? e)
theorem spec_biKeys_ev (l : List ByteArray) (hl : l.length ≤ 9223372036854775807) (hs : ∀ s ∈ l, s.size ≤ 9223372036854775807) : Ev (fun k => spec_biKeys.f k l) (areKeys l) := by
  refine Ev.up (L := fun k i => spec_biKeys.l0 k l l (l.length : Int) (i : Int)) (r := fun i => keysFrom l i) l.length ?_ ?_ 0 (Nat.zero_le _)
  · refine Ev.succ ?_
    have h1 : ¬ ((l.length : Int) < (l.length : Int)) := by omega
    simp only [spec_biKeys.l0, h1, ↓reduceIte, keysFrom_end]
    exact Ev.now _
  · intro i hi ih
    refine Ev.succ ?_
    have h1 : (i : Int) < (l.length : Int) := by omega
    have h2 : (0 : Int) ≤ (i : Int) := by omega
    have hw : wrap64 ((i : Int) + 1) = ((i + 1 : Nat) : Int) := by rw [w64 (by omega) (by omega)]; rfl
    simp only [spec_biKeys.l0, h1, h2, ↓reduceIte, hw]
    refine Ev.bind (spec_IsKey_ev _ (rdOf_size hs _)) ?_
    rw [keysFrom_step l i hi]
    unfold keyAt
    cases isKey (rdOf ByteArray.empty l (i : Int)) with
    | false => simp only [Bool.false_eq_true, ↓reduceIte, Bool.false_and]; exact Ev.now _
    | true =>
      simp only [↓reduceIte, Bool.true_and]
      by_cases c : i = 0
      · subst c
        simp only [Int.natCast_zero, decide_true, Bool.true_or, Bool.true_and, ↓reduceIte, gt_iff_lt, Int.lt_irrefl]
        exact ih
      · have h3 : (i : Int) > 0 := by omega
        have hw1 : wrap64 ((i : Int) - 1) = ((i - 1 : Nat) : Int) := by rw [w64 (by omega) (by omega)]; omega
        have h4 : (0 : Int) ≤ ((i - 1 : Nat) : Int) := by omega
        have h5 : ((i - 1 : Nat) : Int) < (l.length : Int) := by omega
        simp only [c, h3, hw1, h4, h5, ↓reduceIte, decide_false, Bool.false_or]
        cases Op.bytesLess (rdOf ByteArray.empty l ((i - 1 : Nat) : Int)).toList (rdOf ByteArray.empty l (i : Int)).toList with
        | false => simp only [Bool.false_eq_true, ↓reduceIte, Bool.false_and]; exact Ev.now _
        | true => simp only [↓reduceIte, Bool.true_and]; exact ih
theorem impl_AreKeys_ev (l : List ByteArray) (hl : l.length ≤ 9223372036854775807) (hs : ∀ s ∈ l, s.size ≤ 9223372036854775807) : Ev (fun k => impl_AreKeys.f k l) (areKeys l) := by
  refine Ev.up (L := fun k i => impl_AreKeys.l0 k l l (l.length : Int) (i : Int)) (r := fun i => keysFrom l i) l.length ?_ ?_ 0 (Nat.zero_le _)
  · refine Ev.succ ?_
    have h1 : ¬ ((l.length : Int) < (l.length : Int)) := by omega
    simp only [impl_AreKeys.l0, h1, ↓reduceIte, keysFrom_end]
    exact Ev.now _
  · intro i hi ih
    refine Ev.succ ?_
    have h1 : (i : Int) < (l.length : Int) := by omega
    have h2 : (0 : Int) ≤ (i : Int) := by omega
    have hw : wrap64 ((i : Int) + 1) = ((i + 1 : Nat) : Int) := by rw [w64 (by omega) (by omega)]; rfl
    simp only [impl_AreKeys.l0, h1, h2, ↓reduceIte, hw]
    refine Ev.bind (impl_IsKey_ev _ (rdOf_size hs _)) ?_
    rw [keysFrom_step l i hi]
    unfold keyAt
    cases isKey (rdOf ByteArray.empty l (i : Int)) with
    | false => simp only [Bool.false_eq_true, ↓reduceIte, Bool.false_and]; exact Ev.now _
    | true =>
      simp only [↓reduceIte, Bool.true_and]
      by_cases c : i = 0
      · subst c
        simp only [Int.natCast_zero, decide_true, Bool.true_or, Bool.true_and, ↓reduceIte, gt_iff_lt, Int.lt_irrefl]
        exact ih
      · have h3 : (i : Int) > 0 := by omega
        have hw1 : wrap64 ((i : Int) - 1) = ((i - 1 : Nat) : Int) := by rw [w64 (by omega) (by omega)]; omega
        have h4 : (0 : Int) ≤ ((i - 1 : Nat) : Int) := by omega
        have h5 : ((i - 1 : Nat) : Int) < (l.length : Int) := by omega
        simp only [c, h3, hw1, h4, h5, ↓reduceIte, decide_false, Bool.false_or]
        cases Op.bytesLess (rdOf ByteArray.empty l ((i - 1 : Nat) : Int)).toList (rdOf ByteArray.empty l (i : Int)).toList with
        | false => simp only [Bool.false_eq_true, ↓reduceIte, Bool.false_and]; exact Ev.now _
        | true => simp only [↓reduceIte, Bool.true_and]; exact ih
def pairsV (a n : Int) (ks : List ByteArray) : List (List Int) := ks.map fun s => [placeV a 0 s n, placeV a 1 s n]
theorem pairsV_length (a n : Int) (ks : List ByteArray) : (pairsV a n ks).length = ks.length := by simp [pairsV]
theorem pairsV_snoc (a n : Int) (ks : List ByteArray) (i : Nat) (h : i < ks.length) : pairsV a n (ks.take (i + 1)) = pairsV a n (ks.take i) ++ [[placeV a 0 ks[i] n, placeV a 1 ks[i] n]] := by
  unfold pairsV
  rw [List.take_succ_eq_append_getElem h, List.map_append]
  rfl
def keyedV (a : Int) (ks : List ByteArray) (n : Int) : Bool := decide ((0 ≤ a ∧ a ≤ 9999) ∧ 1 ≤ n ∧ n ≤ 64) && areKeys ks
theorem keyedV_of {a n : Int} {ks : List ByteArray} (h : keyedV a ks n = true) : (0 ≤ a ∧ a ≤ 9999) ∧ (1 ≤ n ∧ n ≤ 64) ∧ areKeys ks = true := by
  unfold keyedV at h
  simp only [Bool.and_eq_true, decide_eq_true_eq] at h
  exact ⟨h.1.1, h.1.2, h.2⟩
theorem spec_cuKeyed_ev (a : Int) (ks : List ByteArray) (n : Int) (hk : ks.length ≤ 9223372036854775807) (hs : ∀ s ∈ ks, s.size ≤ 9223372036854775807) : Ev (fun k => spec_cuKeyed.f k a ks n) (keyedV a ks n) := by
  unfold spec_cuKeyed.f keyedV
  simp only [spec_cuSize_eq, Option.bind_some]
  by_cases c : (0 ≤ a ∧ a ≤ 9999) ∧ 1 ≤ n ∧ n ≤ 64
  · simp only [c, and_self, decide_true, ↓reduceIte, Bool.true_and]
    exact Ev.bind (spec_biKeys_ev ks hk hs) (Ev.now _)
  · simp only [c, decide_false, Bool.false_eq_true, ↓reduceIte, Bool.false_and]
    exact Ev.now _
theorem spec_cuPairs_ev (a n : Int) (ks : List ByteArray) (hl : ks.length ≤ 1000) (hs : ∀ s ∈ ks, s.size ≤ 9223372036854775807) (ha0 : 0 ≤ a) (ha1 : a ≤ 9999) (hn0 : 0 ≤ n) (hn1 : n ≤ 65521) : Ev (fun k => spec_cuPairs.f k a ks n) (pairsV a n ks) := by
  suffices h : ∀ d i : Nat, i + d = ks.length → Ev (fun k => spec_cuPairs.l0 k a n (pairsV a n (ks.take i)) ks (ks.length : Int) (i : Int)) (pairsV a n ks) from h ks.length 0 (by omega)
  intro d
  induction d with
  | zero =>
    intro i hi
    refine Ev.succ ?_
    have h1 : ¬ ((i : Int) < (ks.length : Int)) := by omega
    simp only [spec_cuPairs.l0, h1, ↓reduceIte]
    exact Ev.some_ (by rw [List.take_of_length_le (by omega)])
  | succ d ih =>
    intro i hi
    refine Ev.succ ?_
    have h0 : i < ks.length := by omega
    have h1 : (i : Int) < (ks.length : Int) := by omega
    have h2 : (0 : Int) ≤ (i : Int) := by omega
    have hw : wrap64 ((i : Int) + 1) = ((i + 1 : Nat) : Int) := by rw [w64 (by omega) (by omega)]; rfl
    have h3 : (pairsV a n (ks.take i)).length < 5864062014805 := by rw [pairsV_length, List.length_take]; omega
    simp only [spec_cuPairs.l0, h1, h2, ↓reduceIte, hw, rdOf_nat ByteArray.empty ks i h0]
    refine Ev.bind (spec_cuCells_ev a _ n (hs _ (List.getElem_mem h0)) ha0 ha1 hn0 hn1) ?_
    simp only [h3, ↓reduceIte]
    rw [← pairsV_snoc a n ks i h0]
    exact ih (i + 1) (by omega)
theorem impl_pairs_l0 (a n : Int) (ks : List ByteArray) (hl : ks.length ≤ 1000) (hs : ∀ s ∈ ks, s.size ≤ 9223372036854775807) (ha0 : 0 ≤ a) (ha1 : a ≤ 9999) (hn0 : 0 ≤ n) (hn1 : n ≤ 65521) : Ev (fun k => impl_pairs.l0 k a n ([] : List (List Int)) ks (ks.length : Int) 0) (pairsV a n ks, true) := by
  suffices h : ∀ d i : Nat, i + d = ks.length → Ev (fun k => impl_pairs.l0 k a n (pairsV a n (ks.take i)) ks (ks.length : Int) (i : Int)) (pairsV a n ks, true) from h ks.length 0 (by omega)
  intro d
  induction d with
  | zero =>
    intro i hi
    refine Ev.succ ?_
    have h1 : ¬ ((i : Int) < (ks.length : Int)) := by omega
    simp only [impl_pairs.l0, h1, ↓reduceIte]
    exact Ev.some_ (by rw [List.take_of_length_le (by omega)])
  | succ d ih =>
    intro i hi
    refine Ev.succ ?_
    have h0 : i < ks.length := by omega
    have h1 : (i : Int) < (ks.length : Int) := by omega
    have h2 : (0 : Int) ≤ (i : Int) := by omega
    have hw : wrap64 ((i : Int) + 1) = ((i + 1 : Nat) : Int) := by rw [w64 (by omega) (by omega)]; rfl
    have h3 : (pairsV a n (ks.take i)).length < 5864062014805 := by rw [pairsV_length, List.length_take]; omega
    simp only [impl_pairs.l0, h1, h2, ↓reduceIte, hw, rdOf_nat ByteArray.empty ks i h0]
    refine Ev.bind (impl_cellsOf_ev a _ n (hs _ (List.getElem_mem h0)) ha0 ha1 hn0 hn1) ?_
    simp only [h3, ↓reduceIte]
    rw [← pairsV_snoc a n ks i h0]
    exact ih (i + 1) (by omega)
def pairedV (a : Int) (ks : List ByteArray) (n : Int) : List (List Int) × Bool := if keyedV a ks n = true then (pairsV a n ks, true) else ([], false)
theorem impl_pairs_ev (a : Int) (ks : List ByteArray) (n : Int) (hk : ks.length ≤ 9223372036854775807) (hs : ∀ s ∈ ks, s.size ≤ 9223372036854775807) : Ev (fun k => impl_pairs.f k a ks n) (pairedV a ks n) := by
  unfold impl_pairs.f pairedV keyedV
  simp only [impl_isSeed_eq, Option.bind_some]
  by_cases c : 0 ≤ a ∧ a ≤ 9999
  · simp only [c, and_self, decide_true, ↓reduceIte, true_and]
    refine Ev.bind (impl_AreKeys_ev ks hk hs) ?_
    cases hks : areKeys ks with
    | false => simp only [Bool.false_eq_true, ↓reduceIte, Bool.and_false]; refine Ev.succ ?_; simp only [impl_pairs.j0, ↓reduceIte]; exact Ev.now _
    | true =>
      simp only [↓reduceIte, impl_cellsOk_eq, Option.bind_some, Bool.and_true]
      refine Ev.succ ?_
      by_cases c1 : 1 ≤ n ∧ n ≤ 64
      · simp only [impl_pairs.j0, c1, and_self, decide_true, Bool.not_true, Bool.false_eq_true, ↓reduceIte]
        exact impl_pairs_l0 a n ks (by have := (areKeys_of hks).1; omega) hs c.1 c.2 (by omega) (by omega)
      · simp only [impl_pairs.j0, c1, decide_false, Bool.not_false, Bool.false_eq_true, ↓reduceIte]
        exact Ev.now _
  · simp only [c, decide_false, Bool.false_eq_true, ↓reduceIte, false_and, Bool.false_and]
    refine Ev.succ ?_
    simp only [impl_pairs.j0, ↓reduceIte]
    exact Ev.now _
theorem mem_take_succ {l : List Int} {i : Nat} (h : i < l.length) (x : Int) : x ∈ l.take (i + 1) ↔ x ∈ l.take i ∨ x = rd l (i : Int) := by
  rw [List.take_succ_eq_append_getElem h, rd_nat l i h, List.mem_append, List.mem_singleton]
theorem spec_l1Has_ev (l : List Int) (x : Int) (hl : l.length ≤ 9223372036854775807) : Ev (fun k => spec_l1Has.f k l x) (decide (x ∈ l)) := by
  suffices h : ∀ d i : Nat, i + d = l.length → x ∉ l.take i → Ev (fun k => spec_l1Has.l0 k x l (l.length : Int) (i : Int)) (decide (x ∈ l)) from h l.length 0 (by omega) (by simp)
  intro d
  induction d with
  | zero =>
    intro i hi hn
    refine Ev.succ ?_
    have h1 : ¬ ((i : Int) < (l.length : Int)) := by omega
    rw [List.take_of_length_le (by omega)] at hn
    simp only [spec_l1Has.l0, h1, ↓reduceIte, hn, decide_false]
    exact Ev.now _
  | succ d ih =>
    intro i hi hn
    refine Ev.succ ?_
    have h1 : (i : Int) < (l.length : Int) := by omega
    have h2 : (0 : Int) ≤ (i : Int) := by omega
    have hw : wrap64 ((i : Int) + 1) = ((i + 1 : Nat) : Int) := by rw [w64 (by omega) (by omega)]; rfl
    simp only [spec_l1Has.l0, h1, h2, ↓reduceIte, hw]
    by_cases c : rd l (i : Int) = x
    · simp only [c, ↓reduceIte]
      have : x ∈ l := by rw [← c, rd_nat l i (by omega)]; exact List.getElem_mem _
      exact Ev.some_ (by simp [this])
    · simp only [c, ↓reduceIte]
      exact ih (i + 1) (by omega) (by rw [mem_take_succ (by omega)]; rintro (h | h); exact hn h; exact c h.symm)
theorem slices_Contains_int_int_ev (l : List Int) (x : Int) (hl : l.length ≤ 9223372036854775807) : Ev (fun k => slices_Contains_int_int.f k l x) (decide (x ∈ l)) := by
  have L : ∃ r : Int, decide (r ≥ 0) = decide (x ∈ l) ∧ Ev (fun k => slices_Index_int_int.f k l x) r := by
    suffices h : ∀ d i : Nat, i + d = l.length → x ∉ l.take i → ∃ r : Int, decide (r ≥ 0) = decide (x ∈ l) ∧ Ev (fun k => slices_Index_int_int.l0 k l x (l.length : Int) (i : Int)) r from h l.length 0 (by omega) (by simp)
    intro d
    induction d with
    | zero =>
      intro i hi hn
      have h1 : ¬ ((i : Int) < (l.length : Int)) := by omega
      rw [List.take_of_length_le (by omega)] at hn
      refine ⟨-1, by simp [hn], Ev.succ ?_⟩
      simp only [slices_Index_int_int.l0, h1, ↓reduceIte]
      exact Ev.now _
    | succ d ih =>
      intro i hi hn
      have h1 : (i : Int) < (l.length : Int) := by omega
      have h2 : (0 : Int) ≤ (i : Int) := by omega
      have hw : wrap64 ((i : Int) + 1) = ((i + 1 : Nat) : Int) := by rw [w64 (by omega) (by omega)]; rfl
      by_cases c : x = rd l (i : Int)
      · have : x ∈ l := by rw [c, rd_nat l i (by omega)]; exact List.getElem_mem _
        refine ⟨(i : Int), by simp [this], Ev.succ ?_⟩
        simp only [slices_Index_int_int.l0, h1, h2, ↓reduceIte]
        simp only [← c, ↓reduceIte]
        exact Ev.now _
      · obtain ⟨r, hr, he⟩ := ih (i + 1) (by omega) (by rw [mem_take_succ (by omega)]; rintro (h | h); exact hn h; exact c h)
        refine ⟨r, hr, Ev.succ ?_⟩
        simp only [slices_Index_int_int.l0, h1, h2, c, ↓reduceIte, hw]
        exact he
  obtain ⟨r, hr, he⟩ := L
  unfold slices_Contains_int_int.f
  refine Ev.bind he ?_
  exact Ev.some_ hr
def inAt (ls : List (List Int)) (l : List Int) (i : Nat) : Bool := decide (rd l (i : Int) ∈ rd_L3 ls (i : Int))
def inFrom (ls : List (List Int)) (l : List Int) (i : Nat) : Bool := (List.range' i (l.length - i)).all (inAt ls l)
theorem inFrom_end (ls : List (List Int)) (l : List Int) : inFrom ls l l.length = true := by simp [inFrom]
theorem inFrom_step (ls : List (List Int)) (l : List Int) (i : Nat) (h : i < l.length) : inFrom ls l i = (inAt ls l i && inFrom ls l (i + 1)) := by
  unfold inFrom
  rw [show l.length - i = (l.length - (i + 1)) + 1 from by omega, List.range'_succ, List.all_cons]
def placedV (ls : List (List Int)) (l : List Int) : Bool := decide ((l.length : Int) = (ls.length : Int)) && (decide l.Nodup && inFrom ls l 0)
theorem take_nodup_succ {l : List Int} {i : Nat} (hi : i < l.length) (h : (l.take i).Nodup) (hn : rd l (i : Int) ∉ l.take i) : (l.take (i + 1)).Nodup := by
  rw [List.take_succ_eq_append_getElem hi, ← rd_nat l i hi, List.nodup_append]
  refine ⟨h, by simp, ?_⟩
  intro a ha b hb e
  simp at hb
  subst hb
  exact hn (e ▸ ha)
theorem not_nodup_of {l : List Int} {i : Nat} (hi : i < l.length) (h : rd l (i : Int) ∈ l.take i) : ¬ l.Nodup := by
  intro hN
  have h2 := hN.sublist (List.take_sublist (i + 1) _)
  rw [List.take_succ_eq_append_getElem hi, ← rd_nat l i hi, List.nodup_append] at h2
  exact h2.2.2 _ h _ (by simp) rfl
theorem rd_LL_length {ls : List (List Int)} (h : ∀ x ∈ ls, x.length ≤ 1000) (i : Int) : (rd_L3 ls i).length ≤ 1000 := by
  unfold rd_L3
  rw [List.getD_eq_getElem?_getD]
  cases e : ls[i.toNat]? with
  | none => simp
  | some x => simpa using h x (List.mem_of_getElem? e)
theorem spec_cuPlaced_ev (ls : List (List Int)) (l : List Int) (hls : ∀ x ∈ ls, x.length ≤ 1000) (hl : l.length ≤ 9223372036854775807) : Ev (fun k => spec_cuPlaced.f k ls l) (placedV ls l) := by
  unfold spec_cuPlaced.f placedV
  by_cases c : (l.length : Int) = (ls.length : Int)
  · simp only [c, ↓reduceIte, decide_true, Bool.true_and]
    rw [← c]
    suffices h : ∀ d i : Nat, i + d = l.length → (l.take i).Nodup → Ev (fun k => spec_cuPlaced.l0 k ls l l (l.length : Int) (i : Int)) (decide l.Nodup && inFrom ls l i) from h l.length 0 (by omega) (by simp)
    intro d
    induction d with
    | zero =>
      intro i hi hn
      refine Ev.succ ?_
      have h1 : ¬ ((i : Int) < (l.length : Int)) := by omega
      obtain rfl : i = l.length := by omega
      rw [List.take_of_length_le (by omega)] at hn
      simp only [spec_cuPlaced.l0, h1, ↓reduceIte, inFrom_end, hn, decide_true, Bool.and_self]
      exact Ev.now _
    | succ d ih =>
      intro i hi hn
      refine Ev.succ ?_
      have h0 : i < l.length := by omega
      have h1 : (i : Int) < (l.length : Int) := by omega
      have h2 : (0 : Int) ≤ (i : Int) := by omega
      have h3 : (i : Int) < (ls.length : Int) := by omega
      have h4 : (i : Int) ≤ (l.length : Int) := by omega
      have hw : wrap64 ((i : Int) + 1) = ((i + 1 : Nat) : Int) := by rw [w64 (by omega) (by omega)]; rfl
      simp only [spec_cuPlaced.l0, h1, h2, h3, ↓reduceIte, hw]
      refine Ev.bind (spec_l1Has_ev _ _ (by have := rd_LL_length hls (i : Int); omega)) ?_
      rw [inFrom_step ls l i h0]
      unfold inAt
      by_cases e : rd l (i : Int) ∈ rd_L3 ls (i : Int)
      · simp only [e, decide_true, ↓reduceIte, h4, Int.toNat_natCast, Bool.true_and]
        refine Ev.bind (spec_l1Has_ev _ _ (by rw [List.length_take]; omega)) ?_
        by_cases g : rd l (i : Int) ∈ l.take i
        · simp only [g, decide_true, ↓reduceIte, not_nodup_of h0 g, decide_false, Bool.false_and]
          exact Ev.now _
        · simp only [g, decide_false, Bool.false_eq_true, ↓reduceIte]
          exact ih (i + 1) (by omega) (take_nodup_succ h0 hn g)
      · simp only [e, decide_false, Bool.false_eq_true, ↓reduceIte, Bool.false_and, Bool.and_false]
        exact Ev.now _
  · simp only [c, ↓reduceIte, decide_false, Bool.false_and]
    exact Ev.now _
theorem impl_isPlacement_ev (ls : List (List Int)) (l : List Int) (hls : ∀ x ∈ ls, x.length ≤ 1000) (hl : l.length ≤ 1048576) (hr : ∀ x ∈ l, -9223372036854775808 ≤ x ∧ x ≤ 9223372036854775807) : Ev (fun k => impl_isPlacement.f k ls l) (placedV ls l) := by
  unfold impl_isPlacement.f placedV
  by_cases c : (l.length : Int) = (ls.length : Int)
  · simp only [c, ↓reduceIte, decide_true, Bool.true_and]
    have hd : impl_distinct.f l = some (decide l.Nodup) := by
      unfold impl_distinct.f
      rw [if_pos (by omega), if_pos (by simpa only [List.all_eq_true, decide_eq_true_eq] using hr)]
    simp only [hd, Option.bind_some]
    refine Ev.succ ?_
    by_cases g : l.Nodup
    · simp only [impl_isPlacement.j0, g, decide_true, Bool.not_true, Bool.false_eq_true, ↓reduceIte, Bool.true_and]
      refine Ev.up (L := fun k i => impl_isPlacement.l0 k ls l (l.length : Int) (i : Int)) (r := fun i => inFrom ls l i) l.length ?_ ?_ 0 (Nat.zero_le _)
      · refine Ev.succ ?_
        have h1 : ¬ ((l.length : Int) < (l.length : Int)) := by omega
        simp only [impl_isPlacement.l0, h1, ↓reduceIte, inFrom_end]
        exact Ev.now _
      · intro i hi ih
        refine Ev.succ ?_
        have h1 : (i : Int) < (l.length : Int) := by omega
        have h2 : (0 : Int) ≤ (i : Int) := by omega
        have h3 : (i : Int) < (ls.length : Int) := by omega
        have hw : wrap64 ((i : Int) + 1) = ((i + 1 : Nat) : Int) := by rw [w64 (by omega) (by omega)]; rfl
        simp only [impl_isPlacement.l0, h1, h2, h3, ↓reduceIte, hw]
        refine Ev.bind (slices_Contains_int_int_ev _ _ (by have := rd_LL_length hls (i : Int); omega)) ?_
        rw [inFrom_step ls l i hi]
        unfold inAt
        by_cases e : rd l (i : Int) ∈ rd_L3 ls (i : Int)
        · simp only [e, decide_true, ↓reduceIte, Bool.true_and]; exact ih
        · simp only [e, decide_false, Bool.false_eq_true, ↓reduceIte, Bool.false_and]; exact Ev.now _
    · simp only [impl_isPlacement.j0, g, decide_false, Bool.not_false, ↓reduceIte, Bool.false_and]
      exact Ev.now _
  · simp only [c, ↓reduceIte, decide_false, Bool.false_and]
    refine Ev.succ ?_
    simp only [impl_isPlacement.j0, ↓reduceIte]
    exact Ev.now _
theorem pairsV_rows (a n : Int) (ks : List ByteArray) : ∀ x ∈ pairsV a n ks, x.length ≤ 1000 := by
  intro x hx
  unfold pairsV at hx
  obtain ⟨s, _, rfl⟩ := List.mem_map.1 hx
  simp
theorem range_of_wf {x : Int} (h : (Lit.int .i64 x).wf = true) : -9223372036854775808 ≤ x ∧ x ≤ 9223372036854775807 := by
  simp [Lit.wf] at h
  exact h
theorem laws_eqStringS_self (l : List ByteArray) (hl : l.length ≤ 9223372036854775807) : Ev (fun k => laws_eqStringS.f k l l) true := by
  unfold laws_eqStringS.f
  simp only [↓reduceIte]
  refine Ev.up (L := fun k i => laws_eqStringS.l0 k l l (i : Int)) (r := fun _ => true) l.length ?_ ?_ 0 (Nat.zero_le _)
  · refine Ev.succ ?_
    have h1 : ¬ ((l.length : Int) < (l.length : Int)) := by omega
    simp only [laws_eqStringS.l0, h1, ↓reduceIte]
    exact Ev.now _
  · intro i hi ih
    refine Ev.succ ?_
    have h1 : (i : Int) < (l.length : Int) := by omega
    have h2 : (0 : Int) ≤ (i : Int) := by omega
    have hw : wrap64 ((i : Int) + 1) = ((i + 1 : Nat) : Int) := by rw [w64 (by omega) (by omega)]; rfl
    simp only [laws_eqStringS.l0, h1, h2, ↓reduceIte, hw]
    exact ih
theorem laws_toStringS_l0 (l : List ByteArray) (hl : l.length ≤ 9223372036854775807) (d : Nat) : ∀ (i : Nat) (o : List ByteArray), o.length = l.length → o.take i = l.take i → i + d = l.length → Ev (fun k => laws_toStringS.l0 k l o (i : Int)) l := by
  induction d with
  | zero =>
    intro i o ho ht hi
    refine Ev.succ ?_
    have h1 : ¬ ((i : Int) < (l.length : Int)) := by omega
    simp only [laws_toStringS.l0, h1, ↓reduceIte]
    rw [List.take_of_length_le (by omega), List.take_of_length_le (by omega)] at ht
    exact Ev.some_ ht
  | succ d ih =>
    intro i o ho ht hi
    refine Ev.succ ?_
    have h1 : (i : Int) < (l.length : Int) := by omega
    have h2 : (0 : Int) ≤ (i : Int) := by omega
    have h3 : (i : Int) < (o.length : Int) := by omega
    have hw : wrap64 ((i : Int) + 1) = ((i + 1 : Nat) : Int) := by rw [w64 (by omega) (by omega)]; rfl
    simp only [laws_toStringS.l0, h1, h2, h3, ↓reduceIte, hw, Int.toNat_natCast]
    exact ih (i + 1) _ (by simp [ho]) (by rw [take_set_succ _ _ _ (by omega), ht, rdOf_nat _ _ _ (by omega), List.take_succ_eq_append_getElem (by omega)]) (by omega)
theorem laws_toStringS_ev (l : List ByteArray) (hl : l.length ≤ 17592186044416) : Ev (fun k => laws_toStringS.f k l) l := by
  have h1 : 0 ≤ (l.length : Int) := by omega
  have h2 : ((l.length : Int)).toNat ≤ 17592186044416 := by omega
  simp only [laws_toStringS.f, h1, h2, ↓reduceIte]
  exact laws_toStringS_l0 l (by omega) l.length 0 _ (by simp) (by simp) (by omega)
def szT : List ByteArray → Int → Int
  | [], m => m
  | s :: r, m => if m - (s.size : Int) < 0 then -1 else szT r (m - (s.size : Int))
theorem szT_le (l : List ByteArray) : ∀ m : Int, 0 ≤ m → szT l m ≤ m := by
  induction l with
  | nil => intro m h; exact Int.le_refl m
  | cons s r ih =>
    intro m h
    unfold szT
    by_cases c : m - (s.size : Int) < 0
    · rw [if_pos c]; omega
    · rw [if_neg c]
      have := ih (m - (s.size : Int)) (by omega)
      omega
theorem szT_sizes (l : List ByteArray) : ∀ m : Int, 0 ≤ szT l m → ∀ s ∈ l, (s.size : Int) ≤ m := by
  induction l with
  | nil => intro m h s hs; cases hs
  | cons x r ih =>
    intro m h s hs
    unfold szT at h
    by_cases c : m - (x.size : Int) < 0
    · rw [if_pos c] at h; omega
    · rw [if_neg c] at h
      rcases List.mem_cons.1 hs with rfl | hs
      · omega
      · have := ih _ h s hs
        omega
theorem laws_szStringS_l0 (l : List ByteArray) (hl : l.length ≤ 9223372036854775807) (hs : ∀ s ∈ l, s.size ≤ 9223372036854775807) (d : Nat) : ∀ (i : Nat) (m : Int), i + d = l.length → 0 ≤ m → m ≤ 1048576 → Ev (fun k => laws_szStringS.l0 k l m (i : Int)) (szT (l.drop i) m) := by
  induction d with
  | zero =>
    intro i m hi m0 m1
    refine Ev.succ ?_
    have h1 : ¬ ((i : Int) < (l.length : Int)) := by omega
    simp only [laws_szStringS.l0, h1, ↓reduceIte]
    exact Ev.some_ (by rw [List.drop_eq_nil_of_le (by omega)]; rfl)
  | succ d ih =>
    intro i m hi m0 m1
    refine Ev.succ ?_
    have h0 : i < l.length := by omega
    have h1 : (i : Int) < (l.length : Int) := by omega
    have h2 : (0 : Int) ≤ (i : Int) := by omega
    have hw : wrap64 ((i : Int) + 1) = ((i + 1 : Nat) : Int) := by rw [w64 (by omega) (by omega)]; rfl
    have hz := hs _ (List.getElem_mem h0)
    have hw2 : wrap64 (m - ((l[i]).size : Int)) = m - ((l[i]).size : Int) := w64 (by omega) (by omega)
    rw [drop_cons l i h0]
    simp only [laws_szStringS.l0, h1, h2, ↓reduceIte, hw, rdOf_nat ByteArray.empty l i h0, hw2, szT]
    by_cases c : m - ((l[i]).size : Int) < 0
    · simp only [c, ↓reduceIte]; exact Ev.now _
    · simp only [c, ↓reduceIte]
      exact ih (i + 1) _ (by omega) (by omega) (by omega)
def szTexts (l : List ByteArray) (m : Int) : Int := if m - (l.length : Int) < 0 then -1 else szT l (m - (l.length : Int))
theorem laws_szStringS_ev (l : List ByteArray) (m : Int) (hl : l.length ≤ 9223372036854775807) (hs : ∀ s ∈ l, s.size ≤ 9223372036854775807) (m0 : 0 ≤ m) (m1 : m ≤ 1048576) : Ev (fun k => laws_szStringS.f k l m) (szTexts l m) := by
  unfold laws_szStringS.f szTexts
  rw [w64 (n := m - (l.length : Int)) (by omega) (by omega)]
  by_cases c : m - (l.length : Int) < 0
  · simp only [c, ↓reduceIte]; exact Ev.now _
  · simp only [c, ↓reduceIte]
    exact laws_szStringS_l0 l hl hs l.length 0 _ (by omega) (by omega) (by omega)
theorem szTexts_of {l : List ByteArray} {m : Int} (h : ¬ szTexts l m < 0) : (l.length : Int) ≤ m ∧ szTexts l m ≤ m ∧ 0 ≤ szTexts l m := by
  have e : szTexts l m = if m - (l.length : Int) < 0 then -1 else szT l (m - (l.length : Int)) := rfl
  by_cases c : m - (l.length : Int) < 0
  · rw [if_pos c] at e; omega
  · rw [if_neg c] at e
    have := szT_le l (m - (l.length : Int)) (by omega)
    omega
theorem laws_toIntS_l0 (l : List Int) (hl : l.length ≤ 9223372036854775807) (d : Nat) : ∀ (i : Nat) (o : List Int), o.length = l.length → o.take i = l.take i → i + d = l.length → Ev (fun k => laws_toIntS.l0 k l o (i : Int)) l := by
  induction d with
  | zero =>
    intro i o ho ht hi
    refine Ev.succ ?_
    have h1 : ¬ ((i : Int) < (l.length : Int)) := by omega
    simp only [laws_toIntS.l0, h1, ↓reduceIte]
    rw [List.take_of_length_le (by omega), List.take_of_length_le (by omega)] at ht
    exact Ev.some_ ht
  | succ d ih =>
    intro i o ho ht hi
    refine Ev.succ ?_
    have h1 : (i : Int) < (l.length : Int) := by omega
    have h2 : (0 : Int) ≤ (i : Int) := by omega
    have h3 : (i : Int) < (o.length : Int) := by omega
    have hw : wrap64 ((i : Int) + 1) = ((i + 1 : Nat) : Int) := by rw [w64 (by omega) (by omega)]; rfl
    simp only [laws_toIntS.l0, h1, h2, h3, ↓reduceIte, hw, Int.toNat_natCast]
    exact ih (i + 1) _ (by simp [ho]) (by rw [take_set_succ _ _ _ (by omega), ht, rd_nat _ _ (by omega), List.take_succ_eq_append_getElem (by omega)]) (by omega)
theorem laws_toIntS_ev (l : List Int) (hl : l.length ≤ 35184372088832) : Ev (fun k => laws_toIntS.f k l) l := by
  have h1 : 0 ≤ (l.length : Int) := by omega
  have h2 : ((l.length : Int)).toNat ≤ 35184372088832 := by omega
  simp only [laws_toIntS.f, h1, h2, ↓reduceIte]
  exact laws_toIntS_l0 l (by omega) l.length 0 _ (by simp) (by simp) (by omega)
theorem laws_eqIntS_self (l : List Int) (hl : l.length ≤ 9223372036854775807) : Ev (fun k => laws_eqIntS.f k l l) true := by
  unfold laws_eqIntS.f
  simp only [↓reduceIte]
  refine Ev.up (L := fun k i => laws_eqIntS.l0 k l l (i : Int)) (r := fun _ => true) l.length ?_ ?_ 0 (Nat.zero_le _)
  · refine Ev.succ ?_
    have h1 : ¬ ((l.length : Int) < (l.length : Int)) := by omega
    simp only [laws_eqIntS.l0, h1, ↓reduceIte]
    exact Ev.now _
  · intro i hi ih
    refine Ev.succ ?_
    have h1 : (i : Int) < (l.length : Int) := by omega
    have h2 : (0 : Int) ≤ (i : Int) := by omega
    have hw : wrap64 ((i : Int) + 1) = ((i + 1 : Nat) : Int) := by rw [w64 (by omega) (by omega)]; rfl
    simp only [laws_eqIntS.l0, h1, h2, ↓reduceIte, hw]
    exact ih
theorem laws_markIntS_l0 (m : Int) (n : Nat) (h0 : 0 ≤ m) (hm : m + n ≤ 4611686018427387904) (d : Nat) : ∀ (i : Nat) (l : List Int), l.length = n → l.take i = marks m i → i + d = n → Ev (fun k => laws_markIntS.l0 k l (m + i) (i : Int)) (m + n, marks m n) := by
  induction d with
  | zero =>
    intro i l hl ht hi
    obtain rfl : i = n := by omega
    refine Ev.succ ?_
    have h1 : ¬ ((i : Int) < (l.length : Int)) := by omega
    simp only [laws_markIntS.l0, h1, ↓reduceIte]
    rw [List.take_of_length_le (by omega)] at ht
    exact Ev.some_ (by rw [ht])
  | succ d ih =>
    intro i l hl ht hi
    refine Ev.succ ?_
    have h1 : (i : Int) < (l.length : Int) := by omega
    have h2 : (0 : Int) ≤ (i : Int) := by omega
    have hw : wrap64 ((i : Int) + 1) = ((i + 1 : Nat) : Int) := by rw [w64 (by omega) (by omega)]; rfl
    have hw2 : wrap64 (m + (i : Int) + 1) = m + ((i + 1 : Nat) : Int) := by rw [w64 (by omega) (by omega)]; omega
    simp only [laws_markIntS.l0, h1, h2, ↓reduceIte, hw, hw2, Int.toNat_natCast]
    exact ih (i + 1) (l.set i (m + i)) (by simp [hl]) (by rw [take_set_succ _ _ _ (by omega), ht, marks_succ]) (by omega)
theorem laws_markIntS_ev (l : List Int) (m : Int) (h0 : 0 ≤ m) (hm : m + l.length ≤ 4611686018427387904) : Ev (fun k => laws_markIntS.f k l m) (m + l.length, marks m l.length) := by
  have h := laws_markIntS_l0 m l.length h0 hm l.length 0 l rfl (by simp [marks]) (by omega)
  simpa [laws_markIntS.f] using h
theorem laws_heldIntS_ev (m : Int) (n : Nat) (h0 : 0 ≤ m) (hm : m + n ≤ 4611686018427387904) : Ev (fun k => laws_heldIntS.f k (marks m n) m) (m + n) := by
  have h := Ev.up (L := fun k i => laws_heldIntS.l0 k (marks m n) (m + (i : Int)) (i : Int)) (r := fun _ => m + n) n ?_ ?_ 0 (Nat.zero_le _)
  · simpa [laws_heldIntS.f] using h
  · refine Ev.succ ?_
    have h1 : ¬ ((n : Int) < ((marks m n).length : Int)) := by rw [marks_length]; omega
    simp only [laws_heldIntS.l0, h1, ↓reduceIte]
    exact Ev.now _
  · intro i hi ih
    refine Ev.succ ?_
    have h1 : (i : Int) < ((marks m n).length : Int) := by rw [marks_length]; omega
    have h2 : (0 : Int) ≤ (i : Int) := by omega
    have h3 : rd (marks m n) (i : Int) = m + i := by rw [rd_nat _ _ (by rw [marks_length]; exact hi)]; simp [marks]
    have hw : wrap64 ((i : Int) + 1) = ((i + 1 : Nat) : Int) := by rw [w64 (by omega) (by omega)]; rfl
    have hw2 : wrap64 (m + (i : Int) + 1) = m + ((i + 1 : Nat) : Int) := by rw [w64 (by omega) (by omega)]; omega
    simp only [laws_heldIntS.l0, h1, h2, h3, ↓reduceIte, hw, hw2]
    exact ih
theorem strOfNums_one (x : Int) : (strOfNums [x]).size = 1 := by
  simp [strOfNums, ByteArray.size]
theorem laws_markText_l0 (f : Nat) : ∀ (n : Int) (acc : ByteArray), 0 ≤ n → n < 2 ^ f → n ≤ 4611686018427387904 → acc.size + f ≤ 1000 → ∃ r, Ev (fun k => laws_markText.l0 k n acc) r := by
  induction f with
  | zero =>
    intro n acc h0 h1 hn hs
    refine ⟨(⟨#[109]⟩ : ByteArray) ++ acc, Ev.succ ?_⟩
    have c1 : ¬ (n > 0) := by simp at h1; omega
    have c2 : 1 + acc.size ≤ 9223372036854775807 := by omega
    simp only [laws_markText.l0, c1, c2, ↓reduceIte]
    exact Ev.now _
  | succ f ih =>
    intro n acc h0 h1 hn hs
    by_cases c1 : n > 0
    · have e2 : (2 : Int) ^ (f + 1) = 2 * 2 ^ f := by rw [Int.pow_succ, Int.mul_comm]
      have e : wrap64 (Int.tdiv n 10) = n / 10 := by rw [tdiv_pos h0, w64 (by omega) (by omega)]
      have e3 := strOfNums_one ((wrap64 (48 + (Int.tmod n 10))) % 256)
      obtain ⟨r, hr⟩ := ih (n / 10) (strOfNums [(wrap64 (48 + (Int.tmod n 10))) % 256] ++ acc) (by omega) (by omega) (by omega) (by rw [ByteArray.size_append, e3]; omega)
      refine ⟨r, Ev.succ ?_⟩
      have c3 : (strOfNums [(wrap64 (48 + (Int.tmod n 10))) % 256]).size + acc.size ≤ 9223372036854775807 := by rw [e3]; omega
      simp only [laws_markText.l0, c1, ↓reduceIte, Option.bind_some, c3, e]
      exact hr
    · refine ⟨(⟨#[109]⟩ : ByteArray) ++ acc, Ev.succ ?_⟩
      have c2 : 1 + acc.size ≤ 9223372036854775807 := by omega
      simp only [laws_markText.l0, c1, c2, ↓reduceIte]
      exact Ev.now _
theorem laws_markText_some (n : Int) (h0 : 0 ≤ n) (hn : n ≤ 4611686018427387904) : ∃ r, Ev (fun k => laws_markText.f k n) r := by
  unfold laws_markText.f
  by_cases c : n ≤ 0
  · simp only [c, ↓reduceIte]
    exact ⟨_, Ev.now _⟩
  · simp only [c, ↓reduceIte]
    exact laws_markText_l0 63 n ⟨#[]⟩ h0 (by omega) hn (by decide)
theorem laws_markText_fn : ∃ f : Int → ByteArray, ∀ n : Int, 0 ≤ n → n ≤ 4611686018427387904 → Ev (fun k => laws_markText.f k n) (f n) :=
  ⟨fun n => if h : 0 ≤ n ∧ n ≤ 4611686018427387904 then Classical.choose (laws_markText_some n h.1 h.2) else ⟨#[]⟩, fun n h0 hn => by
    have e : (if h : 0 ≤ n ∧ n ≤ 4611686018427387904 then Classical.choose (laws_markText_some n h.1 h.2) else (⟨#[]⟩ : ByteArray)) = Classical.choose (laws_markText_some n h0 hn) := dif_pos ⟨h0, hn⟩
    show Ev _ (if h : 0 ≤ n ∧ n ≤ 4611686018427387904 then Classical.choose (laws_markText_some n h.1 h.2) else (⟨#[]⟩ : ByteArray))
    rw [e]
    exact Classical.choose_spec (laws_markText_some n h0 hn)⟩
theorem laws_markStringS_l0 (f : Int → ByteArray) (hf : ∀ n : Int, 0 ≤ n → n ≤ 4611686018427387904 → Ev (fun k => laws_markText.f k n) (f n)) (m : Int) (n : Nat) (h0 : 0 ≤ m) (hm : m + n ≤ 4611686018427387904) (d : Nat) : ∀ (i : Nat) (l : List ByteArray), l.length = n → l.take i = marksOf f m i → i + d = n → Ev (fun k => laws_markStringS.l0 k l (m + i) (i : Int)) (m + n, marksOf f m n) := by
  induction d with
  | zero =>
    intro i l hl ht hi
    obtain rfl : i = n := by omega
    refine Ev.succ ?_
    have h1 : ¬ ((i : Int) < (l.length : Int)) := by omega
    simp only [laws_markStringS.l0, h1, ↓reduceIte]
    rw [List.take_of_length_le (by omega)] at ht
    exact Ev.some_ (by rw [ht])
  | succ d ih =>
    intro i l hl ht hi
    refine Ev.succ ?_
    have h1 : (i : Int) < (l.length : Int) := by omega
    have h2 : (0 : Int) ≤ (i : Int) := by omega
    have hw : wrap64 ((i : Int) + 1) = ((i + 1 : Nat) : Int) := by rw [w64 (by omega) (by omega)]; rfl
    have hw2 : wrap64 (m + (i : Int) + 1) = m + ((i + 1 : Nat) : Int) := by rw [w64 (by omega) (by omega)]; omega
    simp only [laws_markStringS.l0, h1, h2, ↓reduceIte, hw, hw2, Int.toNat_natCast]
    refine Ev.bind (hf (m + i) (by omega) (by omega)) ?_
    exact ih (i + 1) (l.set i (f (m + i))) (by simp [hl]) (by rw [take_set_succ _ _ _ (by omega), ht, marksOf_succ]) (by omega)
theorem laws_markStringS_ev (f : Int → ByteArray) (hf : ∀ n : Int, 0 ≤ n → n ≤ 4611686018427387904 → Ev (fun k => laws_markText.f k n) (f n)) (l : List ByteArray) (m : Int) (h0 : 0 ≤ m) (hm : m + l.length ≤ 4611686018427387904) : Ev (fun k => laws_markStringS.f k l m) (m + l.length, marksOf f m l.length) := by
  have h := laws_markStringS_l0 f hf m l.length h0 hm l.length 0 l rfl (by simp [marksOf]) (by omega)
  simpa [laws_markStringS.f] using h

theorem rd_set (l : List Int) (i j : Nat) (x : Int) (h : i < l.length) : rd (l.set i x) (j : Int) = if j = i then x else rd l (j : Int) := by
  unfold rd
  rw [Int.toNat_natCast, List.getD_eq_getElem?_getD, List.getD_eq_getElem?_getD, List.getElem?_set]
  by_cases c : j = i
  · subst c
    simp [h]
  · have c' : ¬ i = j := fun e => c e.symm
    simp [c, c']
theorem take_eq_succ {l l' : List Int} {i : Nat} (h : i < l.length) (h' : i < l'.length) (ht : l.take i = l'.take i) (he : rd l (i : Int) = rd l' (i : Int)) : l.take (i + 1) = l'.take (i + 1) := by
  rw [List.take_succ_eq_append_getElem h, List.take_succ_eq_append_getElem h', ht, ← rd_nat l i h, ← rd_nat l' i h', he]
theorem spec_l1Same_ev (l l' : List Int) (hl : l.length ≤ 9223372036854775807) : Ev (fun k => spec_l1Same.f k l l') (decide (l = l')) := by
  unfold spec_l1Same.f
  by_cases c : (l.length : Int) = (l'.length : Int)
  · simp only [c, ↓reduceIte]
    rw [← c]
    suffices h : ∀ d i : Nat, i + d = l.length → l.take i = l'.take i → Ev (fun k => spec_l1Same.l0 k l l' (l.length : Int) (i : Int)) (decide (l = l')) from h l.length 0 (by omega) (by simp)
    intro d
    induction d with
    | zero =>
      intro i hi ht
      refine Ev.succ ?_
      have h1 : ¬ ((i : Int) < (l.length : Int)) := by omega
      rw [List.take_of_length_le (by omega), List.take_of_length_le (by omega)] at ht
      simp only [spec_l1Same.l0, h1, ↓reduceIte]
      exact Ev.some_ (by simp [ht])
    | succ d ih =>
      intro i hi ht
      refine Ev.succ ?_
      have h1 : (i : Int) < (l.length : Int) := by omega
      have h2 : (0 : Int) ≤ (i : Int) := by omega
      have h3 : (i : Int) < (l'.length : Int) := by omega
      have hw : wrap64 ((i : Int) + 1) = ((i + 1 : Nat) : Int) := by rw [w64 (by omega) (by omega)]; rfl
      simp only [spec_l1Same.l0, h1, h2, h3, ↓reduceIte, hw]
      by_cases e : rd l (i : Int) = rd l' (i : Int)
      · simp only [e, ↓reduceIte]
        exact ih (i + 1) (by omega) (take_eq_succ (by omega) (by omega) ht e)
      · simp only [e, ↓reduceIte]
        have : l ≠ l' := fun h => e (by rw [h])
        exact Ev.some_ (by simp [this])
  · simp only [c, ↓reduceIte]
    have : l ≠ l' := fun h => c (by rw [h])
    exact Ev.some_ (by simp [this])
theorem slices_Equal_int_int_ev (l l' : List Int) (hl : l.length ≤ 9223372036854775807) : Ev (fun k => slices_Equal_int_int.f k l l') (decide (l = l')) := by
  unfold slices_Equal_int_int.f
  by_cases c : (l.length : Int) = (l'.length : Int)
  · simp only [c, ↓reduceIte]
    rw [← c]
    suffices h : ∀ d i : Nat, i + d = l.length → l.take i = l'.take i → Ev (fun k => slices_Equal_int_int.l0 k l l' (l.length : Int) (i : Int)) (decide (l = l')) from h l.length 0 (by omega) (by simp)
    intro d
    induction d with
    | zero =>
      intro i hi ht
      refine Ev.succ ?_
      have h1 : ¬ ((i : Int) < (l.length : Int)) := by omega
      rw [List.take_of_length_le (by omega), List.take_of_length_le (by omega)] at ht
      simp only [slices_Equal_int_int.l0, h1, ↓reduceIte]
      exact Ev.some_ (by simp [ht])
    | succ d ih =>
      intro i hi ht
      refine Ev.succ ?_
      have h1 : (i : Int) < (l.length : Int) := by omega
      have h2 : (0 : Int) ≤ (i : Int) := by omega
      have h3 : (i : Int) < (l'.length : Int) := by omega
      have hw : wrap64 ((i : Int) + 1) = ((i + 1 : Nat) : Int) := by rw [w64 (by omega) (by omega)]; rfl
      simp only [slices_Equal_int_int.l0, h1, h2, h3, ↓reduceIte, hw]
      by_cases e : rd l (i : Int) = rd l' (i : Int)
      · simp only [e, ↓reduceIte]
        exact ih (i + 1) (by omega) (take_eq_succ (by omega) (by omega) ht e)
      · simp only [e, ↓reduceIte]
        have : l ≠ l' := fun h => e (by rw [h])
        exact Ev.some_ (by simp [this])
  · simp only [c, ↓reduceIte]
    have : l ≠ l' := fun h => c (by rw [h])
    exact Ev.some_ (by simp [this])
/-- The keys that stand elsewhere. -/
def apart (tg cur : List Int) (i : Nat) : Bool := !decide (rd cur (i : Int) = rd tg (i : Int))
def diffs (tg cur : List Int) (n : Nat) : Nat := (List.range n).countP (apart tg cur)
theorem countP_lt {p q : Nat → Bool} (j : Nat) (hp : p j = true) (hq : q j = false) : ∀ l : List Nat, (∀ x ∈ l, q x = true → p x = true) → j ∈ l → l.countP q < l.countP p := by
  intro l
  induction l with
  | nil => intro _ h; cases h
  | cons a r ih =>
    intro h hj
    have hr : r.countP q ≤ r.countP p := List.countP_mono_left (fun x hx => h x (List.mem_cons_of_mem _ hx))
    rw [List.countP_cons, List.countP_cons]
    by_cases c : a = j
    · subst c
      simp [hp, hq]
      omega
    · have hj' : j ∈ r := by
        rcases List.mem_cons.1 hj with e | e
        · exact absurd e.symm c
        · exact e
      have h1 := ih (fun x hx => h x (List.mem_cons_of_mem _ hx)) hj'
      have h2 := h a List.mem_cons_self
      cases hqa : q a with
      | true => rw [hqa] at h2; simp [h2 rfl]; omega
      | false => cases hpa : p a <;> simp <;> omega
theorem diffs_set {tg cur : List Int} {n j : Nat} (hj : j < n) (hc : cur.length = n) (h : apart tg cur j = true) : diffs tg (cur.set j (rd tg (j : Int))) n < diffs tg cur n := by
  unfold diffs
  refine countP_lt j h ?_ _ ?_ (List.mem_range.2 hj)
  · unfold apart
    rw [rd_set _ _ _ _ (by omega), if_pos rfl]
    simp
  · intro x hx hq
    unfold apart at hq ⊢
    rw [rd_set _ _ _ _ (by omega)] at hq
    by_cases c : x = j
    · subst c
      simp at hq
    · rw [if_neg c] at hq
      exact hq
def bad (tg cur : List Int) (i : Nat) : Bool := apart tg cur i && !decide (rd tg (i : Int) ∈ cur)
def firstBad (tg cur : List Int) (n i : Nat) : Option Nat := (List.range' i (n - i)).find? (bad tg cur)
theorem firstBad_end (tg cur : List Int) (n : Nat) : firstBad tg cur n n = none := by simp [firstBad]
theorem firstBad_step (tg cur : List Int) (n i : Nat) (h : i < n) : firstBad tg cur n i = if bad tg cur i = true then some i else firstBad tg cur n (i + 1) := by
  unfold firstBad
  rw [show n - i = (n - (i + 1)) + 1 from by omega, List.range'_succ, List.find?_cons]
  cases bad tg cur i <;> rfl
theorem firstBad_of {tg cur : List Int} {n i j : Nat} (h : firstBad tg cur n i = some j) (hi : i ≤ n) : j < n ∧ bad tg cur j = true := by
  unfold firstBad at h
  have h1 := List.mem_of_find?_eq_some h
  have h2 := List.find?_some h
  simp only [List.mem_range'] at h1
  obtain ⟨t, ht, rfl⟩ := h1
  exact ⟨by omega, h2⟩
theorem spec_moves_skip (tg cur acc : List Int) (x : Int) (hx : 0 ≤ x) (hl : cur.length ≤ 1000) (r : List Int × Bool) (h : Ev (fun k => spec_MovesBetween.l1 k tg cur acc x (cur.length : Int) (cur.length : Int)) r) (d : Nat) : ∀ i : Nat, i + d = cur.length → Ev (fun k => spec_MovesBetween.l1 k tg cur acc x (cur.length : Int) (i : Int)) r := by
  induction d with
  | zero =>
    intro i hi
    obtain rfl : i = cur.length := by omega
    exact h
  | succ d ih =>
    intro i hi
    refine Ev.succ ?_
    have h1 : (i : Int) < (cur.length : Int) := by omega
    have h2 : ¬ (x < 0) := by omega
    have hw : wrap64 ((i : Int) + 1) = ((i + 1 : Nat) : Int) := by rw [w64 (by omega) (by omega)]; rfl
    simp only [spec_MovesBetween.l1, h1, h2, ↓reduceIte, hw]
    exact ih (i + 1) (by omega)
def foundI : Option Nat → Int
  | none => -1
  | some j => (j : Int)
theorem spec_moves_scan (tg cur acc : List Int) (hto : tg.length = cur.length) (hl : cur.length ≤ 1000) (r : List Int × Bool) (d : Nat) : ∀ i : Nat, i + d = cur.length → Ev (fun k => spec_MovesBetween.l1 k tg cur acc (foundI (firstBad tg cur cur.length i)) (cur.length : Int) (cur.length : Int)) r → Ev (fun k => spec_MovesBetween.l1 k tg cur acc (-1) (cur.length : Int) (i : Int)) r := by
  induction d with
  | zero =>
    intro i hi h
    obtain rfl : i = cur.length := by omega
    rw [firstBad_end] at h
    exact h
  | succ d ih =>
    intro i hi h
    refine Ev.succ ?_
    have h1 : (i : Int) < (cur.length : Int) := by omega
    have h2 : (0 : Int) ≤ (i : Int) := by omega
    have h3 : (i : Int) < (tg.length : Int) := by omega
    have h4 : ((-1 : Int) < 0) := by omega
    have hw : wrap64 ((i : Int) + 1) = ((i + 1 : Nat) : Int) := by rw [w64 (by omega) (by omega)]; rfl
    rw [firstBad_step _ _ _ _ (by omega)] at h
    simp only [spec_MovesBetween.l1, h1, h2, h3, h4, ↓reduceIte, hw]
    by_cases c : rd cur (i : Int) = rd tg (i : Int)
    · have hb : bad tg cur i = false := by unfold bad apart; simp [c]
      simp only [hb, Bool.false_eq_true, ↓reduceIte] at h
      simp only [c, ↓reduceIte]
      exact ih (i + 1) (by omega) h
    · simp only [c, ↓reduceIte]
      refine Ev.bind (spec_l1Has_ev cur _ (by omega)) ?_
      by_cases e : rd tg (i : Int) ∈ cur
      · have hb : bad tg cur i = false := by unfold bad apart; simp [e]
        simp only [hb, Bool.false_eq_true, ↓reduceIte] at h
        simp only [e, decide_true, ↓reduceIte]
        exact ih (i + 1) (by omega) h
      · have hb : bad tg cur i = true := by unfold bad apart; simp [c, e]
        simp only [hb, ↓reduceIte] at h
        simp only [e, decide_false, Bool.false_eq_true, ↓reduceIte]
        exact spec_moves_skip tg cur acc (i : Int) (by omega) hl r h d (i + 1) (by omega)
theorem impl_moves_skip (tg cur acc : List Int) (n : Nat) (hl : n ≤ 1000) (r : List Int × Bool) (h : Ev (fun k => impl_MovesBetween.l0 k tg cur acc) r) (d : Nat) : ∀ i : Nat, i + d = n → Ev (fun k => impl_MovesBetween.l1 k tg cur acc true (n : Int) (i : Int)) r := by
  induction d with
  | zero =>
    intro i hi
    refine Ev.succ ?_
    have h1 : ¬ ((i : Int) < (n : Int)) := by omega
    simp only [impl_MovesBetween.l1, h1, ↓reduceIte]
    exact h
  | succ d ih =>
    intro i hi
    refine Ev.succ ?_
    have h1 : (i : Int) < (n : Int) := by omega
    have hw : wrap64 ((i : Int) + 1) = ((i + 1 : Nat) : Int) := by rw [w64 (by omega) (by omega)]; rfl
    simp only [impl_MovesBetween.l1, h1, ↓reduceIte, hw]
    exact ih (i + 1) (by omega)
theorem impl_moves_scan (tg cur acc : List Int) (hto : tg.length = cur.length) (hl : cur.length ≤ 1000) (ha : acc.length ≤ 2000) (r : List Int × Bool) (d : Nat) : ∀ i : Nat, i + d = cur.length → (firstBad tg cur cur.length i = none → r = ([], false)) → (∀ j, firstBad tg cur cur.length i = some j → Ev (fun k => impl_MovesBetween.l0 k tg (cur.set j (rd tg (j : Int))) (acc ++ [(j : Int)])) r) → Ev (fun k => impl_MovesBetween.l1 k tg cur acc false (cur.length : Int) (i : Int)) r := by
  induction d with
  | zero =>
    intro i hi hn _
    obtain rfl : i = cur.length := by omega
    refine Ev.succ ?_
    have h1 : ¬ ((cur.length : Int) < (cur.length : Int)) := by omega
    simp only [impl_MovesBetween.l1, h1, Bool.false_eq_true, ↓reduceIte]
    exact Ev.some_ (hn (firstBad_end _ _ _)).symm
  | succ d ih =>
    intro i hi hn hj
    refine Ev.succ ?_
    have h1 : (i : Int) < (cur.length : Int) := by omega
    have h2 : (0 : Int) ≤ (i : Int) := by omega
    have h3 : (i : Int) < (tg.length : Int) := by omega
    have h5 : acc.length < 17592186044416 := by omega
    have hw : wrap64 ((i : Int) + 1) = ((i + 1 : Nat) : Int) := by rw [w64 (by omega) (by omega)]; rfl
    rw [firstBad_step _ _ _ _ (by omega)] at hn hj
    simp only [impl_MovesBetween.l1, h1, h2, h3, Bool.false_eq_true, ↓reduceIte, hw]
    by_cases c : rd cur (i : Int) = rd tg (i : Int)
    · have hb : bad tg cur i = false := by unfold bad apart; simp [c]
      simp only [hb, Bool.false_eq_true, ↓reduceIte] at hn hj
      simp only [c, ↓reduceIte]
      exact ih (i + 1) (by omega) hn hj
    · simp only [c, ↓reduceIte]
      refine Ev.bind (slices_Contains_int_int_ev cur _ (by omega)) ?_
      by_cases e : rd tg (i : Int) ∈ cur
      · have hb : bad tg cur i = false := by unfold bad apart; simp [e]
        simp only [hb, Bool.false_eq_true, ↓reduceIte] at hn hj
        simp only [e, decide_true, ↓reduceIte]
        exact ih (i + 1) (by omega) hn hj
      · have hb : bad tg cur i = true := by unfold bad apart; simp [c, e]
        simp only [hb, ↓reduceIte] at hj
        simp only [e, decide_false, Bool.false_eq_true, h5, ↓reduceIte, Int.toNat_natCast]
        exact impl_moves_skip tg _ _ cur.length hl r (hj i rfl) d (i + 1) (by omega)
theorem moves_ev (tg : List Int) (hn : tg.length ≤ 40) : ∀ (m : Nat) (cur acc : List Int), cur.length = tg.length → diffs tg cur tg.length ≤ m → acc.length + m ≤ 1000 → ∃ r : List Int × Bool, r.1.length ≤ 1000 ∧ Ev (fun k => spec_MovesBetween.l0 k tg cur acc) r ∧ Ev (fun k => impl_MovesBetween.l0 k tg cur acc) r := by
  intro m
  induction m with
  | zero =>
    intro cur acc hc hd ha
    by_cases c : cur = tg
    · refine ⟨(acc, true), by show acc.length ≤ 1000; omega, Ev.succ ?_, Ev.succ ?_⟩
      · simp only [spec_MovesBetween.l0]
        refine Ev.bind (spec_l1Same_ev cur tg (by omega)) ?_
        simp only [c, decide_true, ↓reduceIte]
        exact Ev.now _
      · simp only [impl_MovesBetween.l0]
        refine Ev.bind (slices_Equal_int_int_ev cur tg (by omega)) ?_
        simp only [c, decide_true, ↓reduceIte]
        exact Ev.now _
    · have hnone : firstBad tg cur cur.length 0 = none := by
        cases hb : firstBad tg cur cur.length 0 with
        | none => rfl
        | some j =>
          obtain ⟨h1, h2⟩ := firstBad_of hb (by omega)
          unfold bad at h2
          simp only [Bool.and_eq_true] at h2
          have := diffs_set (tg := tg) (cur := cur) (n := tg.length) (by omega) hc h2.1
          omega
      refine ⟨([], false), by simp, Ev.succ ?_, Ev.succ ?_⟩
      · simp only [spec_MovesBetween.l0]
        refine Ev.bind (spec_l1Same_ev cur tg (by omega)) ?_
        simp only [c, decide_false, Bool.false_eq_true, ↓reduceIte]
        refine spec_moves_scan tg cur acc hc.symm (by omega) _ cur.length 0 (by omega) ?_
        rw [hnone]
        refine Ev.succ ?_
        have h1 : ¬ ((cur.length : Int) < (cur.length : Int)) := by omega
        simp only [spec_MovesBetween.l1, h1, foundI, ↓reduceIte, show ((-1 : Int) < 0) from by decide]
        exact Ev.now _
      · simp only [impl_MovesBetween.l0]
        refine Ev.bind (slices_Equal_int_int_ev cur tg (by omega)) ?_
        simp only [c, decide_false, Bool.false_eq_true, ↓reduceIte]
        exact impl_moves_scan tg cur acc hc.symm (by omega) (by omega) _ cur.length 0 (by omega) (fun _ => rfl) (fun j hj => by rw [hnone] at hj; cases hj)
  | succ m ih =>
    intro cur acc hc hd ha
    by_cases c : cur = tg
    · refine ⟨(acc, true), by show acc.length ≤ 1000; omega, Ev.succ ?_, Ev.succ ?_⟩
      · simp only [spec_MovesBetween.l0]
        refine Ev.bind (spec_l1Same_ev cur tg (by omega)) ?_
        simp only [c, decide_true, ↓reduceIte]
        exact Ev.now _
      · simp only [impl_MovesBetween.l0]
        refine Ev.bind (slices_Equal_int_int_ev cur tg (by omega)) ?_
        simp only [c, decide_true, ↓reduceIte]
        exact Ev.now _
    · cases hb : firstBad tg cur cur.length 0 with
      | none =>
        refine ⟨([], false), by simp, Ev.succ ?_, Ev.succ ?_⟩
        · simp only [spec_MovesBetween.l0]
          refine Ev.bind (spec_l1Same_ev cur tg (by omega)) ?_
          simp only [c, decide_false, Bool.false_eq_true, ↓reduceIte]
          refine spec_moves_scan tg cur acc hc.symm (by omega) _ cur.length 0 (by omega) ?_
          rw [hb]
          refine Ev.succ ?_
          have h1 : ¬ ((cur.length : Int) < (cur.length : Int)) := by omega
          simp only [spec_MovesBetween.l1, h1, foundI, ↓reduceIte, show ((-1 : Int) < 0) from by decide]
          exact Ev.now _
        · simp only [impl_MovesBetween.l0]
          refine Ev.bind (slices_Equal_int_int_ev cur tg (by omega)) ?_
          simp only [c, decide_false, Bool.false_eq_true, ↓reduceIte]
          exact impl_moves_scan tg cur acc hc.symm (by omega) (by omega) _ cur.length 0 (by omega) (fun _ => rfl) (fun j hj => by rw [hb] at hj; cases hj)
      | some j =>
        obtain ⟨h1, h2⟩ := firstBad_of hb (by omega)
        unfold bad at h2
        simp only [Bool.and_eq_true] at h2
        have hlt := diffs_set (tg := tg) (cur := cur) (n := tg.length) (by omega) hc h2.1
        obtain ⟨r, hr, hs, hi⟩ := ih (cur.set j (rd tg (j : Int))) (acc ++ [(j : Int)]) (by simp [hc]) (by omega) (by simp; omega)
        refine ⟨r, hr, Ev.succ ?_, Ev.succ ?_⟩
        · simp only [spec_MovesBetween.l0]
          refine Ev.bind (spec_l1Same_ev cur tg (by omega)) ?_
          simp only [c, decide_false, Bool.false_eq_true, ↓reduceIte]
          refine spec_moves_scan tg cur acc hc.symm (by omega) _ cur.length 0 (by omega) ?_
          rw [hb]
          refine Ev.succ ?_
          have g1 : ¬ ((cur.length : Int) < (cur.length : Int)) := by omega
          have g2 : ¬ ((j : Int) < 0) := by omega
          have g3 : (0 : Int) ≤ (j : Int) := by omega
          have g4 : (j : Int) < (tg.length : Int) := by omega
          have g5 : (j : Int) < (cur.length : Int) := by omega
          have g6 : acc.length < 17592186044416 := by omega
          simp only [spec_MovesBetween.l1, g1, foundI, g2, g3, g4, g5, g6, ↓reduceIte, Int.toNat_natCast]
          exact hs
        · simp only [impl_MovesBetween.l0]
          refine Ev.bind (slices_Equal_int_int_ev cur tg (by omega)) ?_
          simp only [c, decide_false, Bool.false_eq_true, ↓reduceIte]
          refine impl_moves_scan tg cur acc hc.symm (by omega) (by omega) r cur.length 0 (by omega) (fun h => by rw [hb] at h; cases h) (fun j' hj' => ?_)
          rw [hb] at hj'
          obtain rfl := Option.some.inj hj'
          exact hi
theorem diffs_le (tg cur : List Int) (n : Nat) : diffs tg cur n ≤ n := by
  unfold diffs
  have := List.countP_le_length (p := apart tg cur) (l := List.range n)
  simp at this
  exact this
theorem placedV_length {ls : List (List Int)} {l : List Int} (h : placedV ls l = true) : l.length = ls.length := by
  unfold placedV at h
  simp only [Bool.and_eq_true, decide_eq_true_eq] at h
  omega
theorem both_ev (a : Int) (ks : List ByteArray) (n : Int) (l tg : List Int) (hk : ks.length ≤ 9223372036854775807) (hs : ∀ s ∈ ks, s.size ≤ 9223372036854775807) (hl : l.length ≤ 1048576) (ht : tg.length ≤ 1048576) (hr : ∀ x ∈ l, -9223372036854775808 ≤ x ∧ x ≤ 9223372036854775807) (hr' : ∀ x ∈ tg, -9223372036854775808 ≤ x ∧ x ≤ 9223372036854775807) : ∃ r : List Int × Bool, r.1.length ≤ 1000 ∧ Ev (fun k => spec_MovesBetween.f k a ks n l tg) r ∧ Ev (fun k => impl_MovesBetween.f k a ks n l tg) r := by
  unfold spec_MovesBetween.f impl_MovesBetween.f
  have hp := impl_pairs_ev a ks n hk hs
  unfold pairedV at hp
  cases h : keyedV a ks n with
  | false =>
    simp only [h, Bool.false_eq_true, ↓reduceIte] at hp
    refine ⟨([], false), by simp, Ev.bind (spec_cuKeyed_ev a ks n hk hs) ?_, Ev.bind hp ?_⟩
    · simp only [h, Bool.false_eq_true, ↓reduceIte]; exact Ev.now _
    · simp only [Bool.false_eq_true, ↓reduceIte]; refine Ev.succ ?_; simp only [impl_MovesBetween.j0, ↓reduceIte]; exact Ev.now _
  | true =>
    simp only [h, ↓reduceIte] at hp
    obtain ⟨⟨a0, a1⟩, ⟨n0, n1⟩, hks⟩ := keyedV_of h
    have h40 := (areKeys_of hks).1
    have hq := spec_cuPairs_ev a n ks (by omega) hs a0 a1 (by omega) (by omega)
    have hrow := pairsV_rows a n ks
    have hplen := pairsV_length a n ks
    cases hA : placedV (pairsV a n ks) l with
    | false =>
      refine ⟨([], false), by simp, Ev.bind (spec_cuKeyed_ev a ks n hk hs) ?_, Ev.bind hp ?_⟩
      · simp only [h, ↓reduceIte]
        refine Ev.bind hq (Ev.bind (spec_cuPlaced_ev _ l hrow (by omega)) ?_)
        simp only [hA, Bool.false_eq_true, ↓reduceIte]
        refine Ev.succ ?_
        simp only [spec_MovesBetween.j0, ↓reduceIte]
        exact Ev.now _
      · simp only [↓reduceIte]
        refine Ev.bind (impl_isPlacement_ev _ l hrow hl hr) ?_
        simp only [hA, Bool.false_eq_true, ↓reduceIte]
        refine Ev.succ ?_
        simp only [impl_MovesBetween.j0, ↓reduceIte]
        exact Ev.now _
    | true =>
      cases hB : placedV (pairsV a n ks) tg with
      | false =>
        refine ⟨([], false), by simp, Ev.bind (spec_cuKeyed_ev a ks n hk hs) ?_, Ev.bind hp ?_⟩
        · simp only [h, ↓reduceIte]
          refine Ev.bind hq (Ev.bind (spec_cuPlaced_ev _ l hrow (by omega)) ?_)
          simp only [hA, ↓reduceIte]
          refine Ev.bind (spec_cuPlaced_ev _ tg hrow (by omega)) ?_
          refine Ev.succ ?_
          simp only [spec_MovesBetween.j0, hB, Bool.not_false, ↓reduceIte]
          exact Ev.now _
        · simp only [↓reduceIte]
          refine Ev.bind (impl_isPlacement_ev _ l hrow hl hr) ?_
          simp only [hA, ↓reduceIte]
          refine Ev.bind (impl_isPlacement_ev _ tg hrow ht hr') ?_
          refine Ev.succ ?_
          simp only [impl_MovesBetween.j0, hB, Bool.not_false, ↓reduceIte]
          exact Ev.now _
      | true =>
        have e1 := placedV_length hA
        have e2 := placedV_length hB
        obtain ⟨r, hr1, hs1, hi1⟩ := moves_ev tg (by omega) tg.length l [] (by omega) (diffs_le _ _ _) (by simp; omega)
        refine ⟨r, hr1, Ev.bind (spec_cuKeyed_ev a ks n hk hs) ?_, Ev.bind hp ?_⟩
        · simp only [h, ↓reduceIte]
          refine Ev.bind hq (Ev.bind (spec_cuPlaced_ev _ l hrow (by omega)) ?_)
          simp only [hA, ↓reduceIte]
          refine Ev.bind (spec_cuPlaced_ev _ tg hrow (by omega)) ?_
          refine Ev.succ ?_
          have ho : spec_l1Own.f l = some l := by
            unfold spec_l1Own.f
            simp only [Option.bind_some, List.length_nil, Nat.zero_add, List.nil_append, show l.length < 17592186044416 from by omega, ↓reduceIte]
          simp only [spec_MovesBetween.j0, hB, Bool.not_true, Bool.false_eq_true, ↓reduceIte, ho, Option.bind_some]
          exact hs1
        · simp only [↓reduceIte]
          refine Ev.bind (impl_isPlacement_ev _ l hrow hl hr) ?_
          simp only [hA, ↓reduceIte]
          refine Ev.bind (impl_isPlacement_ev _ tg hrow ht hr') ?_
          refine Ev.succ ?_
          have ho : slices_Clone_int_int.f l = some l := by
            unfold slices_Clone_int_int.f
            rw [if_pos (by omega)]
          simp only [impl_MovesBetween.j0, hB, Bool.not_true, Bool.false_eq_true, ↓reduceIte, ho, Option.bind_some]
          exact hi1
theorem FnExactMovesBetween : ∀ (a0 : Int) (l1 : List ByteArray) (a2 : Int) (l3 : List Int) (l4 : List Int), ((Lit.int .i64 a0).wf = true) → (l1.length ≤ maxLen ∧ ∀ l1' ∈ l1, l1'.size ≤ maxLen) → ((Lit.int .i64 a2).wf = true) → (l3.length ≤ maxLen ∧ ∀ l3' ∈ l3, (Lit.int .i64 l3').wf = true) → (l4.length ≤ maxLen ∧ ∀ l4' ∈ l4, (Lit.int .i64 l4').wf = true) → ∃ k, laws_FnExactMovesBetween.f k a0 l1 a2 l3 l4 = some true := by
  intro a ks n l tg h0 hk h1 hl ht
  refine Ev.rounds ?_
  have hk1 : ks.length ≤ 9223372036854775807 := by have := hk.1; unfold maxLen at this; exact this
  have hk2 : ∀ s ∈ ks, s.size ≤ 9223372036854775807 := by have := hk.2; unfold maxLen at this; exact this
  have hr : ∀ x ∈ l, -9223372036854775808 ≤ x ∧ x ≤ 9223372036854775807 := fun x hx => range_of_wf (hl.2 x hx)
  have hr' : ∀ x ∈ tg, -9223372036854775808 ≤ x ∧ x ≤ 9223372036854775807 := fun x hx => range_of_wf (ht.2 x hx)
  obtain ⟨f, hf⟩ := laws_markText_fn
  unfold laws_FnExactMovesBetween.f
  by_cases c0 : (l.length : Int) > 1048576
  · simp only [c0, ↓reduceIte]; exact Ev.now _
  have hl1 : l.length ≤ 1048576 := by omega
  simp only [c0, ↓reduceIte]
  by_cases c1 : (tg.length : Int) > 1048576
  · simp only [c1, ↓reduceIte]; exact Ev.now _
  have ht1 : tg.length ≤ 1048576 := by omega
  simp only [c1, ↓reduceIte]
  refine Ev.bind (laws_szStringS_ev ks _ hk1 hk2 (by omega) (by omega)) ?_
  by_cases z : szTexts ks 1048576 < 0
  · simp only [z, ↓reduceIte]; exact Ev.now _
  simp only [z, ↓reduceIte]
  have zz := szTexts_of z
  obtain ⟨v, hv, hs, hi⟩ := both_ev a ks n l tg hk1 hk2 hl1 ht1 hr hr'
  refine Ev.bind (laws_toStringS_ev ks (by omega)) ?_
  refine Ev.bind (laws_toIntS_ev l (by omega)) ?_
  refine Ev.bind (laws_toIntS_ev tg (by omega)) ?_
  refine Ev.bind hs ?_
  refine Ev.bind (laws_toStringS_ev ks (by omega)) ?_
  refine Ev.bind (laws_toIntS_ev l (by omega)) ?_
  refine Ev.bind (laws_toIntS_ev tg (by omega)) ?_
  refine Ev.bind hi ?_
  refine Ev.bind (laws_eqIntS_self v.1 (by omega)) ?_
  simp only [↓reduceIte, bne_self_eq_false]
  refine Ev.succ ?_
  simp only [laws_FnExactMovesBetween.j0, Bool.false_eq_true, ↓reduceIte]
  refine Ev.bind (laws_toStringS_ev ks (by omega)) ?_
  refine Ev.bind (laws_eqStringS_self ks hk1) ?_
  simp only [↓reduceIte]
  refine Ev.bind (laws_toIntS_ev l (by omega)) ?_
  refine Ev.bind (laws_eqIntS_self l (by omega)) ?_
  simp only [↓reduceIte]
  refine Ev.bind (laws_toIntS_ev tg (by omega)) ?_
  refine Ev.bind (laws_eqIntS_self tg (by omega)) ?_
  simp only [↓reduceIte]
  refine Ev.bind (laws_markStringS_ev f hf ks 1 (by omega) (by omega)) ?_
  refine Ev.bind (laws_markIntS_ev l (1 + (ks.length : Int)) (by omega) (by omega)) ?_
  refine Ev.bind (laws_markIntS_ev tg (1 + (ks.length : Int) + (l.length : Int)) (by omega) (by omega)) ?_
  simp only [show ¬ ((1 : Int) + (ks.length : Int) + (l.length : Int) + (tg.length : Int) < 0) from by omega, ↓reduceIte]
  refine Ev.bind (laws_eqIntS_self v.1 (by omega)) ?_
  simp only [↓reduceIte, bne_self_eq_false]
  refine Ev.succ ?_
  simp only [laws_FnExactMovesBetween.j1, Bool.false_eq_true, ↓reduceIte]
  refine Ev.bind (laws_markIntS_ev v.1 1 (by omega) (by omega)) ?_
  refine Ev.bind (laws_heldIntS_ev 1 v.1.length (by omega) (by omega)) ?_
  simp only [show ¬ ((1 : Int) + (v.1.length : Int) < 0) from by omega, ↓reduceIte]
  refine Ev.bind (laws_toStringS_ev ks (by omega)) ?_
  refine Ev.bind (laws_toIntS_ev l (by omega)) ?_
  refine Ev.bind (laws_toIntS_ev tg (by omega)) ?_
  refine Ev.bind hi ?_
  refine Ev.bind (laws_eqIntS_self v.1 (by omega)) ?_
  simp only [↓reduceIte, bne_self_eq_false]
  refine Ev.succ ?_
  simp only [laws_FnExactMovesBetween.j2, Bool.false_eq_true, ↓reduceIte]
  refine Ev.bind (laws_heldIntS_ev 1 v.1.length (by omega) (by omega)) ?_
  simp only [show ¬ ((1 : Int) + (v.1.length : Int) < 0) from by omega, ↓reduceIte]
  exact Ev.now _

end Go.Proofs.Ytfdnlcilfijmnaa.Pure
