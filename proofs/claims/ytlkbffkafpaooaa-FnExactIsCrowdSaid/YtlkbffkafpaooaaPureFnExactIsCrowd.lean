/- The program's IsCrowd returns what the reference's returns, for all arguments. -/
import Derived.Test.YtlkbffkafpaooaaPFnExactIsCrowdx6
import Derived.Test.YtlkbffkafpaooaaBase
namespace Go.Proofs.Ytlkbffkafpaooaa.Pure
open Go.RowKit Go.Proofs.Ytlkbffkafpaooaa.PFnExactIsCrowd Go.Proofs.YtlkbffkafpaooaaW.PrintWords Go.Proofs.YtlkbffkafpaooaaW.PrintLast Go.Proofs.Ytlkbffkafpaooaa.Base
set_option linter.unusedVariables false
set_option linter.unusedSimpArgs false

theorem spec_l1In_eq (a b c : Int) : spec_l1In.f a b c = some (decide (b ≤ a ∧ a ≤ c)) := by
  unfold spec_l1In.f
  by_cases h : b ≤ a <;> simp [h]
theorem spec_cuSize_eq (a b : Int) : spec_cuSize.f a b = some (decide ((0 ≤ a ∧ a ≤ 9999) ∧ 1 ≤ b ∧ b ≤ 64)) := by
  by_cases h : 0 ≤ a ∧ a ≤ 9999 <;> simp [spec_cuSize.f, spec_l1In_eq, h]
theorem impl_in_eq (a b c : Int) : impl_in.f a b c = some (decide (b ≤ a ∧ a ≤ c)) := by
  unfold impl_in.f
  by_cases h : b ≤ a <;> simp [h]
theorem impl_cellsOk_eq (a : Int) : impl_cellsOk.f a = some (decide (1 ≤ a ∧ a ≤ 64)) := by
  simp only [impl_cellsOk.f, impl_in_eq, Option.bind_some]
theorem impl_isSeed_eq (a : Int) : impl_isSeed.f a = some (decide (0 ≤ a ∧ a ≤ 9999)) := by
  simp only [impl_isSeed.f, impl_in_eq, Option.bind_some]
theorem spec_pow (h : Int) (h0 : 0 ≤ h) (h1 : h < 65521) : Int.tmod (wrap64 ((Int.tmod (wrap64 ((Int.tmod (wrap64 ((Int.tmod (wrap64 ((Int.tmod (wrap64 (h * h)) 65521) * (Int.tmod (wrap64 (h * h)) 65521))) 65521) * h)) 65521) * (Int.tmod (wrap64 ((Int.tmod (wrap64 ((Int.tmod (wrap64 (h * h)) 65521) * (Int.tmod (wrap64 (h * h)) 65521))) 65521) * h)) 65521))) 65521) * h)) 65521 = h ^ 11 % 65521 := by
  have step : ∀ a b : Int, 0 ≤ a → a < 65521 → 0 ≤ b → b < 65521 → Int.tmod (wrap64 (a * b)) 65521 = a * b % 65521 := by
    intro a b ha ha' hb hb'
    obtain ⟨p0, p1⟩ := prod_range ha ha' hb hb'
    rw [w64 (by omega) (by omega), tmod_pos p0]
  have rng : ∀ x : Int, 0 ≤ x % 65521 ∧ x % 65521 < 65521 := fun x => ⟨Int.emod_nonneg _ (by decide), Int.emod_lt_of_pos _ (by decide)⟩
  rw [step h h h0 h1 h0 h1]
  rw [step _ _ (rng _).1 (rng _).2 (rng _).1 (rng _).2]
  rw [step _ _ (rng _).1 (rng _).2 h0 h1]
  rw [step _ _ (rng _).1 (rng _).2 (rng _).1 (rng _).2]
  rw [step _ _ (rng _).1 (rng _).2 h0 h1]
  simp only [mul_mod_l, mul_mod_r]
  congr 1
  simp only [Int.pow_succ, Int.pow_zero, Int.one_mul, Int.mul_assoc]
theorem spec_biHash_l0 (s : ByteArray) (hs : s.size ≤ 9223372036854775807) (d : Nat) : ∀ (i : Nat) (h : Int), i + d = s.size → 0 ≤ h → h < 65521 → Ev (fun k => spec_biHash.l0 k s h (i : Int)) (hashFrom h ((bytesOf s).drop i)) := by
  induction d with
  | zero =>
    intro i h hi h0 h1
    refine Ev.succ ?_
    have c1 : ¬ ((i : Int) < (s.size : Int)) := by omega
    simp only [spec_biHash.l0, c1, ↓reduceIte]
    rw [spec_pow h h0 h1]
    exact Ev.some_ (by rw [List.drop_of_length_le (by rw [bytesOf_length]; omega)]; rfl)
  | succ d ih =>
    intro i h hi h0 h1
    refine Ev.succ ?_
    have c1 : (i : Int) < (s.size : Int) := by omega
    have c2 : (0 : Int) ≤ (i : Int) := by omega
    have hw : wrap64 ((i : Int) + 1) = ((i + 1 : Nat) : Int) := by rw [w64 (by omega) (by omega)]; rfl
    have hb := bt_nat s i (by omega)
    have hr := bt_range s i
    have e : Int.tmod (wrap64 ((wrap64 (263 * h)) + (wrap64 (bt s i)))) 65521 = hstep h (bt s i) := by
      rw [w64 (n := 263 * h) (by omega) (by omega), w64 (n := bt s i) (by omega) (by omega), w64 (by omega) (by omega), tmod_pos (by omega)]
      rfl
    simp only [spec_biHash.l0, c1, c2, ↓reduceIte, hw, e]
    rw [drop_cons _ _ (by rw [bytesOf_length]; omega), ← hb]
    exact ih (i + 1) (hstep h (bt s i)) (by omega) (Int.emod_nonneg _ (by decide)) (Int.emod_lt_of_pos _ (by decide))
theorem spec_biHash_ev (a b : Int) (s : ByteArray) (hs : s.size ≤ 9223372036854775807) (ha0 : 0 ≤ a) (ha1 : a ≤ 9999) (hb0 : 0 ≤ b) (hb1 : b ≤ 9) : Ev (fun k => spec_biHash.f k a b s) (hashV a b s) := by
  have e : Int.tmod (wrap64 ((wrap64 ((wrap64 (31 * a)) + (wrap64 (977 * b)))) + 7)) 65521 = hash0 a b := by
    rw [w64 (n := 31 * a) (by omega) (by omega), w64 (n := 977 * b) (by omega) (by omega), w64 (n := 31 * a + 977 * b) (by omega) (by omega), w64 (by omega) (by omega), tmod_pos (by omega)]
    rfl
  unfold spec_biHash.f
  simp only [e]
  exact spec_biHash_l0 s hs s.size 0 (hash0 a b) (by omega) (Int.emod_nonneg _ (by decide)) (Int.emod_lt_of_pos _ (by decide))
theorem spec_biPlace_ev (a b : Int) (s : ByteArray) (n : Int) (hs : s.size ≤ 9223372036854775807) (ha0 : 0 ≤ a) (ha1 : a ≤ 9999) (hb0 : 0 ≤ b) (hb1 : b ≤ 9) (hn0 : 0 ≤ n) (hn1 : n ≤ 65521) : Ev (fun k => spec_biPlace.f k a b s n) (placeV a b s n) := by
  have hr := hash_range a b s
  have p0 : 0 ≤ hashV a b s * n := Int.mul_nonneg hr.1 hn0
  have p1 : hashV a b s * n ≤ 4293001441 := by
    have h1 : hashV a b s * n ≤ hashV a b s * 65521 := Int.mul_le_mul_of_nonneg_left (by omega) hr.1
    omega
  unfold spec_biPlace.f
  refine Ev.bind (spec_biHash_ev a b s hs ha0 ha1 hb0 hb1) ?_
  refine Ev.some_ ?_
  have h2 : hashV a b s * n / 65521 ≤ hashV a b s * n := Int.ediv_le_self _ p0
  have h3 : 0 ≤ hashV a b s * n / 65521 := Int.ediv_nonneg p0 (by decide)
  rw [w64 (n := hashV a b s * n) (by omega) (by omega), tdiv_pos p0, w64 (by omega) (by omega)]
  rfl
theorem spec_cuCells_ev (a : Int) (s : ByteArray) (n : Int) (hs : s.size ≤ 9223372036854775807) (ha0 : 0 ≤ a) (ha1 : a ≤ 9999) (hn0 : 0 ≤ n) (hn1 : n ≤ 65521) : Ev (fun k => spec_cuCells.f k a s n) [placeV a 0 s n, placeV a 1 s n] := by
  unfold spec_cuCells.f
  refine Ev.bind (spec_biPlace_ev a 0 s n hs ha0 ha1 (by decide) (by decide) hn0 hn1) ?_
  exact Ev.bind (spec_biPlace_ev a 1 s n hs ha0 ha1 (by decide) (by decide) hn0 hn1) (Ev.now _)
theorem impl_hash_l1 (h : Int) (h0 : 0 ≤ h) (h1 : h < 65521) (d : Nat) : ∀ (i : Nat) (o : Int), i + d = 11 → o = h ^ i % 65521 → Ev (fun k => impl_hash.l1 k h o (i : Int)) (h ^ 11 % 65521) := by
  induction d with
  | zero =>
    intro i o hi ho
    obtain rfl : i = 11 := by omega
    refine Ev.succ ?_
    simp only [impl_hash.l1]
    exact Ev.some_ ho
  | succ d ih =>
    intro i o hi ho
    refine Ev.succ ?_
    have c1 : (i : Int) < 11 := by omega
    have hw : wrap64 ((i : Int) + 1) = ((i + 1 : Nat) : Int) := by rw [w64 (by omega) (by omega)]; rfl
    have r : 0 ≤ o ∧ o < 65521 := by rw [ho]; exact ⟨Int.emod_nonneg _ (by decide), Int.emod_lt_of_pos _ (by decide)⟩
    obtain ⟨p0, p1⟩ := prod_range r.1 r.2 h0 h1
    have e : Int.tmod (wrap64 (o * h)) 65521 = h ^ (i + 1) % 65521 := by
      rw [w64 (by omega) (by omega), tmod_pos p0, ho, mul_mod_l, Int.pow_succ]
    simp only [impl_hash.l1, c1, ↓reduceIte, hw]
    exact ih (i + 1) _ (by omega) e
theorem impl_hash_l0 (s : ByteArray) (hs : s.size ≤ 9223372036854775807) (d : Nat) : ∀ (i : Nat) (h : Int), i + d = s.size → 0 ≤ h → h < 65521 → Ev (fun k => impl_hash.l0 k s h (s.size : Int) (i : Int)) (hashFrom h ((bytesOf s).drop i)) := by
  induction d with
  | zero =>
    intro i h hi h0 h1
    refine Ev.succ ?_
    have c1 : ¬ ((i : Int) < (s.size : Int)) := by omega
    simp only [impl_hash.l0, c1, ↓reduceIte]
    rw [List.drop_of_length_le (by rw [bytesOf_length]; omega)]
    exact impl_hash_l1 h h0 h1 11 0 1 (by omega) (by simp)
  | succ d ih =>
    intro i h hi h0 h1
    refine Ev.succ ?_
    have c1 : (i : Int) < (s.size : Int) := by omega
    have c2 : (0 : Int) ≤ (i : Int) := by omega
    have hw : wrap64 ((i : Int) + 1) = ((i + 1 : Nat) : Int) := by rw [w64 (by omega) (by omega)]; rfl
    have hb := bt_nat s i (by omega)
    have hr := bt_range s i
    have e : Int.tmod (wrap64 ((wrap64 (263 * h)) + (wrap64 (bt s i)))) 65521 = hstep h (bt s i) := by
      rw [w64 (n := 263 * h) (by omega) (by omega), w64 (n := bt s i) (by omega) (by omega), w64 (by omega) (by omega), tmod_pos (by omega)]
      rfl
    simp only [impl_hash.l0, c1, c2, ↓reduceIte, hw, e]
    rw [drop_cons _ _ (by rw [bytesOf_length]; omega), ← hb]
    exact ih (i + 1) (hstep h (bt s i)) (by omega) (Int.emod_nonneg _ (by decide)) (Int.emod_lt_of_pos _ (by decide))
theorem impl_hash_ev (a b : Int) (s : ByteArray) (hs : s.size ≤ 9223372036854775807) (ha0 : 0 ≤ a) (ha1 : a ≤ 9999) (hb0 : 0 ≤ b) (hb1 : b ≤ 9) : Ev (fun k => impl_hash.f k a b s) (hashV a b s) := by
  have e : Int.tmod (wrap64 ((wrap64 ((wrap64 (31 * a)) + (wrap64 (977 * b)))) + 7)) 65521 = hash0 a b := by
    rw [w64 (n := 31 * a) (by omega) (by omega), w64 (n := 977 * b) (by omega) (by omega), w64 (n := 31 * a + 977 * b) (by omega) (by omega), w64 (by omega) (by omega), tmod_pos (by omega)]
    rfl
  unfold impl_hash.f
  simp only [e]
  exact impl_hash_l0 s hs s.size 0 (hash0 a b) (by omega) (Int.emod_nonneg _ (by decide)) (Int.emod_lt_of_pos _ (by decide))
theorem impl_place_ev (a b : Int) (s : ByteArray) (n : Int) (hs : s.size ≤ 9223372036854775807) (ha0 : 0 ≤ a) (ha1 : a ≤ 9999) (hb0 : 0 ≤ b) (hb1 : b ≤ 9) (hn0 : 0 ≤ n) (hn1 : n ≤ 65521) : Ev (fun k => impl_place.f k a b s n) (placeV a b s n) := by
  have hr := hash_range a b s
  have p0 : 0 ≤ hashV a b s * n := Int.mul_nonneg hr.1 hn0
  have p1 : hashV a b s * n ≤ 4293001441 := by
    have h1 : hashV a b s * n ≤ hashV a b s * 65521 := Int.mul_le_mul_of_nonneg_left (by omega) hr.1
    omega
  unfold impl_place.f
  refine Ev.bind (impl_hash_ev a b s hs ha0 ha1 hb0 hb1) ?_
  refine Ev.some_ ?_
  have h2 : hashV a b s * n / 65521 ≤ hashV a b s * n := Int.ediv_le_self _ p0
  have h3 : 0 ≤ hashV a b s * n / 65521 := Int.ediv_nonneg p0 (by decide)
  rw [w64 (n := hashV a b s * n) (by omega) (by omega), tdiv_pos p0, w64 (by omega) (by omega)]
  rfl
theorem impl_cellsOf_ev (a : Int) (s : ByteArray) (n : Int) (hs : s.size ≤ 9223372036854775807) (ha0 : 0 ≤ a) (ha1 : a ≤ 9999) (hn0 : 0 ≤ n) (hn1 : n ≤ 65521) : Ev (fun k => impl_cellsOf.f k a s n) (placeV a 0 s n, placeV a 1 s n) := by
  unfold impl_cellsOf.f
  refine Ev.bind (impl_place_ev a 0 s n hs ha0 ha1 (by decide) (by decide) hn0 hn1) ?_
  exact Ev.bind (impl_place_ev a 1 s n hs ha0 ha1 (by decide) (by decide) hn0 hn1) (Ev.now _)
theorem spec_IsKey_ev (s : ByteArray) (hs : s.size ≤ 9223372036854775807) : Ev (fun k => spec_IsKey.f k s) (isKey s) := by
  have h := Ev.up (L := fun k i => spec_IsKey.l0 k s (i : Int)) (r := fun i => ((bytesOf s).drop i).all okByte && decide (1 ≤ (s.size : Int) ∧ (s.size : Int) ≤ 12)) s.size ?_ ?_ 0 (Nat.zero_le _)
  · exact h
  · refine Ev.succ ?_
    have h1 : ¬ ((s.size : Int) < (s.size : Int)) := by omega
    simp only [spec_IsKey.l0, h1, ↓reduceIte, spec_l1In_eq, Option.bind_some]
    exact Ev.some_ (by rw [List.drop_of_length_le (by rw [bytesOf_length]; exact Nat.le_refl _)]; simp)
  · intro i hi ih
    refine Ev.succ ?_
    have h1 : (i : Int) < (s.size : Int) := by omega
    have h2 : (0 : Int) ≤ (i : Int) := by omega
    have hw : wrap64 ((i : Int) + 1) = ((i + 1 : Nat) : Int) := by rw [w64 (by omega) (by omega)]; rfl
    have hb := bt_nat s i hi
    simp only [spec_IsKey.l0, h1, h2, ↓reduceIte, hw]
    rw [drop_cons _ _ (by rw [bytesOf_length]; exact hi), List.all_cons, ← hb]
    by_cases c1 : bt s i < 33
    · simp only [c1, ↓reduceIte]
      exact Ev.some_ (by simp [okByte]; omega)
    · by_cases c2 : bt s i > 125
      · simp only [c1, c2, ↓reduceIte]
        exact Ev.some_ (by simp [okByte]; omega)
      · simp only [c1, c2, ↓reduceIte]
        have c3 : okByte (bt s i) = true := by simp [okByte]; omega
        rw [c3, Bool.true_and]
        exact ih
theorem impl_IsKey_ev (s : ByteArray) (hs : s.size ≤ 9223372036854775807) : Ev (fun k => impl_IsKey.f k s) (isKey s) := by
  have h := Ev.up (L := fun k i => impl_IsKey.l0 k s (s.size : Int) (i : Int)) (r := fun i => ((bytesOf s).drop i).all okByte && decide (1 ≤ (s.size : Int) ∧ (s.size : Int) ≤ 12)) s.size ?_ ?_ 0 (Nat.zero_le _)
  · exact h
  · refine Ev.succ ?_
    have h1 : ¬ ((s.size : Int) < (s.size : Int)) := by omega
    simp only [impl_IsKey.l0, h1, ↓reduceIte, impl_in_eq, Option.bind_some]
    exact Ev.some_ (by rw [List.drop_of_length_le (by rw [bytesOf_length]; exact Nat.le_refl _)]; simp)
  · intro i hi ih
    refine Ev.succ ?_
    have h1 : (i : Int) < (s.size : Int) := by omega
    have h2 : (0 : Int) ≤ (i : Int) := by omega
    have hw : wrap64 ((i : Int) + 1) = ((i + 1 : Nat) : Int) := by rw [w64 (by omega) (by omega)]; rfl
    have hb := bt_nat s i hi
    simp only [impl_IsKey.l0, h1, h2, ↓reduceIte, hw]
    rw [drop_cons _ _ (by rw [bytesOf_length]; exact hi), List.all_cons, ← hb]
    by_cases c1 : bt s i < 33
    · simp only [c1, ↓reduceIte]
      exact Ev.some_ (by simp [okByte]; omega)
    · by_cases c2 : bt s i > 125
      · simp only [c1, c2, ↓reduceIte]
        exact Ev.some_ (by simp [okByte]; omega)
      · simp only [c1, c2, ↓reduceIte]
        have c3 : okByte (bt s i) = true := by simp [okByte]; omega
        rw [c3, Bool.true_and]
        exact ih
def keyAt (l : List ByteArray) (i : Nat) : Bool := isKey (rdOf ByteArray.empty l (i : Int)) && (decide (i = 0) || Op.bytesLess (rdOf ByteArray.empty l ((i - 1 : Nat) : Int)).toList (rdOf ByteArray.empty l (i : Int)).toList)
def keysFrom (l : List ByteArray) (i : Nat) : Bool := (List.range' i (l.length - i)).all (keyAt l) && decide ((l.length : Int) ≤ 40)
def areKeys (l : List ByteArray) : Bool := keysFrom l 0
theorem keysFrom_end (l : List ByteArray) : keysFrom l l.length = decide ((l.length : Int) ≤ 40) := by simp [keysFrom]
theorem keysFrom_step (l : List ByteArray) (i : Nat) (h : i < l.length) : keysFrom l i = (keyAt l i && keysFrom l (i + 1)) := by
  unfold keysFrom
  rw [show l.length - i = (l.length - (i + 1)) + 1 from by omega, List.range'_succ, List.all_cons, Bool.and_assoc]
theorem areKeys_of {l : List ByteArray} (h : areKeys l = true) : l.length ≤ 40 ∧ ∀ s ∈ l, isKey s = true := by
  unfold areKeys keysFrom at h
  simp only [Bool.and_eq_true, decide_eq_true_eq, List.all_eq_true, List.mem_range'] at h
  refine ⟨by omega, fun s hs => ?_⟩
  obtain ⟨i, hi, rfl⟩ := List.getElem_of_mem hs
  have := h.1 i ⟨i, by omega, by omega⟩
  unfold keyAt at this
  simp only [Bool.and_eq_true] at this
  rw [rdOf_nat _ _ _ hi] at this
  exact this.1
theorem rdOf_size {l : List ByteArray} (h : ∀ s ∈ l, s.size ≤ 9223372036854775807) (i : Int) : (rdOf ByteArray.empty l i).size ≤ 9223372036854775807 := by
  unfold rdOf
  rw [List.getD_eq_getElem?_getD]
  cases e : l[i.toNat]? with
  | none => simp
  | some x => simpa using h x (List.mem_of_getElem? e)
theorem spec_biKeys_ev (l : List ByteArray) (hl : l.length ≤ 9223372036854775807) (hs : ∀ s ∈ l, s.size ≤ 9223372036854775807) : Ev (fun k => spec_biKeys.f k l) (areKeys l) := by
  refine Ev.up (L := fun k i => spec_biKeys.l0 k l l (l.length : Int) (i : Int)) (r := fun i => keysFrom l i) l.length ?_ ?_ 0 (Nat.zero_le _)
  · refine Ev.succ ?_
    have h1 : ¬ ((l.length : Int) < (l.length : Int)) := by omega
    simp only [spec_biKeys.l0, h1, ↓reduceIte, keysFrom_end]
    exact Ev.now _
  · intro i hi ih
    refine Ev.succ ?_
    have h1 : (i : Int) < (l.length : Int) := by omega
    have h2 : (0 : Int) ≤ (i : Int) := by omega
    have hw : wrap64 ((i : Int) + 1) = ((i + 1 : Nat) : Int) := by rw [w64 (by omega) (by omega)]; rfl
    simp only [spec_biKeys.l0, h1, h2, ↓reduceIte, hw]
    refine Ev.bind (spec_IsKey_ev _ (rdOf_size hs _)) ?_
    rw [keysFrom_step l i hi]
    unfold keyAt
    cases isKey (rdOf ByteArray.empty l (i : Int)) with
    | false => simp only [Bool.false_eq_true, ↓reduceIte, Bool.false_and]; exact Ev.now _
    | true =>
      simp only [↓reduceIte, Bool.true_and]
      by_cases c : i = 0
      · subst c
        simp only [Int.natCast_zero, decide_true, Bool.true_or, Bool.true_and, ↓reduceIte, gt_iff_lt, Int.lt_irrefl]
        exact ih
      · have h3 : (i : Int) > 0 := by omega
        have hw1 : wrap64 ((i : Int) - 1) = ((i - 1 : Nat) : Int) := by rw [w64 (by omega) (by omega)]; omega
        have h4 : (0 : Int) ≤ ((i - 1 : Nat) : Int) := by omega
        have h5 : ((i - 1 : Nat) : Int) < (l.length : Int) := by omega
        simp only [c, h3, hw1, h4, h5, ↓reduceIte, decide_false, Bool.false_or]
        cases Op.bytesLess (rdOf ByteArray.empty l ((i - 1 : Nat) : Int)).toList (rdOf ByteArray.empty l (i : Int)).toList with
        | false => simp only [Bool.false_eq_true, ↓reduceIte, Bool.false_and]; exact Ev.now _
        | true => simp only [↓reduceIte, Bool.true_and]; exact ih
theorem impl_AreKeys_ev (l : List ByteArray) (hl : l.length ≤ 9223372036854775807) (hs : ∀ s ∈ l, s.size ≤ 9223372036854775807) : Ev (fun k => impl_AreKeys.f k l) (areKeys l) := by
  refine Ev.up (L := fun k i => impl_AreKeys.l0 k l l (l.length : Int) (i : Int)) (r := fun i => keysFrom l i) l.length ?_ ?_ 0 (Nat.zero_le _)
  · refine Ev.succ ?_
    have h1 : ¬ ((l.length : Int) < (l.length : Int)) := by omega
    simp only [impl_AreKeys.l0, h1, ↓reduceIte, keysFrom_end]
    exact Ev.now _
  · intro i hi ih
    refine Ev.succ ?_
    have h1 : (i : Int) < (l.length : Int) := by omega
    have h2 : (0 : Int) ≤ (i : Int) := by omega
    have hw : wrap64 ((i : Int) + 1) = ((i + 1 : Nat) : Int) := by rw [w64 (by omega) (by omega)]; rfl
    simp only [impl_AreKeys.l0, h1, h2, ↓reduceIte, hw]
    refine Ev.bind (impl_IsKey_ev _ (rdOf_size hs _)) ?_
    rw [keysFrom_step l i hi]
    unfold keyAt
    cases isKey (rdOf ByteArray.empty l (i : Int)) with
    | false => simp only [Bool.false_eq_true, ↓reduceIte, Bool.false_and]; exact Ev.now _
    | true =>
      simp only [↓reduceIte, Bool.true_and]
      by_cases c : i = 0
      · subst c
        simp only [Int.natCast_zero, decide_true, Bool.true_or, Bool.true_and, ↓reduceIte, gt_iff_lt, Int.lt_irrefl]
        exact ih
      · have h3 : (i : Int) > 0 := by omega
        have hw1 : wrap64 ((i : Int) - 1) = ((i - 1 : Nat) : Int) := by rw [w64 (by omega) (by omega)]; omega
        have h4 : (0 : Int) ≤ ((i - 1 : Nat) : Int) := by omega
        have h5 : ((i - 1 : Nat) : Int) < (l.length : Int) := by omega
        simp only [c, h3, hw1, h4, h5, ↓reduceIte, decide_false, Bool.false_or]
        cases Op.bytesLess (rdOf ByteArray.empty l ((i - 1 : Nat) : Int)).toList (rdOf ByteArray.empty l (i : Int)).toList with
        | false => simp only [Bool.false_eq_true, ↓reduceIte, Bool.false_and]; exact Ev.now _
        | true => simp only [↓reduceIte, Bool.true_and]; exact ih
def pairsV (a n : Int) (ks : List ByteArray) : List (List Int) := ks.map fun s => [placeV a 0 s n, placeV a 1 s n]
theorem pairsV_length (a n : Int) (ks : List ByteArray) : (pairsV a n ks).length = ks.length := by simp [pairsV]
theorem pairsV_snoc (a n : Int) (ks : List ByteArray) (i : Nat) (h : i < ks.length) : pairsV a n (ks.take (i + 1)) = pairsV a n (ks.take i) ++ [[placeV a 0 ks[i] n, placeV a 1 ks[i] n]] := by
  unfold pairsV
  rw [List.take_succ_eq_append_getElem h, List.map_append]
  rfl
def keyedV (a : Int) (ks : List ByteArray) (n : Int) : Bool := decide ((0 ≤ a ∧ a ≤ 9999) ∧ 1 ≤ n ∧ n ≤ 64) && areKeys ks
theorem keyedV_of {a n : Int} {ks : List ByteArray} (h : keyedV a ks n = true) : (0 ≤ a ∧ a ≤ 9999) ∧ (1 ≤ n ∧ n ≤ 64) ∧ areKeys ks = true := by
  unfold keyedV at h
  simp only [Bool.and_eq_true, decide_eq_true_eq] at h
  exact ⟨h.1.1, h.1.2, h.2⟩
theorem spec_cuKeyed_ev (a : Int) (ks : List ByteArray) (n : Int) (hk : ks.length ≤ 9223372036854775807) (hs : ∀ s ∈ ks, s.size ≤ 9223372036854775807) : Ev (fun k => spec_cuKeyed.f k a ks n) (keyedV a ks n) := by
  unfold spec_cuKeyed.f keyedV
  simp only [spec_cuSize_eq, Option.bind_some]
  by_cases c : (0 ≤ a ∧ a ≤ 9999) ∧ 1 ≤ n ∧ n ≤ 64
  · simp only [c, and_self, decide_true, ↓reduceIte, Bool.true_and]
    exact Ev.bind (spec_biKeys_ev ks hk hs) (Ev.now _)
  · simp only [c, decide_false, Bool.false_eq_true, ↓reduceIte, Bool.false_and]
    exact Ev.now _
theorem spec_cuPairs_ev (a n : Int) (ks : List ByteArray) (hl : ks.length ≤ 1000) (hs : ∀ s ∈ ks, s.size ≤ 9223372036854775807) (ha0 : 0 ≤ a) (ha1 : a ≤ 9999) (hn0 : 0 ≤ n) (hn1 : n ≤ 65521) : Ev (fun k => spec_cuPairs.f k a ks n) (pairsV a n ks) := by
  suffices h : ∀ d i : Nat, i + d = ks.length → Ev (fun k => spec_cuPairs.l0 k a n (pairsV a n (ks.take i)) ks (ks.length : Int) (i : Int)) (pairsV a n ks) from h ks.length 0 (by omega)
  intro d
  induction d with
  | zero =>
    intro i hi
    refine Ev.succ ?_
    have h1 : ¬ ((i : Int) < (ks.length : Int)) := by omega
    simp only [spec_cuPairs.l0, h1, ↓reduceIte]
    exact Ev.some_ (by rw [List.take_of_length_le (by omega)])
  | succ d ih =>
    intro i hi
    refine Ev.succ ?_
    have h0 : i < ks.length := by omega
    have h1 : (i : Int) < (ks.length : Int) := by omega
    have h2 : (0 : Int) ≤ (i : Int) := by omega
    have hw : wrap64 ((i : Int) + 1) = ((i + 1 : Nat) : Int) := by rw [w64 (by omega) (by omega)]; rfl
    have h3 : (pairsV a n (ks.take i)).length < 5864062014805 := by rw [pairsV_length, List.length_take]; omega
    simp only [spec_cuPairs.l0, h1, h2, ↓reduceIte, hw, rdOf_nat ByteArray.empty ks i h0]
    refine Ev.bind (spec_cuCells_ev a _ n (hs _ (List.getElem_mem h0)) ha0 ha1 hn0 hn1) ?_
    simp only [h3, ↓reduceIte]
    rw [← pairsV_snoc a n ks i h0]
    exact ih (i + 1) (by omega)
theorem impl_pairs_l0 (a n : Int) (ks : List ByteArray) (hl : ks.length ≤ 1000) (hs : ∀ s ∈ ks, s.size ≤ 9223372036854775807) (ha0 : 0 ≤ a) (ha1 : a ≤ 9999) (hn0 : 0 ≤ n) (hn1 : n ≤ 65521) : Ev (fun k => impl_pairs.l0 k a n ([] : List (List Int)) ks (ks.length : Int) 0) (pairsV a n ks, true) := by
  suffices h : ∀ d i : Nat, i + d = ks.length → Ev (fun k => impl_pairs.l0 k a n (pairsV a n (ks.take i)) ks (ks.length : Int) (i : Int)) (pairsV a n ks, true) from h ks.length 0 (by omega)
  intro d
  induction d with
  | zero =>
    intro i hi
    refine Ev.succ ?_
    have h1 : ¬ ((i : Int) < (ks.length : Int)) := by omega
    simp only [impl_pairs.l0, h1, ↓reduceIte]
    exact Ev.some_ (by rw [List.take_of_length_le (by omega)])
  | succ d ih =>
    intro i hi
    refine Ev.succ ?_
    have h0 : i < ks.length := by omega
    have h1 : (i : Int) < (ks.length : Int) := by omega
    have h2 : (0 : Int) ≤ (i : Int) := by omega
    have hw : wrap64 ((i : Int) + 1) = ((i + 1 : Nat) : Int) := by rw [w64 (by omega) (by omega)]; rfl
    have h3 : (pairsV a n (ks.take i)).length < 5864062014805 := by rw [pairsV_length, List.length_take]; omega
    simp only [impl_pairs.l0, h1, h2, ↓reduceIte, hw, rdOf_nat ByteArray.empty ks i h0]
    refine Ev.bind (impl_cellsOf_ev a _ n (hs _ (List.getElem_mem h0)) ha0 ha1 hn0 hn1) ?_
    simp only [h3, ↓reduceIte]
    rw [← pairsV_snoc a n ks i h0]
    exact ih (i + 1) (by omega)
def pairedV (a : Int) (ks : List ByteArray) (n : Int) : List (List Int) × Bool := if keyedV a ks n = true then (pairsV a n ks, true) else ([], false)
theorem impl_pairs_ev (a : Int) (ks : List ByteArray) (n : Int) (hk : ks.length ≤ 9223372036854775807) (hs : ∀ s ∈ ks, s.size ≤ 9223372036854775807) : Ev (fun k => impl_pairs.f k a ks n) (pairedV a ks n) := by
  unfold impl_pairs.f pairedV keyedV
  simp only [impl_isSeed_eq, Option.bind_some]
  by_cases c : 0 ≤ a ∧ a ≤ 9999
  · simp only [c, and_self, decide_true, ↓reduceIte, true_and]
    refine Ev.bind (impl_AreKeys_ev ks hk hs) ?_
    cases hks : areKeys ks with
    | false => simp only [Bool.false_eq_true, ↓reduceIte, Bool.and_false]; refine Ev.succ ?_; simp only [impl_pairs.j0, ↓reduceIte]; exact Ev.now _
    | true =>
      simp only [↓reduceIte, impl_cellsOk_eq, Option.bind_some, Bool.and_true]
      refine Ev.succ ?_
      by_cases c1 : 1 ≤ n ∧ n ≤ 64
      · simp only [impl_pairs.j0, c1, and_self, decide_true, Bool.not_true, Bool.false_eq_true, ↓reduceIte]
        exact impl_pairs_l0 a n ks (by have := (areKeys_of hks).1; omega) hs c.1 c.2 (by omega) (by omega)
      · simp only [impl_pairs.j0, c1, decide_false, Bool.not_false, Bool.false_eq_true, ↓reduceIte]
        exact Ev.now _
  · simp only [c, decide_false, Bool.false_eq_true, ↓reduceIte, false_and, Bool.false_and]
    refine Ev.succ ?_
    simp only [impl_pairs.j0, ↓reduceIte]
    exact Ev.now _
def risAt (lo hi : Int) (l : List Int) (i : Nat) : Bool := decide (lo ≤ rd l (i : Int) ∧ rd l (i : Int) ≤ hi) && (decide (i = 0) || decide (rd l ((i - 1 : Nat) : Int) < rd l (i : Int)))
def risFrom (lo hi : Int) (l : List Int) (i : Nat) : Bool := (List.range' i (l.length - i)).all (risAt lo hi l)
theorem risFrom_end (lo hi : Int) (l : List Int) : risFrom lo hi l l.length = true := by simp [risFrom]
theorem risFrom_step (lo hi : Int) (l : List Int) (i : Nat) (h : i < l.length) : risFrom lo hi l i = (risAt lo hi l i && risFrom lo hi l (i + 1)) := by
  unfold risFrom
  rw [show l.length - i = (l.length - (i + 1)) + 1 from by omega, List.range'_succ, List.all_cons]
theorem risFrom_mem {lo hi : Int} {l : List Int} (h : risFrom lo hi l 0 = true) : ∀ x ∈ l, lo ≤ x ∧ x ≤ hi := by
  intro x hx
  obtain ⟨i, hi', rfl⟩ := List.getElem_of_mem hx
  unfold risFrom at h
  rw [List.all_eq_true] at h
  have h1 := h i (by rw [List.mem_range'_1]; omega)
  unfold risAt at h1
  rw [Bool.and_eq_true, decide_eq_true_eq, rd_nat l i hi'] at h1
  exact h1.1
theorem spec_l1Rising_ev (l : List Int) (lo hi : Int) (hl : l.length ≤ 9223372036854775807) : Ev (fun k => spec_l1Rising.f k l lo hi) (risFrom lo hi l 0) := by
  refine Ev.up (L := fun k i => spec_l1Rising.l0 k l lo hi l (l.length : Int) (i : Int)) (r := fun i => risFrom lo hi l i) l.length ?_ ?_ 0 (Nat.zero_le _)
  · refine Ev.succ ?_
    have h1 : ¬ ((l.length : Int) < (l.length : Int)) := by omega
    simp only [spec_l1Rising.l0, h1, ↓reduceIte, risFrom_end]
    exact Ev.now _
  · intro i hi' ih
    refine Ev.succ ?_
    have h1 : (i : Int) < (l.length : Int) := by omega
    have h2 : (0 : Int) ≤ (i : Int) := by omega
    have hw : wrap64 ((i : Int) + 1) = ((i + 1 : Nat) : Int) := by rw [w64 (by omega) (by omega)]; rfl
    simp only [spec_l1Rising.l0, h1, h2, ↓reduceIte, hw, spec_l1In_eq, Option.bind_some]
    rw [risFrom_step lo hi l i hi']
    unfold risAt
    by_cases c : lo ≤ rd l (i : Int) ∧ rd l (i : Int) ≤ hi
    · simp only [c, and_self, decide_true, ↓reduceIte, Bool.true_and]
      by_cases z : i = 0
      · subst z
        simp only [show ¬ (((0 : Nat) : Int) > 0) from by omega, ↓reduceIte, decide_true, Bool.true_or, Bool.true_and]
        exact ih
      · have hv : wrap64 ((i : Int) - 1) = ((i - 1 : Nat) : Int) := by rw [w64 (by omega) (by omega)]; omega
        simp only [show ((i : Int) > 0) from by omega, z, ↓reduceIte, hv, show (0 : Int) ≤ ((i - 1 : Nat) : Int) from by omega, show ((i - 1 : Nat) : Int) < (l.length : Int) from by omega, decide_false, Bool.false_or]
        by_cases g : rd l ((i - 1 : Nat) : Int) < rd l (i : Int)
        · simp only [g, show ¬ (rd l ((i - 1 : Nat) : Int) ≥ rd l (i : Int)) from by omega, ↓reduceIte, decide_true, Bool.true_and]
          exact ih
        · simp only [g, show (rd l ((i - 1 : Nat) : Int) ≥ rd l (i : Int)) from by omega, ↓reduceIte, decide_false, Bool.false_and]
          exact Ev.now _
    · simp only [c, decide_false, Bool.false_eq_true, ↓reduceIte, Bool.false_and]
      exact Ev.now _
theorem impl_indicesOk_ev (l : List Int) (n : Int) (hl : l.length ≤ 9223372036854775807) (hn0 : 0 ≤ n) (hn1 : n ≤ 9223372036854775807) : Ev (fun k => impl_indicesOk.f k l n) (risFrom 0 (n - 1) l 0 && decide ((l.length : Int) > 0)) := by
  have hm : wrap64 (n - 1) = n - 1 := w64 (by omega) (by omega)
  refine Ev.up (L := fun k i => impl_indicesOk.l0 k l n l (l.length : Int) (i : Int)) (r := fun i => risFrom 0 (n - 1) l i && decide ((l.length : Int) > 0)) l.length ?_ ?_ 0 (Nat.zero_le _)
  · refine Ev.succ ?_
    have h1 : ¬ ((l.length : Int) < (l.length : Int)) := by omega
    simp only [impl_indicesOk.l0, h1, ↓reduceIte, risFrom_end, Bool.true_and]
    exact Ev.now _
  · intro i hi' ih
    refine Ev.succ ?_
    have h1 : (i : Int) < (l.length : Int) := by omega
    have h2 : (0 : Int) ≤ (i : Int) := by omega
    have hw : wrap64 ((i : Int) + 1) = ((i + 1 : Nat) : Int) := by rw [w64 (by omega) (by omega)]; rfl
    simp only [impl_indicesOk.l0, h1, h2, ↓reduceIte, hw, hm, impl_in_eq, Option.bind_some]
    rw [risFrom_step 0 (n - 1) l i hi']
    unfold risAt
    by_cases c : 0 ≤ rd l (i : Int) ∧ rd l (i : Int) ≤ n - 1
    · simp only [c, and_self, decide_true, ↓reduceIte, Bool.true_and]
      by_cases z : i = 0
      · subst z
        simp only [show ¬ (((0 : Nat) : Int) > 0) from by omega, ↓reduceIte, decide_true, Bool.true_or, Bool.true_and]
        exact ih
      · have hv : wrap64 ((i : Int) - 1) = ((i - 1 : Nat) : Int) := by rw [w64 (by omega) (by omega)]; omega
        simp only [show ((i : Int) > 0) from by omega, z, ↓reduceIte, hv, show (0 : Int) ≤ ((i - 1 : Nat) : Int) from by omega, show ((i - 1 : Nat) : Int) < (l.length : Int) from by omega, decide_false, Bool.false_or]
        by_cases g : rd l ((i - 1 : Nat) : Int) < rd l (i : Int)
        · simp only [g, show ¬ (rd l ((i - 1 : Nat) : Int) ≥ rd l (i : Int)) from by omega, ↓reduceIte, decide_true, Bool.true_and]
          exact ih
        · simp only [g, show (rd l ((i - 1 : Nat) : Int) ≥ rd l (i : Int)) from by omega, ↓reduceIte, decide_false, Bool.false_and]
          exact Ev.now _
    · simp only [c, decide_false, Bool.false_eq_true, ↓reduceIte, Bool.false_and]
      exact Ev.now _
/-- A strict linear order, told by a Bool. -/
structure Lin {α : Type} (lt : α → α → Bool) : Prop where
  irr : ∀ x, lt x x = false
  trans : ∀ x y z, lt x y = true → lt y z = true → lt x z = true
  tri : ∀ x y, lt x y = true ∨ x = y ∨ lt y x = true
def putG {α : Type} [DecidableEq α] (lt : α → α → Bool) (x : α) : List α → List α
  | [] => [x]
  | y :: ys => if lt y x = true then y :: putG lt x ys else if y = x then y :: ys else x :: y :: ys
def Rising {α : Type} (lt : α → α → Bool) (l : List α) : Prop := l.Pairwise fun x y => lt x y = true
theorem mem_putG {α : Type} [DecidableEq α] {lt : α → α → Bool} {x z : α} {l : List α} : z ∈ putG lt x l ↔ z = x ∨ z ∈ l := by
  induction l with
  | nil => simp [putG]
  | cons y ys ih =>
    unfold putG
    by_cases c : lt y x = true
    · rw [if_pos c]
      simp only [List.mem_cons, ih]
      constructor
      · rintro (h | h | h)
        · exact .inr (.inl h)
        · exact .inl h
        · exact .inr (.inr h)
      · rintro (h | h | h)
        · exact .inr (.inl h)
        · exact .inl h
        · exact .inr (.inr h)
    · rw [if_neg c]
      by_cases d : y = x
      · rw [if_pos d]
        subst d
        simp
      · rw [if_neg d]
        simp
theorem putG_rising {α : Type} [DecidableEq α] {lt : α → α → Bool} (H : Lin lt) (x : α) {l : List α} (h : Rising lt l) : Rising lt (putG lt x l) := by
  induction l with
  | nil => simp [putG, Rising]
  | cons y ys ih =>
    unfold Rising at h ih ⊢
    rw [List.pairwise_cons] at h
    unfold putG
    by_cases c : lt y x = true
    · rw [if_pos c, List.pairwise_cons]
      refine ⟨?_, ih h.2⟩
      intro z hz
      rcases mem_putG.1 hz with rfl | hz
      · exact c
      · exact h.1 z hz
    · rw [if_neg c]
      by_cases d : y = x
      · rw [if_pos d]
        exact List.pairwise_cons.2 h
      · rw [if_neg d]
        have e : lt x y = true := by
          rcases H.tri x y with e | e | e
          · exact e
          · exact absurd e.symm d
          · exact absurd e c
        refine List.pairwise_cons.2 ⟨?_, List.pairwise_cons.2 h⟩
        intro z hz
        rcases List.mem_cons.1 hz with rfl | hz
        · exact e
        · exact H.trans _ _ _ e (h.1 z hz)
theorem Rising.nodup {α : Type} {lt : α → α → Bool} (H : Lin lt) {l : List α} (h : Rising lt l) : l.Nodup := by
  refine List.Pairwise.imp ?_ h
  intro a b hab e
  subst e
  rw [H.irr] at hab
  cases hab
theorem rising_ext {α : Type} {lt : α → α → Bool} (H : Lin lt) : ∀ {l m : List α}, Rising lt l → Rising lt m → (∀ x, x ∈ l ↔ x ∈ m) → l = m
  | [], [], _, _, _ => rfl
  | [], y :: m, _, _, h => absurd ((h y).2 (by simp)) (by simp)
  | x :: l, [], _, _, h => absurd ((h x).1 (by simp)) (by simp)
  | x :: l, y :: m, hl, hm, h => by
    unfold Rising at hl hm
    rw [List.pairwise_cons] at hl hm
    have e : x = y := by
      have h1 := (h x).1 (by simp)
      have h2 := (h y).2 (by simp)
      rcases List.mem_cons.1 h1 with e | e
      · exact e
      · rcases List.mem_cons.1 h2 with e2 | e2
        · exact e2.symm
        · have := H.trans _ _ _ (hl.1 y e2) (hm.1 x e)
          rw [H.irr] at this
          cases this
    subst e
    congr 1
    refine rising_ext H hl.2 hm.2 ?_
    intro z
    have hz := h z
    simp only [List.mem_cons] at hz
    constructor
    · intro h1
      rcases hz.1 (.inr h1) with e | e
      · subst e
        have := hl.1 z h1
        rw [H.irr] at this
        cases this
      · exact e
    · intro h1
      rcases hz.2 (.inr h1) with e | e
      · subst e
        have := hm.1 z h1
        rw [H.irr] at this
        cases this
      · exact e
theorem putG_same {α : Type} [DecidableEq α] {lt : α → α → Bool} (H : Lin lt) {x : α} {l : List α} (h : Rising lt l) (hx : x ∈ l) : putG lt x l = l := by
  refine rising_ext H (putG_rising H x h) h fun z => ?_
  rw [mem_putG]
  constructor
  · rintro (rfl | h)
    · exact hx
    · exact h
  · exact .inr
theorem putG_length {α : Type} [DecidableEq α] {lt : α → α → Bool} (H : Lin lt) {x : α} {l : List α} (h : Rising lt l) (hx : x ∉ l) : (putG lt x l).length = l.length + 1 := by
  have h1 : (putG lt x l).Perm (x :: l) := by
    refine (List.perm_ext_iff_of_nodup ((putG_rising H x h).nodup H) (List.nodup_cons.2 ⟨hx, h.nodup H⟩)).2 fun z => ?_
    rw [mem_putG, List.mem_cons]
  rw [h1.length_eq, List.length_cons]
theorem putG_length_le {α : Type} [DecidableEq α] {lt : α → α → Bool} (x : α) (l : List α) : (putG lt x l).length ≤ l.length + 1 := by
  induction l with
  | nil => simp [putG]
  | cons y ys ih =>
    unfold putG
    split
    · simp only [List.length_cons]
      omega
    · split <;> simp
def ltI (x y : Int) : Bool := decide (x < y)
theorem linI : Lin ltI where
  irr x := by simp [ltI]
  trans x y z h1 h2 := by
    simp only [ltI, decide_eq_true_eq] at *
    omega
  tri x y := by
    simp only [ltI, decide_eq_true_eq]
    omega
def putI (x : Int) (l : List Int) : List Int := putG ltI x l
def putAll {α : Type} [DecidableEq α] (lt : α → α → Bool) (xs l : List α) : List α := xs.foldl (fun l x => putG lt x l) l
theorem putAll_rising {α : Type} [DecidableEq α] {lt : α → α → Bool} (H : Lin lt) (xs : List α) : ∀ {l : List α}, Rising lt l → Rising lt (putAll lt xs l) := by
  induction xs with
  | nil => exact fun h => h
  | cons x xs ih => exact fun h => ih (putG_rising H x h)
theorem mem_putAll {α : Type} [DecidableEq α] {lt : α → α → Bool} {z : α} (xs : List α) : ∀ {l : List α}, z ∈ putAll lt xs l ↔ z ∈ xs ∨ z ∈ l := by
  induction xs with
  | nil => simp [putAll]
  | cons x xs ih =>
    intro l
    show z ∈ putAll lt xs (putG lt x l) ↔ _
    rw [ih, mem_putG, List.mem_cons]
    constructor
    · rintro (h | h | h)
      · exact .inl (.inr h)
      · exact .inl (.inl h)
      · exact .inr h
    · rintro ((h | h) | h)
      · exact .inr (.inl h)
      · exact .inl h
      · exact .inr (.inr h)
theorem spec_l1Put_ev (l : List Int) (x : Int) (hl : l.length ≤ 4000000) : Ev (fun k => spec_l1Put.f k l x) (putG ltI x l) := by
  suffices H : ∀ d i : Nat, i + d = l.length → Ev (fun k => spec_l1Put.l0 k l x (i : Int)) (l.take i ++ putG ltI x (l.drop i)) from H l.length 0 (by omega)
  intro d
  induction d with
  | zero =>
    intro i hi
    refine Ev.succ ?_
    obtain rfl : i = l.length := by omega
    have h1 : ¬ ((l.length : Int) < (l.length : Int)) := by omega
    have h2 : (0 : Int) ≤ (l.length : Int) := by omega
    have h4 : l.length < 17592186044416 := by omega
    simp only [spec_l1Put.l0, h1, h2, Int.le_refl, ↓reduceIte, Option.bind_some, Int.toNat_natCast, List.take_length, List.drop_length, List.length_nil, Nat.zero_add, h4, List.nil_append, List.length_append, List.length_singleton, Nat.add_zero, show l.length + 1 < 17592186044416 from by omega, putG]
    exact Ev.some_ (by simp)
  | succ d ih =>
    intro i hi
    refine Ev.succ ?_
    have h0 : i < l.length := by omega
    have h1 : (i : Int) < (l.length : Int) := by omega
    have h2 : (0 : Int) ≤ (i : Int) := by omega
    have h3 : (i : Int) ≤ (l.length : Int) := by omega
    have hw : wrap64 ((i : Int) + 1) = ((i + 1 : Nat) : Int) := by rw [w64 (by omega) (by omega)]; rfl
    rw [drop_cons l i h0]
    unfold putG
    simp only [spec_l1Put.l0, h1, h2, ↓reduceIte, hw, rd_nat l i h0]
    by_cases c : l[i] < x
    · have c' : ltI l[i] x = true := decide_eq_true c
      simp only [↓reduceIte, c, c']
      have e := ih (i + 1) (by omega)
      rw [List.take_succ_eq_append_getElem h0, List.append_assoc] at e
      exact e
    · have c' : ¬ (ltI l[i] x = true) := by unfold ltI; simpa using c
      simp only [c, c', ↓reduceIte, Bool.false_eq_true]
      by_cases g : l[i] = x
      · simp only [g, ↓reduceIte]
        refine Ev.some_ ?_
        rw [← g, ← drop_cons l i h0, List.take_append_drop]
      · have t1 : (l.take i).length = i := by rw [List.length_take]; omega
        have t2 : (l.drop i).length = l.length - i := List.length_drop
        simp only [g, ↓reduceIte, Option.bind_some, h3, Int.toNat_natCast, List.length_nil, Nat.zero_add, List.nil_append, t1, t2, List.length_append, List.length_singleton, show i < 17592186044416 from by omega, show i + 1 + (l.length - i) < 17592186044416 from by omega]
        exact Ev.some_ (by rw [← drop_cons l i h0]; simp)
def cellsV (ls : List (List Int)) (l : List Int) : List Int := l.flatMap fun i => [rd (ls.getD i.toNat []) 0, rd (ls.getD i.toNat []) 1]
def wideV (ls : List (List Int)) (l : List Int) : Int := ((putAll ltI (cellsV ls l) []).length : Int)
theorem putAll_length_le {α : Type} [DecidableEq α] (lt : α → α → Bool) (xs : List α) : ∀ l : List α, (putAll lt xs l).length ≤ xs.length + l.length := by
  induction xs with
  | nil => intro l; simp [putAll]
  | cons x r ih =>
    intro l
    have h1 := ih (putG lt x l)
    have h2 := putG_length_le (lt := lt) x l
    unfold putAll at h1 ⊢
    rw [List.foldl_cons, List.length_cons]
    omega
theorem cellsV_length (ls : List (List Int)) (l : List Int) : (cellsV ls l).length = 2 * l.length := by
  unfold cellsV
  induction l with
  | nil => rfl
  | cons a r ih => rw [List.flatMap_cons, List.length_append, ih, List.length_cons]; simp; omega
theorem cellsV_snoc (ls : List (List Int)) (l : List Int) (i : Nat) (h : i < l.length) : cellsV ls (l.take (i + 1)) = cellsV ls (l.take i) ++ [rd (ls.getD (rd l (i : Int)).toNat []) 0, rd (ls.getD (rd l (i : Int)).toNat []) 1] := by
  unfold cellsV
  rw [List.take_succ_eq_append_getElem h, List.flatMap_append, rd_nat l i h]
  simp
theorem getD_row2 {ls : List (List Int)} (hr : ∀ r ∈ ls, r.length = 2) {x : Int} (h0 : 0 ≤ x) (h1 : x < (ls.length : Int)) : (ls.getD x.toNat []).length = 2 := by
  rw [List.getD_eq_getElem?_getD, List.getElem?_eq_getElem (show x.toNat < ls.length by omega)]
  exact hr _ (List.getElem_mem _)
theorem spec_cuWide_ev (ls : List (List Int)) (l : List Int) (hl : l.length ≤ 1048576) (hin : ∀ x ∈ l, 0 ≤ x ∧ x < (ls.length : Int)) (hr : ∀ r ∈ ls, r.length = 2) : Ev (fun k => spec_cuWide.f k ls l) (wideV ls l) := by
  suffices H : ∀ d i : Nat, i + d = l.length → Ev (fun k => spec_cuWide.l0 k ls (putAll ltI (cellsV ls (l.take i)) []) l (l.length : Int) (i : Int)) (wideV ls l) from H l.length 0 (by omega)
  intro d
  induction d with
  | zero =>
    intro i hi
    refine Ev.succ ?_
    have h1 : ¬ ((i : Int) < (l.length : Int)) := by omega
    simp only [spec_cuWide.l0, h1, ↓reduceIte]
    exact Ev.some_ (by rw [List.take_of_length_le (by omega)]; rfl)
  | succ d ih =>
    intro i hi
    refine Ev.succ ?_
    have h0 : i < l.length := by omega
    have h1 : (i : Int) < (l.length : Int) := by omega
    have h2 : (0 : Int) ≤ (i : Int) := by omega
    have hw : wrap64 ((i : Int) + 1) = ((i + 1 : Nat) : Int) := by rw [w64 (by omega) (by omega)]; rfl
    have e := cellsV_snoc ls l i h0
    have hlen := putAll_length_le ltI (cellsV ls (l.take i)) []
    rw [cellsV_length, List.length_take, List.length_nil] at hlen
    obtain ⟨h3, h4⟩ := hin (rd l (i : Int)) (by rw [rd_nat l i h0]; exact List.getElem_mem h0)
    have h5 := getD_row2 hr h3 h4
    have e1 : rd_L2 ls (rd l (i : Int)) = ls.getD (rd l (i : Int)).toNat [] := rfl
    simp only [spec_cuWide.l0, h1, h2, h3, h4, ↓reduceIte, hw, e1, h5, show (0 : Int) < ((2 : Nat) : Int) from by decide, show (1 : Int) < ((2 : Nat) : Int) from by decide]
    refine Ev.bind (spec_l1Put_ev _ _ (by omega)) ?_
    refine Ev.bind (spec_l1Put_ev _ _ (by have := putG_length_le (lt := ltI) (rd (ls.getD (rd l (i : Int)).toNat []) 0) (putAll ltI (cellsV ls (l.take i)) []); omega)) ?_
    have h6 := ih (i + 1) (by omega)
    rw [e] at h6
    unfold putAll at h6 ⊢
    rw [List.foldl_append] at h6
    exact h6
theorem addI_all (xs : List Int) : ∀ acc : List Int, acc.Nodup → (xs.foldl Go.Proofs.Ytlkbffkafpaooaa.Seen.addI acc).Nodup ∧ ∀ x, x ∈ xs.foldl Go.Proofs.Ytlkbffkafpaooaa.Seen.addI acc ↔ x ∈ xs ∨ x ∈ acc := by
  induction xs with
  | nil => intro acc h; exact ⟨h, fun x => by simp⟩
  | cons a r ih =>
    intro acc h
    rw [List.foldl_cons]
    have hn : (Go.Proofs.Ytlkbffkafpaooaa.Seen.addI acc a).Nodup ∧ ∀ x, x ∈ Go.Proofs.Ytlkbffkafpaooaa.Seen.addI acc a ↔ x = a ∨ x ∈ acc := by
      unfold Go.Proofs.Ytlkbffkafpaooaa.Seen.addI
      by_cases c : a ∈ acc
      · rw [if_pos c]
        refine ⟨h, fun x => ⟨.inr, ?_⟩⟩
        rintro (rfl | hx)
        · exact c
        · exact hx
      · rw [if_neg c]
        refine ⟨?_, fun x => by simp [or_comm]⟩
        rw [List.nodup_append]
        refine ⟨h, by simp, ?_⟩
        intro x hx y hy e
        simp at hy
        subst hy
        exact c (e ▸ hx)
    obtain ⟨h1, h2⟩ := ih _ hn.1
    refine ⟨h1, fun x => ?_⟩
    rw [h2, hn.2, List.mem_cons]
    constructor
    · rintro (h | h | h)
      · exact .inl (.inr h)
      · exact .inl (.inl h)
      · exact .inr h
    · rintro ((h | h) | h)
      · exact .inr (.inl h)
      · exact .inl h
      · exact .inr (.inr h)
theorem addI_length (xs : List Int) : (xs.foldl Go.Proofs.Ytlkbffkafpaooaa.Seen.addI []).length = (putAll ltI xs []).length := by
  obtain ⟨h1, h2⟩ := addI_all xs [] (by simp)
  have h3 : (putAll ltI xs []).Nodup := (putAll_rising linI xs (by simp [Rising])).nodup linI
  have h4 : ∀ x, x ∈ xs.foldl Go.Proofs.Ytlkbffkafpaooaa.Seen.addI [] ↔ x ∈ putAll ltI xs [] := by
    intro x
    rw [h2, mem_putAll]
  exact ((List.perm_ext_iff_of_nodup h1 h3).2 h4).length_eq
theorem impl_cellCount_eq (ls : List (List Int)) (l : List Int) (hl : l.length ≤ 1048576) (hin : ∀ x ∈ l, 0 ≤ x ∧ x < (ls.length : Int)) (hr : ∀ r ∈ ls, r.length = 2) (hv : ∀ r ∈ ls, ∀ x ∈ r, -9223372036854775808 ≤ x ∧ x ≤ 9223372036854775807) : impl_cellCount.f ls l = some (wideV ls l) := by
  have hok : impl_cellCount.ok ls l = true := by
    unfold impl_cellCount.ok
    simp only [Bool.and_eq_true, decide_eq_true_eq, List.all_eq_true]
    exact ⟨by omega, hin, fun r h => ⟨by rw [hr r h]; exact Nat.le_refl _, hv r h⟩⟩
  unfold impl_cellCount.f wideV
  rw [if_pos hok, addI_length]
  rfl
theorem pairsV_two (a n : Int) (ks : List ByteArray) : ∀ r ∈ pairsV a n ks, r.length = 2 := by
  intro x hx
  unfold pairsV at hx
  obtain ⟨s, _, rfl⟩ := List.mem_map.1 hx
  rfl
theorem pairsV_in (a n : Int) (ks : List ByteArray) (hn : 0 < n) : ∀ r ∈ pairsV a n ks, ∀ x ∈ r, 0 ≤ x ∧ x < n := by
  intro r hr x hx
  unfold pairsV at hr
  obtain ⟨s, _, rfl⟩ := List.mem_map.1 hr
  simp only [List.mem_cons, List.not_mem_nil, or_false] at hx
  rcases hx with rfl | rfl
  · exact place_range hn
  · exact place_range hn
theorem pairsV_range (a n : Int) (ks : List ByteArray) (hn : 0 < n ∧ n ≤ 64) : ∀ r ∈ pairsV a n ks, ∀ x ∈ r, -9223372036854775808 ≤ x ∧ x ≤ 9223372036854775807 := by
  intro r hr x hx
  have := pairsV_in a n ks hn.1 r hr x hx
  omega
theorem laws_eqStringS_self (l : List ByteArray) (hl : l.length ≤ 9223372036854775807) : Ev (fun k => laws_eqStringS.f k l l) true := by
  unfold laws_eqStringS.f
  simp only [↓reduceIte]
  refine Ev.up (L := fun k i => laws_eqStringS.l0 k l l (i : Int)) (r := fun _ => true) l.length ?_ ?_ 0 (Nat.zero_le _)
  · refine Ev.succ ?_
    have h1 : ¬ ((l.length : Int) < (l.length : Int)) := by omega
    simp only [laws_eqStringS.l0, h1, ↓reduceIte]
    exact Ev.now _
  · intro i hi ih
    refine Ev.succ ?_
    have h1 : (i : Int) < (l.length : Int) := by omega
    have h2 : (0 : Int) ≤ (i : Int) := by omega
    have hw : wrap64 ((i : Int) + 1) = ((i + 1 : Nat) : Int) := by rw [w64 (by omega) (by omega)]; rfl
    simp only [laws_eqStringS.l0, h1, h2, ↓reduceIte, hw]
    exact ih
theorem laws_toStringS_l0 (l : List ByteArray) (hl : l.length ≤ 9223372036854775807) (d : Nat) : ∀ (i : Nat) (o : List ByteArray), o.length = l.length → o.take i = l.take i → i + d = l.length → Ev (fun k => laws_toStringS.l0 k l o (i : Int)) l := by
  induction d with
  | zero =>
    intro i o ho ht hi
    refine Ev.succ ?_
    have h1 : ¬ ((i : Int) < (l.length : Int)) := by omega
    simp only [laws_toStringS.l0, h1, ↓reduceIte]
    rw [List.take_of_length_le (by omega), List.take_of_length_le (by omega)] at ht
    exact Ev.some_ ht
  | succ d ih =>
    intro i o ho ht hi
    refine Ev.succ ?_
    have h1 : (i : Int) < (l.length : Int) := by omega
    have h2 : (0 : Int) ≤ (i : Int) := by omega
    have h3 : (i : Int) < (o.length : Int) := by omega
    have hw : wrap64 ((i : Int) + 1) = ((i + 1 : Nat) : Int) := by rw [w64 (by omega) (by omega)]; rfl
    simp only [laws_toStringS.l0, h1, h2, h3, ↓reduceIte, hw, Int.toNat_natCast]
    exact ih (i + 1) _ (by simp [ho]) (by rw [take_set_succ _ _ _ (by omega), ht, rdOf_nat _ _ _ (by omega), List.take_succ_eq_append_getElem (by omega)]) (by omega)
theorem laws_toStringS_ev (l : List ByteArray) (hl : l.length ≤ 17592186044416) : Ev (fun k => laws_toStringS.f k l) l := by
  have h1 : 0 ≤ (l.length : Int) := by omega
  have h2 : ((l.length : Int)).toNat ≤ 17592186044416 := by omega
  simp only [laws_toStringS.f, h1, h2, ↓reduceIte]
  exact laws_toStringS_l0 l (by omega) l.length 0 _ (by simp) (by simp) (by omega)
def szT : List ByteArray → Int → Int
  | [], m => m
  | s :: r, m => if m - (s.size : Int) < 0 then -1 else szT r (m - (s.size : Int))
theorem szT_le (l : List ByteArray) : ∀ m : Int, 0 ≤ m → szT l m ≤ m := by
  induction l with
  | nil => intro m h; exact Int.le_refl m
  | cons s r ih =>
    intro m h
    unfold szT
    by_cases c : m - (s.size : Int) < 0
    · rw [if_pos c]; omega
    · rw [if_neg c]
      have := ih (m - (s.size : Int)) (by omega)
      omega
theorem szT_sizes (l : List ByteArray) : ∀ m : Int, 0 ≤ szT l m → ∀ s ∈ l, (s.size : Int) ≤ m := by
  induction l with
  | nil => intro m h s hs; cases hs
  | cons x r ih =>
    intro m h s hs
    unfold szT at h
    by_cases c : m - (x.size : Int) < 0
    · rw [if_pos c] at h; omega
    · rw [if_neg c] at h
      rcases List.mem_cons.1 hs with rfl | hs
      · omega
      · have := ih _ h s hs
        omega
theorem laws_szStringS_l0 (l : List ByteArray) (hl : l.length ≤ 9223372036854775807) (hs : ∀ s ∈ l, s.size ≤ 9223372036854775807) (d : Nat) : ∀ (i : Nat) (m : Int), i + d = l.length → 0 ≤ m → m ≤ 1048576 → Ev (fun k => laws_szStringS.l0 k l m (i : Int)) (szT (l.drop i) m) := by
  induction d with
  | zero =>
    intro i m hi m0 m1
    refine Ev.succ ?_
    have h1 : ¬ ((i : Int) < (l.length : Int)) := by omega
    simp only [laws_szStringS.l0, h1, ↓reduceIte]
    exact Ev.some_ (by rw [List.drop_eq_nil_of_le (by omega)]; rfl)
  | succ d ih =>
    intro i m hi m0 m1
    refine Ev.succ ?_
    have h0 : i < l.length := by omega
    have h1 : (i : Int) < (l.length : Int) := by omega
    have h2 : (0 : Int) ≤ (i : Int) := by omega
    have hw : wrap64 ((i : Int) + 1) = ((i + 1 : Nat) : Int) := by rw [w64 (by omega) (by omega)]; rfl
    have hz := hs _ (List.getElem_mem h0)
    have hw2 : wrap64 (m - ((l[i]).size : Int)) = m - ((l[i]).size : Int) := w64 (by omega) (by omega)
    rw [drop_cons l i h0]
    simp only [laws_szStringS.l0, h1, h2, ↓reduceIte, hw, rdOf_nat ByteArray.empty l i h0, hw2, szT]
    by_cases c : m - ((l[i]).size : Int) < 0
    · simp only [c, ↓reduceIte]; exact Ev.now _
    · simp only [c, ↓reduceIte]
      exact ih (i + 1) _ (by omega) (by omega) (by omega)
def szTexts (l : List ByteArray) (m : Int) : Int := if m - (l.length : Int) < 0 then -1 else szT l (m - (l.length : Int))
theorem laws_szStringS_ev (l : List ByteArray) (m : Int) (hl : l.length ≤ 9223372036854775807) (hs : ∀ s ∈ l, s.size ≤ 9223372036854775807) (m0 : 0 ≤ m) (m1 : m ≤ 1048576) : Ev (fun k => laws_szStringS.f k l m) (szTexts l m) := by
  unfold laws_szStringS.f szTexts
  rw [w64 (n := m - (l.length : Int)) (by omega) (by omega)]
  by_cases c : m - (l.length : Int) < 0
  · simp only [c, ↓reduceIte]; exact Ev.now _
  · simp only [c, ↓reduceIte]
    exact laws_szStringS_l0 l hl hs l.length 0 _ (by omega) (by omega) (by omega)
theorem szTexts_of {l : List ByteArray} {m : Int} (h : ¬ szTexts l m < 0) : (l.length : Int) ≤ m ∧ szTexts l m ≤ m ∧ 0 ≤ szTexts l m := by
  have e : szTexts l m = if m - (l.length : Int) < 0 then -1 else szT l (m - (l.length : Int)) := rfl
  by_cases c : m - (l.length : Int) < 0
  · rw [if_pos c] at e; omega
  · rw [if_neg c] at e
    have := szT_le l (m - (l.length : Int)) (by omega)
    omega
theorem laws_toIntS_l0 (l : List Int) (hl : l.length ≤ 9223372036854775807) (d : Nat) : ∀ (i : Nat) (o : List Int), o.length = l.length → o.take i = l.take i → i + d = l.length → Ev (fun k => laws_toIntS.l0 k l o (i : Int)) l := by
  induction d with
  | zero =>
    intro i o ho ht hi
    refine Ev.succ ?_
    have h1 : ¬ ((i : Int) < (l.length : Int)) := by omega
    simp only [laws_toIntS.l0, h1, ↓reduceIte]
    rw [List.take_of_length_le (by omega), List.take_of_length_le (by omega)] at ht
    exact Ev.some_ ht
  | succ d ih =>
    intro i o ho ht hi
    refine Ev.succ ?_
    have h1 : (i : Int) < (l.length : Int) := by omega
    have h2 : (0 : Int) ≤ (i : Int) := by omega
    have h3 : (i : Int) < (o.length : Int) := by omega
    have hw : wrap64 ((i : Int) + 1) = ((i + 1 : Nat) : Int) := by rw [w64 (by omega) (by omega)]; rfl
    simp only [laws_toIntS.l0, h1, h2, h3, ↓reduceIte, hw, Int.toNat_natCast]
    exact ih (i + 1) _ (by simp [ho]) (by rw [take_set_succ _ _ _ (by omega), ht, rd_nat _ _ (by omega), List.take_succ_eq_append_getElem (by omega)]) (by omega)
theorem laws_toIntS_ev (l : List Int) (hl : l.length ≤ 35184372088832) : Ev (fun k => laws_toIntS.f k l) l := by
  have h1 : 0 ≤ (l.length : Int) := by omega
  have h2 : ((l.length : Int)).toNat ≤ 35184372088832 := by omega
  simp only [laws_toIntS.f, h1, h2, ↓reduceIte]
  exact laws_toIntS_l0 l (by omega) l.length 0 _ (by simp) (by simp) (by omega)
theorem laws_eqIntS_self (l : List Int) (hl : l.length ≤ 9223372036854775807) : Ev (fun k => laws_eqIntS.f k l l) true := by
  unfold laws_eqIntS.f
  simp only [↓reduceIte]
  refine Ev.up (L := fun k i => laws_eqIntS.l0 k l l (i : Int)) (r := fun _ => true) l.length ?_ ?_ 0 (Nat.zero_le _)
  · refine Ev.succ ?_
    have h1 : ¬ ((l.length : Int) < (l.length : Int)) := by omega
    simp only [laws_eqIntS.l0, h1, ↓reduceIte]
    exact Ev.now _
  · intro i hi ih
    refine Ev.succ ?_
    have h1 : (i : Int) < (l.length : Int) := by omega
    have h2 : (0 : Int) ≤ (i : Int) := by omega
    have hw : wrap64 ((i : Int) + 1) = ((i + 1 : Nat) : Int) := by rw [w64 (by omega) (by omega)]; rfl
    simp only [laws_eqIntS.l0, h1, h2, ↓reduceIte, hw]
    exact ih

def isCrowdV (a : Int) (ks : List ByteArray) (n : Int) (l : List Int) : Bool × Bool := if keyedV a ks n = true then (risFrom 0 ((ks.length : Int) - 1) l 0 && decide (wideV (pairsV a n ks) l < (l.length : Int)), true) else (false, false)
theorem spec_IsCrowd_ev (a : Int) (ks : List ByteArray) (n : Int) (l : List Int) (hk : ks.length ≤ 9223372036854775807) (hs : ∀ s ∈ ks, s.size ≤ 9223372036854775807) (hl : l.length ≤ 1048576) : Ev (fun k => spec_IsCrowd.f k a ks n l) (isCrowdV a ks n l) := by
  unfold spec_IsCrowd.f isCrowdV
  refine Ev.bind (spec_cuKeyed_ev a ks n hk hs) ?_
  cases h : keyedV a ks n with
  | false => simp only [Bool.false_eq_true, ↓reduceIte]; exact Ev.now _
  | true =>
    simp only [↓reduceIte]
    obtain ⟨⟨a0, a1⟩, ⟨n0, n1⟩, hks⟩ := keyedV_of h
    have hk40 := (areKeys_of hks).1
    rw [w64 (show -9223372036854775808 ≤ (ks.length : Int) - 1 by omega) (by omega)]
    refine Ev.bind (spec_l1Rising_ev l _ _ (by omega)) ?_
    cases g : risFrom 0 ((ks.length : Int) - 1) l 0 with
    | false => simp only [Bool.false_eq_true, ↓reduceIte, Bool.false_and]; exact Ev.now _
    | true =>
      simp only [↓reduceIte, Bool.true_and]
      refine Ev.bind (spec_cuPairs_ev a n ks (by omega) hs a0 a1 (by omega) (by omega)) ?_
      refine Ev.bind (spec_cuWide_ev (pairsV a n ks) l hl ?_ (pairsV_two a n ks)) (Ev.now _)
      intro x hx
      have := risFrom_mem g x hx
      rw [pairsV_length]
      omega
theorem impl_IsCrowd_ev (a : Int) (ks : List ByteArray) (n : Int) (l : List Int) (hk : ks.length ≤ 9223372036854775807) (hs : ∀ s ∈ ks, s.size ≤ 9223372036854775807) (hl : l.length ≤ 1048576) : Ev (fun k => impl_IsCrowd.f k a ks n l) (isCrowdV a ks n l) := by
  unfold impl_IsCrowd.f isCrowdV
  refine Ev.bind (impl_pairs_ev a ks n hk hs) ?_
  unfold pairedV
  cases h : keyedV a ks n with
  | false => simp only [Bool.false_eq_true, ↓reduceIte]; exact Ev.now _
  | true =>
    simp only [↓reduceIte]
    obtain ⟨⟨a0, a1⟩, ⟨n0, n1⟩, hks⟩ := keyedV_of h
    have hk40 := (areKeys_of hks).1
    refine Ev.bind (impl_indicesOk_ev l (ks.length : Int) (by omega) (by omega) (by omega)) ?_
    cases g : risFrom 0 ((ks.length : Int) - 1) l 0 with
    | false => simp only [Bool.false_eq_true, ↓reduceIte, Bool.false_and]; exact Ev.now _
    | true =>
      simp only [Bool.true_and]
      by_cases z : (l.length : Int) > 0
      · simp only [z, decide_true, ↓reduceIte]
        rw [impl_cellCount_eq (pairsV a n ks) l hl ?_ (pairsV_two a n ks) (pairsV_range a n ks (by omega))]
        · simp only [Option.bind_some]; exact Ev.now _
        · intro x hx
          have := risFrom_mem g x hx
          rw [pairsV_length]
          omega
      · obtain rfl : l = [] := List.length_eq_zero_iff.1 (by omega)
        simp only [z, decide_false, Bool.false_eq_true, ↓reduceIte]
        exact Ev.some_ (by simp [wideV, cellsV, putAll])
theorem FnExactIsCrowd : ∀ (a0 : Int) (l1 : List ByteArray) (a2 : Int) (l3 : List Int), ((Lit.int .i64 a0).wf = true) → (l1.length ≤ maxLen ∧ ∀ l1' ∈ l1, l1'.size ≤ maxLen) → ((Lit.int .i64 a2).wf = true) → (l3.length ≤ maxLen ∧ ∀ l3' ∈ l3, (Lit.int .i64 l3').wf = true) → ∃ k, laws_FnExactIsCrowd.f k a0 l1 a2 l3 = some true := by
  intro a ks n l h0 hk h1 hl
  refine Ev.rounds ?_
  have hk1 : ks.length ≤ 9223372036854775807 := by have := hk.1; unfold maxLen at this; exact this
  have hk2 : ∀ s ∈ ks, s.size ≤ 9223372036854775807 := by have := hk.2; unfold maxLen at this; exact this
  unfold laws_FnExactIsCrowd.f
  by_cases c0 : (l.length : Int) > 1048576
  · simp only [c0, ↓reduceIte]; exact Ev.now _
  · have hl1 : l.length ≤ 1048576 := by omega
    simp only [c0, ↓reduceIte]
    refine Ev.bind (laws_szStringS_ev ks _ hk1 hk2 (by omega) (by omega)) ?_
    by_cases z : szTexts ks 1048576 < 0
    · simp only [z, ↓reduceIte]; exact Ev.now _
    · simp only [z, ↓reduceIte]
      have zz := szTexts_of z
      refine Ev.bind (laws_toStringS_ev ks (by omega)) ?_
      refine Ev.bind (laws_toIntS_ev l (by omega)) ?_
      refine Ev.bind (spec_IsCrowd_ev a ks n l hk1 hk2 hl1) ?_
      refine Ev.bind (laws_toStringS_ev ks (by omega)) ?_
      refine Ev.bind (laws_toIntS_ev l (by omega)) ?_
      refine Ev.bind (impl_IsCrowd_ev a ks n l hk1 hk2 hl1) ?_
      simp only [bne_self_eq_false, Bool.false_eq_true, ↓reduceIte]
      refine Ev.succ ?_
      simp only [laws_FnExactIsCrowd.j0, Bool.false_eq_true, ↓reduceIte]
      refine Ev.bind (laws_toStringS_ev ks (by omega)) ?_
      refine Ev.bind (laws_eqStringS_self ks hk1) ?_
      simp only [↓reduceIte]
      refine Ev.bind (laws_toIntS_ev l (by omega)) ?_
      refine Ev.bind (laws_eqIntS_self l (by omega)) ?_
      simp only [↓reduceIte]
      exact Ev.now _

end Go.Proofs.Ytlkbffkafpaooaa.Pure
