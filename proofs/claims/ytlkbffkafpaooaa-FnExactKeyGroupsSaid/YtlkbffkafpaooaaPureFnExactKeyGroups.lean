/- The program's KeyGroups returns what the reference's returns, for all arguments. -/
import Derived.Test.YtlkbffkafpaooaaPFnExactKeyGroupsx9
import Derived.Test.YtlkbffkafpaooaaBase
namespace Go.Proofs.Ytlkbffkafpaooaa.Pure
open Go.RowKit Go.Proofs.Ytlkbffkafpaooaa.PFnExactKeyGroups Go.Proofs.YtlkbffkafpaooaaW.PrintWords Go.Proofs.YtlkbffkafpaooaaW.PrintLast Go.Proofs.Ytlkbffkafpaooaa.Base
set_option linter.unusedVariables false
set_option linter.unusedSimpArgs false

theorem spec_l1In_eq (a b c : Int) : spec_l1In.f a b c = some (decide (b ≤ a ∧ a ≤ c)) := by
  unfold spec_l1In.f
  by_cases h : b ≤ a <;> simp [h]
theorem spec_cuSize_eq (a b : Int) : spec_cuSize.f a b = some (decide ((0 ≤ a ∧ a ≤ 9999) ∧ 1 ≤ b ∧ b ≤ 64)) := by
  by_cases h : 0 ≤ a ∧ a ≤ 9999 <;> simp [spec_cuSize.f, spec_l1In_eq, h]
theorem impl_in_eq (a b c : Int) : impl_in.f a b c = some (decide (b ≤ a ∧ a ≤ c)) := by
  unfold impl_in.f
  by_cases h : b ≤ a <;> simp [h]
theorem impl_cellsOk_eq (a : Int) : impl_cellsOk.f a = some (decide (1 ≤ a ∧ a ≤ 64)) := by
  simp only [impl_cellsOk.f, impl_in_eq, Option.bind_some]
theorem impl_isSeed_eq (a : Int) : impl_isSeed.f a = some (decide (0 ≤ a ∧ a ≤ 9999)) := by
  simp only [impl_isSeed.f, impl_in_eq, Option.bind_some]
theorem spec_pow (h : Int) (h0 : 0 ≤ h) (h1 : h < 65521) : Int.tmod (wrap64 ((Int.tmod (wrap64 ((Int.tmod (wrap64 ((Int.tmod (wrap64 ((Int.tmod (wrap64 (h * h)) 65521) * (Int.tmod (wrap64 (h * h)) 65521))) 65521) * h)) 65521) * (Int.tmod (wrap64 ((Int.tmod (wrap64 ((Int.tmod (wrap64 (h * h)) 65521) * (Int.tmod (wrap64 (h * h)) 65521))) 65521) * h)) 65521))) 65521) * h)) 65521 = h ^ 11 % 65521 := by
  have step : ∀ a b : Int, 0 ≤ a → a < 65521 → 0 ≤ b → b < 65521 → Int.tmod (wrap64 (a * b)) 65521 = a * b % 65521 := by
    intro a b ha ha' hb hb'
    obtain ⟨p0, p1⟩ := prod_range ha ha' hb hb'
    rw [w64 (by omega) (by omega), tmod_pos p0]
  have rng : ∀ x : Int, 0 ≤ x % 65521 ∧ x % 65521 < 65521 := fun x => ⟨Int.emod_nonneg _ (by decide), Int.emod_lt_of_pos _ (by decide)⟩
  rw [step h h h0 h1 h0 h1]
  rw [step _ _ (rng _).1 (rng _).2 (rng _).1 (rng _).2]
  rw [step _ _ (rng _).1 (rng _).2 h0 h1]
  rw [step _ _ (rng _).1 (rng _).2 (rng _).1 (rng _).2]
  rw [step _ _ (rng _).1 (rng _).2 h0 h1]
  simp only [mul_mod_l, mul_mod_r]
  congr 1
  simp only [Int.pow_succ, Int.pow_zero, Int.one_mul, Int.mul_assoc]
theorem spec_biHash_l0 (s : ByteArray) (hs : s.size ≤ 9223372036854775807) (d : Nat) : ∀ (i : Nat) (h : Int), i + d = s.size → 0 ≤ h → h < 65521 → Ev (fun k => spec_biHash.l0 k s h (i : Int)) (hashFrom h ((bytesOf s).drop i)) := by
  induction d with
  | zero =>
    intro i h hi h0 h1
    refine Ev.succ ?_
    have c1 : ¬ ((i : Int) < (s.size : Int)) := by omega
    simp only [spec_biHash.l0, c1, ↓reduceIte]
    rw [spec_pow h h0 h1]
    exact Ev.some_ (by rw [List.drop_of_length_le (by rw [bytesOf_length]; omega)]; rfl)
  | succ d ih =>
    intro i h hi h0 h1
    refine Ev.succ ?_
    have c1 : (i : Int) < (s.size : Int) := by omega
    have c2 : (0 : Int) ≤ (i : Int) := by omega
    have hw : wrap64 ((i : Int) + 1) = ((i + 1 : Nat) : Int) := by rw [w64 (by omega) (by omega)]; rfl
    have hb := bt_nat s i (by omega)
    have hr := bt_range s i
    have e : Int.tmod (wrap64 ((wrap64 (263 * h)) + (wrap64 (bt s i)))) 65521 = hstep h (bt s i) := by
      rw [w64 (n := 263 * h) (by omega) (by omega), w64 (n := bt s i) (by omega) (by omega), w64 (by omega) (by omega), tmod_pos (by omega)]
      rfl
    simp only [spec_biHash.l0, c1, c2, ↓reduceIte, hw, e]
    rw [drop_cons _ _ (by rw [bytesOf_length]; omega), ← hb]
    exact ih (i + 1) (hstep h (bt s i)) (by omega) (Int.emod_nonneg _ (by decide)) (Int.emod_lt_of_pos _ (by decide))
theorem spec_biHash_ev (a b : Int) (s : ByteArray) (hs : s.size ≤ 9223372036854775807) (ha0 : 0 ≤ a) (ha1 : a ≤ 9999) (hb0 : 0 ≤ b) (hb1 : b ≤ 9) : Ev (fun k => spec_biHash.f k a b s) (hashV a b s) := by
  have e : Int.tmod (wrap64 ((wrap64 ((wrap64 (31 * a)) + (wrap64 (977 * b)))) + 7)) 65521 = hash0 a b := by
    rw [w64 (n := 31 * a) (by omega) (by omega), w64 (n := 977 * b) (by omega) (by omega), w64 (n := 31 * a + 977 * b) (by omega) (by omega), w64 (by omega) (by omega), tmod_pos (by omega)]
    rfl
  unfold spec_biHash.f
  simp only [e]
  exact spec_biHash_l0 s hs s.size 0 (hash0 a b) (by omega) (Int.emod_nonneg _ (by decide)) (Int.emod_lt_of_pos _ (by decide))
theorem spec_biPlace_ev (a b : Int) (s : ByteArray) (n : Int) (hs : s.size ≤ 9223372036854775807) (ha0 : 0 ≤ a) (ha1 : a ≤ 9999) (hb0 : 0 ≤ b) (hb1 : b ≤ 9) (hn0 : 0 ≤ n) (hn1 : n ≤ 65521) : Ev (fun k => spec_biPlace.f k a b s n) (placeV a b s n) := by
  have hr := hash_range a b s
  have p0 : 0 ≤ hashV a b s * n := Int.mul_nonneg hr.1 hn0
  have p1 : hashV a b s * n ≤ 4293001441 := by
    have h1 : hashV a b s * n ≤ hashV a b s * 65521 := Int.mul_le_mul_of_nonneg_left (by omega) hr.1
    omega
  unfold spec_biPlace.f
  refine Ev.bind (spec_biHash_ev a b s hs ha0 ha1 hb0 hb1) ?_
  refine Ev.some_ ?_
  have h2 : hashV a b s * n / 65521 ≤ hashV a b s * n := Int.ediv_le_self _ p0
  have h3 : 0 ≤ hashV a b s * n / 65521 := Int.ediv_nonneg p0 (by decide)
  rw [w64 (n := hashV a b s * n) (by omega) (by omega), tdiv_pos p0, w64 (by omega) (by omega)]
  rfl
theorem spec_cuCells_ev (a : Int) (s : ByteArray) (n : Int) (hs : s.size ≤ 9223372036854775807) (ha0 : 0 ≤ a) (ha1 : a ≤ 9999) (hn0 : 0 ≤ n) (hn1 : n ≤ 65521) : Ev (fun k => spec_cuCells.f k a s n) [placeV a 0 s n, placeV a 1 s n] := by
  unfold spec_cuCells.f
  refine Ev.bind (spec_biPlace_ev a 0 s n hs ha0 ha1 (by decide) (by decide) hn0 hn1) ?_
  exact Ev.bind (spec_biPlace_ev a 1 s n hs ha0 ha1 (by decide) (by decide) hn0 hn1) (Ev.now _)
theorem impl_hash_l1 (h : Int) (h0 : 0 ≤ h) (h1 : h < 65521) (d : Nat) : ∀ (i : Nat) (o : Int), i + d = 11 → o = h ^ i % 65521 → Ev (fun k => impl_hash.l1 k h o (i : Int)) (h ^ 11 % 65521) := by
  induction d with
  | zero =>
    intro i o hi ho
    obtain rfl : i = 11 := by omega
    refine Ev.succ ?_
    simp only [impl_hash.l1]
    exact Ev.some_ ho
  | succ d ih =>
    intro i o hi ho
    refine Ev.succ ?_
    have c1 : (i : Int) < 11 := by omega
    have hw : wrap64 ((i : Int) + 1) = ((i + 1 : Nat) : Int) := by rw [w64 (by omega) (by omega)]; rfl
    have r : 0 ≤ o ∧ o < 65521 := by rw [ho]; exact ⟨Int.emod_nonneg _ (by decide), Int.emod_lt_of_pos _ (by decide)⟩
    obtain ⟨p0, p1⟩ := prod_range r.1 r.2 h0 h1
    have e : Int.tmod (wrap64 (o * h)) 65521 = h ^ (i + 1) % 65521 := by
      rw [w64 (by omega) (by omega), tmod_pos p0, ho, mul_mod_l, Int.pow_succ]
    simp only [impl_hash.l1, c1, ↓reduceIte, hw]
    exact ih (i + 1) _ (by omega) e
theorem impl_hash_l0 (s : ByteArray) (hs : s.size ≤ 9223372036854775807) (d : Nat) : ∀ (i : Nat) (h : Int), i + d = s.size → 0 ≤ h → h < 65521 → Ev (fun k => impl_hash.l0 k s h (s.size : Int) (i : Int)) (hashFrom h ((bytesOf s).drop i)) := by
  induction d with
  | zero =>
    intro i h hi h0 h1
    refine Ev.succ ?_
    have c1 : ¬ ((i : Int) < (s.size : Int)) := by omega
    simp only [impl_hash.l0, c1, ↓reduceIte]
    rw [List.drop_of_length_le (by rw [bytesOf_length]; omega)]
    exact impl_hash_l1 h h0 h1 11 0 1 (by omega) (by simp)
  | succ d ih =>
    intro i h hi h0 h1
    refine Ev.succ ?_
    have c1 : (i : Int) < (s.size : Int) := by omega
    have c2 : (0 : Int) ≤ (i : Int) := by omega
    have hw : wrap64 ((i : Int) + 1) = ((i + 1 : Nat) : Int) := by rw [w64 (by omega) (by omega)]; rfl
    have hb := bt_nat s i (by omega)
    have hr := bt_range s i
    have e : Int.tmod (wrap64 ((wrap64 (263 * h)) + (wrap64 (bt s i)))) 65521 = hstep h (bt s i) := by
      rw [w64 (n := 263 * h) (by omega) (by omega), w64 (n := bt s i) (by omega) (by omega), w64 (by omega) (by omega), tmod_pos (by omega)]
      rfl
    simp only [impl_hash.l0, c1, c2, ↓reduceIte, hw, e]
    rw [drop_cons _ _ (by rw [bytesOf_length]; omega), ← hb]
    exact ih (i + 1) (hstep h (bt s i)) (by omega) (Int.emod_nonneg _ (by decide)) (Int.emod_lt_of_pos _ (by decide))
theorem impl_hash_ev (a b : Int) (s : ByteArray) (hs : s.size ≤ 9223372036854775807) (ha0 : 0 ≤ a) (ha1 : a ≤ 9999) (hb0 : 0 ≤ b) (hb1 : b ≤ 9) : Ev (fun k => impl_hash.f k a b s) (hashV a b s) := by
  have e : Int.tmod (wrap64 ((wrap64 ((wrap64 (31 * a)) + (wrap64 (977 * b)))) + 7)) 65521 = hash0 a b := by
    rw [w64 (n := 31 * a) (by omega) (by omega), w64 (n := 977 * b) (by omega) (by omega), w64 (n := 31 * a + 977 * b) (by omega) (by omega), w64 (by omega) (by omega), tmod_pos (by omega)]
    rfl
  unfold impl_hash.f
  simp only [e]
  exact impl_hash_l0 s hs s.size 0 (hash0 a b) (by omega) (Int.emod_nonneg _ (by decide)) (Int.emod_lt_of_pos _ (by decide))
theorem impl_place_ev (a b : Int) (s : ByteArray) (n : Int) (hs : s.size ≤ 9223372036854775807) (ha0 : 0 ≤ a) (ha1 : a ≤ 9999) (hb0 : 0 ≤ b) (hb1 : b ≤ 9) (hn0 : 0 ≤ n) (hn1 : n ≤ 65521) : Ev (fun k => impl_place.f k a b s n) (placeV a b s n) := by
  have hr := hash_range a b s
  have p0 : 0 ≤ hashV a b s * n := Int.mul_nonneg hr.1 hn0
  have p1 : hashV a b s * n ≤ 4293001441 := by
    have h1 : hashV a b s * n ≤ hashV a b s * 65521 := Int.mul_le_mul_of_nonneg_left (by omega) hr.1
    omega
  unfold impl_place.f
  refine Ev.bind (impl_hash_ev a b s hs ha0 ha1 hb0 hb1) ?_
  refine Ev.some_ ?_
  have h2 : hashV a b s * n / 65521 ≤ hashV a b s * n := Int.ediv_le_self _ p0
  have h3 : 0 ≤ hashV a b s * n / 65521 := Int.ediv_nonneg p0 (by decide)
  rw [w64 (n := hashV a b s * n) (by omega) (by omega), tdiv_pos p0, w64 (by omega) (by omega)]
  rfl
theorem impl_cellsOf_ev (a : Int) (s : ByteArray) (n : Int) (hs : s.size ≤ 9223372036854775807) (ha0 : 0 ≤ a) (ha1 : a ≤ 9999) (hn0 : 0 ≤ n) (hn1 : n ≤ 65521) : Ev (fun k => impl_cellsOf.f k a s n) (placeV a 0 s n, placeV a 1 s n) := by
  unfold impl_cellsOf.f
  refine Ev.bind (impl_place_ev a 0 s n hs ha0 ha1 (by decide) (by decide) hn0 hn1) ?_
  exact Ev.bind (impl_place_ev a 1 s n hs ha0 ha1 (by decide) (by decide) hn0 hn1) (Ev.now _)
theorem spec_IsKey_ev (s : ByteArray) (hs : s.size ≤ 9223372036854775807) : Ev (fun k => spec_IsKey.f k s) (isKey s) := by
  have h := Ev.up (L := fun k i => spec_IsKey.l0 k s (i : Int)) (r := fun i => ((bytesOf s).drop i).all okByte && decide (1 ≤ (s.size : Int) ∧ (s.size : Int) ≤ 12)) s.size ?_ ?_ 0 (Nat.zero_le _)
  · exact h
  · refine Ev.succ ?_
    have h1 : ¬ ((s.size : Int) < (s.size : Int)) := by omega
    simp only [spec_IsKey.l0, h1, ↓reduceIte, spec_l1In_eq, Option.bind_some]
    exact Ev.some_ (by rw [List.drop_of_length_le (by rw [bytesOf_length]; exact Nat.le_refl _)]; simp)
  · intro i hi ih
    refine Ev.succ ?_
    have h1 : (i : Int) < (s.size : Int) := by omega
    have h2 : (0 : Int) ≤ (i : Int) := by omega
    have hw : wrap64 ((i : Int) + 1) = ((i + 1 : Nat) : Int) := by rw [w64 (by omega) (by omega)]; rfl
    have hb := bt_nat s i hi
    simp only [spec_IsKey.l0, h1, h2, ↓reduceIte, hw]
    rw [drop_cons _ _ (by rw [bytesOf_length]; exact hi), List.all_cons, ← hb]
    by_cases c1 : bt s i < 33
    · simp only [c1, ↓reduceIte]
      exact Ev.some_ (by simp [okByte]; omega)
    · by_cases c2 : bt s i > 125
      · simp only [c1, c2, ↓reduceIte]
        exact Ev.some_ (by simp [okByte]; omega)
      · simp only [c1, c2, ↓reduceIte]
        have c3 : okByte (bt s i) = true := by simp [okByte]; omega
        rw [c3, Bool.true_and]
        exact ih
theorem impl_IsKey_ev (s : ByteArray) (hs : s.size ≤ 9223372036854775807) : Ev (fun k => impl_IsKey.f k s) (isKey s) := by
  have h := Ev.up (L := fun k i => impl_IsKey.l0 k s (s.size : Int) (i : Int)) (r := fun i => ((bytesOf s).drop i).all okByte && decide (1 ≤ (s.size : Int) ∧ (s.size : Int) ≤ 12)) s.size ?_ ?_ 0 (Nat.zero_le _)
  · exact h
  · refine Ev.succ ?_
    have h1 : ¬ ((s.size : Int) < (s.size : Int)) := by omega
    simp only [impl_IsKey.l0, h1, ↓reduceIte, impl_in_eq, Option.bind_some]
    exact Ev.some_ (by rw [List.drop_of_length_le (by rw [bytesOf_length]; exact Nat.le_refl _)]; simp)
  · intro i hi ih
    refine Ev.succ ?_
    have h1 : (i : Int) < (s.size : Int) := by omega
    have h2 : (0 : Int) ≤ (i : Int) := by omega
    have hw : wrap64 ((i : Int) + 1) = ((i + 1 : Nat) : Int) := by rw [w64 (by omega) (by omega)]; rfl
    have hb := bt_nat s i hi
    simp only [impl_IsKey.l0, h1, h2, ↓reduceIte, hw]
    rw [drop_cons _ _ (by rw [bytesOf_length]; exact hi), List.all_cons, ← hb]
    by_cases c1 : bt s i < 33
    · simp only [c1, ↓reduceIte]
      exact Ev.some_ (by simp [okByte]; omega)
    · by_cases c2 : bt s i > 125
      · simp only [c1, c2, ↓reduceIte]
        exact Ev.some_ (by simp [okByte]; omega)
      · simp only [c1, c2, ↓reduceIte]
        have c3 : okByte (bt s i) = true := by simp [okByte]; omega
        rw [c3, Bool.true_and]
        exact ih
def keyAt (l : List ByteArray) (i : Nat) : Bool := isKey (rdOf ByteArray.empty l (i : Int)) && (decide (i = 0) || Op.bytesLess (rdOf ByteArray.empty l ((i - 1 : Nat) : Int)).toList (rdOf ByteArray.empty l (i : Int)).toList)
def keysFrom (l : List ByteArray) (i : Nat) : Bool := (List.range' i (l.length - i)).all (keyAt l) && decide ((l.length : Int) ≤ 40)
def areKeys (l : List ByteArray) : Bool := keysFrom l 0
theorem keysFrom_end (l : List ByteArray) : keysFrom l l.length = decide ((l.length : Int) ≤ 40) := by simp [keysFrom]
theorem keysFrom_step (l : List ByteArray) (i : Nat) (h : i < l.length) : keysFrom l i = (keyAt l i && keysFrom l (i + 1)) := by
  unfold keysFrom
  rw [show l.length - i = (l.length - (i + 1)) + 1 from by omega, List.range'_succ, List.all_cons, Bool.and_assoc]
theorem areKeys_of {l : List ByteArray} (h : areKeys l = true) : l.length ≤ 40 ∧ ∀ s ∈ l, isKey s = true := by
  unfold areKeys keysFrom at h
  simp only [Bool.and_eq_true, decide_eq_true_eq, List.all_eq_true, List.mem_range'] at h
  refine ⟨by omega, fun s hs => ?_⟩
  obtain ⟨i, hi, rfl⟩ := List.getElem_of_mem hs
  have := h.1 i ⟨i, by omega, by omega⟩
  unfold keyAt at this
  simp only [Bool.and_eq_true] at this
  rw [rdOf_nat _ _ _ hi] at this
  exact this.1
theorem rdOf_size {l : List ByteArray} (h : ∀ s ∈ l, s.size ≤ 9223372036854775807) (i : Int) : (rdOf ByteArray.empty l i).size ≤ 9223372036854775807 := by
  unfold rdOf
  rw [List.getD_eq_getElem?_getD]
  cases e : l[i.toNat]? with
  | none => simp
  | some x => simpa using h x (List.mem_of_getElem? e)
theorem spec_biKeys_ev (l : List ByteArray) (hl : l.length ≤ 9223372036854775807) (hs : ∀ s ∈ l, s.size ≤ 9223372036854775807) : Ev (fun k => spec_biKeys.f k l) (areKeys l) := by
  refine Ev.up (L := fun k i => spec_biKeys.l0 k l l (l.length : Int) (i : Int)) (r := fun i => keysFrom l i) l.length ?_ ?_ 0 (Nat.zero_le _)
  · refine Ev.succ ?_
    have h1 : ¬ ((l.length : Int) < (l.length : Int)) := by omega
    simp only [spec_biKeys.l0, h1, ↓reduceIte, keysFrom_end]
    exact Ev.now _
  · intro i hi ih
    refine Ev.succ ?_
    have h1 : (i : Int) < (l.length : Int) := by omega
    have h2 : (0 : Int) ≤ (i : Int) := by omega
    have hw : wrap64 ((i : Int) + 1) = ((i + 1 : Nat) : Int) := by rw [w64 (by omega) (by omega)]; rfl
    simp only [spec_biKeys.l0, h1, h2, ↓reduceIte, hw]
    refine Ev.bind (spec_IsKey_ev _ (rdOf_size hs _)) ?_
    rw [keysFrom_step l i hi]
    unfold keyAt
    cases isKey (rdOf ByteArray.empty l (i : Int)) with
    | false => simp only [Bool.false_eq_true, ↓reduceIte, Bool.false_and]; exact Ev.now _
    | true =>
      simp only [↓reduceIte, Bool.true_and]
      by_cases c : i = 0
      · subst c
        simp only [Int.natCast_zero, decide_true, Bool.true_or, Bool.true_and, ↓reduceIte, gt_iff_lt, Int.lt_irrefl]
        exact ih
      · have h3 : (i : Int) > 0 := by omega
        have hw1 : wrap64 ((i : Int) - 1) = ((i - 1 : Nat) : Int) := by rw [w64 (by omega) (by omega)]; omega
        have h4 : (0 : Int) ≤ ((i - 1 : Nat) : Int) := by omega
        have h5 : ((i - 1 : Nat) : Int) < (l.length : Int) := by omega
        simp only [c, h3, hw1, h4, h5, ↓reduceIte, decide_false, Bool.false_or]
        cases Op.bytesLess (rdOf ByteArray.empty l ((i - 1 : Nat) : Int)).toList (rdOf ByteArray.empty l (i : Int)).toList with
        | false => simp only [Bool.false_eq_true, ↓reduceIte, Bool.false_and]; exact Ev.now _
        | true => simp only [↓reduceIte, Bool.true_and]; exact ih
theorem impl_AreKeys_ev (l : List ByteArray) (hl : l.length ≤ 9223372036854775807) (hs : ∀ s ∈ l, s.size ≤ 9223372036854775807) : Ev (fun k => impl_AreKeys.f k l) (areKeys l) := by
  refine Ev.up (L := fun k i => impl_AreKeys.l0 k l l (l.length : Int) (i : Int)) (r := fun i => keysFrom l i) l.length ?_ ?_ 0 (Nat.zero_le _)
  · refine Ev.succ ?_
    have h1 : ¬ ((l.length : Int) < (l.length : Int)) := by omega
    simp only [impl_AreKeys.l0, h1, ↓reduceIte, keysFrom_end]
    exact Ev.now _
  · intro i hi ih
    refine Ev.succ ?_
    have h1 : (i : Int) < (l.length : Int) := by omega
    have h2 : (0 : Int) ≤ (i : Int) := by omega
    have hw : wrap64 ((i : Int) + 1) = ((i + 1 : Nat) : Int) := by rw [w64 (by omega) (by omega)]; rfl
    simp only [impl_AreKeys.l0, h1, h2, ↓reduceIte, hw]
    refine Ev.bind (impl_IsKey_ev _ (rdOf_size hs _)) ?_
    rw [keysFrom_step l i hi]
    unfold keyAt
    cases isKey (rdOf ByteArray.empty l (i : Int)) with
    | false => simp only [Bool.false_eq_true, ↓reduceIte, Bool.false_and]; exact Ev.now _
    | true =>
      simp only [↓reduceIte, Bool.true_and]
      by_cases c : i = 0
      · subst c
        simp only [Int.natCast_zero, decide_true, Bool.true_or, Bool.true_and, ↓reduceIte, gt_iff_lt, Int.lt_irrefl]
        exact ih
      · have h3 : (i : Int) > 0 := by omega
        have hw1 : wrap64 ((i : Int) - 1) = ((i - 1 : Nat) : Int) := by rw [w64 (by omega) (by omega)]; omega
        have h4 : (0 : Int) ≤ ((i - 1 : Nat) : Int) := by omega
        have h5 : ((i - 1 : Nat) : Int) < (l.length : Int) := by omega
        simp only [c, h3, hw1, h4, h5, ↓reduceIte, decide_false, Bool.false_or]
        cases Op.bytesLess (rdOf ByteArray.empty l ((i - 1 : Nat) : Int)).toList (rdOf ByteArray.empty l (i : Int)).toList with
        | false => simp only [Bool.false_eq_true, ↓reduceIte, Bool.false_and]; exact Ev.now _
        | true => simp only [↓reduceIte, Bool.true_and]; exact ih
def pairsV (a n : Int) (ks : List ByteArray) : List (List Int) := ks.map fun s => [placeV a 0 s n, placeV a 1 s n]
theorem pairsV_length (a n : Int) (ks : List ByteArray) : (pairsV a n ks).length = ks.length := by simp [pairsV]
theorem pairsV_snoc (a n : Int) (ks : List ByteArray) (i : Nat) (h : i < ks.length) : pairsV a n (ks.take (i + 1)) = pairsV a n (ks.take i) ++ [[placeV a 0 ks[i] n, placeV a 1 ks[i] n]] := by
  unfold pairsV
  rw [List.take_succ_eq_append_getElem h, List.map_append]
  rfl
def keyedV (a : Int) (ks : List ByteArray) (n : Int) : Bool := decide ((0 ≤ a ∧ a ≤ 9999) ∧ 1 ≤ n ∧ n ≤ 64) && areKeys ks
theorem keyedV_of {a n : Int} {ks : List ByteArray} (h : keyedV a ks n = true) : (0 ≤ a ∧ a ≤ 9999) ∧ (1 ≤ n ∧ n ≤ 64) ∧ areKeys ks = true := by
  unfold keyedV at h
  simp only [Bool.and_eq_true, decide_eq_true_eq] at h
  exact ⟨h.1.1, h.1.2, h.2⟩
theorem spec_cuKeyed_ev (a : Int) (ks : List ByteArray) (n : Int) (hk : ks.length ≤ 9223372036854775807) (hs : ∀ s ∈ ks, s.size ≤ 9223372036854775807) : Ev (fun k => spec_cuKeyed.f k a ks n) (keyedV a ks n) := by
  unfold spec_cuKeyed.f keyedV
  simp only [spec_cuSize_eq, Option.bind_some]
  by_cases c : (0 ≤ a ∧ a ≤ 9999) ∧ 1 ≤ n ∧ n ≤ 64
  · simp only [c, and_self, decide_true, ↓reduceIte, Bool.true_and]
    exact Ev.bind (spec_biKeys_ev ks hk hs) (Ev.now _)
  · simp only [c, decide_false, Bool.false_eq_true, ↓reduceIte, Bool.false_and]
    exact Ev.now _
theorem spec_cuPairs_ev (a n : Int) (ks : List ByteArray) (hl : ks.length ≤ 1000) (hs : ∀ s ∈ ks, s.size ≤ 9223372036854775807) (ha0 : 0 ≤ a) (ha1 : a ≤ 9999) (hn0 : 0 ≤ n) (hn1 : n ≤ 65521) : Ev (fun k => spec_cuPairs.f k a ks n) (pairsV a n ks) := by
  suffices h : ∀ d i : Nat, i + d = ks.length → Ev (fun k => spec_cuPairs.l0 k a n (pairsV a n (ks.take i)) ks (ks.length : Int) (i : Int)) (pairsV a n ks) from h ks.length 0 (by omega)
  intro d
  induction d with
  | zero =>
    intro i hi
    refine Ev.succ ?_
    have h1 : ¬ ((i : Int) < (ks.length : Int)) := by omega
    simp only [spec_cuPairs.l0, h1, ↓reduceIte]
    exact Ev.some_ (by rw [List.take_of_length_le (by omega)])
  | succ d ih =>
    intro i hi
    refine Ev.succ ?_
    have h0 : i < ks.length := by omega
    have h1 : (i : Int) < (ks.length : Int) := by omega
    have h2 : (0 : Int) ≤ (i : Int) := by omega
    have hw : wrap64 ((i : Int) + 1) = ((i + 1 : Nat) : Int) := by rw [w64 (by omega) (by omega)]; rfl
    have h3 : (pairsV a n (ks.take i)).length < 5864062014805 := by rw [pairsV_length, List.length_take]; omega
    simp only [spec_cuPairs.l0, h1, h2, ↓reduceIte, hw, rdOf_nat ByteArray.empty ks i h0]
    refine Ev.bind (spec_cuCells_ev a _ n (hs _ (List.getElem_mem h0)) ha0 ha1 hn0 hn1) ?_
    simp only [h3, ↓reduceIte]
    rw [← pairsV_snoc a n ks i h0]
    exact ih (i + 1) (by omega)
theorem impl_pairs_l0 (a n : Int) (ks : List ByteArray) (hl : ks.length ≤ 1000) (hs : ∀ s ∈ ks, s.size ≤ 9223372036854775807) (ha0 : 0 ≤ a) (ha1 : a ≤ 9999) (hn0 : 0 ≤ n) (hn1 : n ≤ 65521) : Ev (fun k => impl_pairs.l0 k a n ([] : List (List Int)) ks (ks.length : Int) 0) (pairsV a n ks, true) := by
  suffices h : ∀ d i : Nat, i + d = ks.length → Ev (fun k => impl_pairs.l0 k a n (pairsV a n (ks.take i)) ks (ks.length : Int) (i : Int)) (pairsV a n ks, true) from h ks.length 0 (by omega)
  intro d
  induction d with
  | zero =>
    intro i hi
    refine Ev.succ ?_
    have h1 : ¬ ((i : Int) < (ks.length : Int)) := by omega
    simp only [impl_pairs.l0, h1, ↓reduceIte]
    exact Ev.some_ (by rw [List.take_of_length_le (by omega)])
  | succ d ih =>
    intro i hi
    refine Ev.succ ?_
    have h0 : i < ks.length := by omega
    have h1 : (i : Int) < (ks.length : Int) := by omega
    have h2 : (0 : Int) ≤ (i : Int) := by omega
    have hw : wrap64 ((i : Int) + 1) = ((i + 1 : Nat) : Int) := by rw [w64 (by omega) (by omega)]; rfl
    have h3 : (pairsV a n (ks.take i)).length < 5864062014805 := by rw [pairsV_length, List.length_take]; omega
    simp only [impl_pairs.l0, h1, h2, ↓reduceIte, hw, rdOf_nat ByteArray.empty ks i h0]
    refine Ev.bind (impl_cellsOf_ev a _ n (hs _ (List.getElem_mem h0)) ha0 ha1 hn0 hn1) ?_
    simp only [h3, ↓reduceIte]
    rw [← pairsV_snoc a n ks i h0]
    exact ih (i + 1) (by omega)
def pairedV (a : Int) (ks : List ByteArray) (n : Int) : List (List Int) × Bool := if keyedV a ks n = true then (pairsV a n ks, true) else ([], false)
theorem impl_pairs_ev (a : Int) (ks : List ByteArray) (n : Int) (hk : ks.length ≤ 9223372036854775807) (hs : ∀ s ∈ ks, s.size ≤ 9223372036854775807) : Ev (fun k => impl_pairs.f k a ks n) (pairedV a ks n) := by
  unfold impl_pairs.f pairedV keyedV
  simp only [impl_isSeed_eq, Option.bind_some]
  by_cases c : 0 ≤ a ∧ a ≤ 9999
  · simp only [c, and_self, decide_true, ↓reduceIte, true_and]
    refine Ev.bind (impl_AreKeys_ev ks hk hs) ?_
    cases hks : areKeys ks with
    | false => simp only [Bool.false_eq_true, ↓reduceIte, Bool.and_false]; refine Ev.succ ?_; simp only [impl_pairs.j0, ↓reduceIte]; exact Ev.now _
    | true =>
      simp only [↓reduceIte, impl_cellsOk_eq, Option.bind_some, Bool.and_true]
      refine Ev.succ ?_
      by_cases c1 : 1 ≤ n ∧ n ≤ 64
      · simp only [impl_pairs.j0, c1, and_self, decide_true, Bool.not_true, Bool.false_eq_true, ↓reduceIte]
        exact impl_pairs_l0 a n ks (by have := (areKeys_of hks).1; omega) hs c.1 c.2 (by omega) (by omega)
      · simp only [impl_pairs.j0, c1, decide_false, Bool.not_false, Bool.false_eq_true, ↓reduceIte]
        exact Ev.now _
  · simp only [c, decide_false, Bool.false_eq_true, ↓reduceIte, false_and, Bool.false_and]
    refine Ev.succ ?_
    simp only [impl_pairs.j0, ↓reduceIte]
    exact Ev.now _
theorem pairsV_two (a n : Int) (ks : List ByteArray) : ∀ r ∈ pairsV a n ks, r.length = 2 := by
  intro x hx
  unfold pairsV at hx
  obtain ⟨s, _, rfl⟩ := List.mem_map.1 hx
  rfl
theorem pairsV_in (a n : Int) (ks : List ByteArray) (hn : 0 < n) : ∀ r ∈ pairsV a n ks, ∀ x ∈ r, 0 ≤ x ∧ x < n := by
  intro r hr x hx
  unfold pairsV at hr
  obtain ⟨s, _, rfl⟩ := List.mem_map.1 hr
  simp only [List.mem_cons, List.not_mem_nil, or_false] at hx
  rcases hx with rfl | rfl
  · exact place_range hn
  · exact place_range hn
theorem pairsV_range (a n : Int) (ks : List ByteArray) (hn : 0 < n ∧ n ≤ 64) : ∀ r ∈ pairsV a n ks, ∀ x ∈ r, -9223372036854775808 ≤ x ∧ x ≤ 9223372036854775807 := by
  intro r hr x hx
  have := pairsV_in a n ks hn.1 r hr x hx
  omega
def rowN (ls : List (List Int)) (i : Nat) : List Int := ls.getD i []
def meetB (ls : List (List Int)) (i j : Nat) : Bool := (rowN ls i).any fun x => decide (x ∈ rowN ls j)
theorem meetB_iff (ls : List (List Int)) (i j : Nat) : meetB ls i j = true ↔ ∃ x, x ∈ rowN ls i ∧ x ∈ rowN ls j := by
  unfold meetB
  rw [List.any_eq_true]
  constructor
  · rintro ⟨x, h1, h2⟩
    exact ⟨x, h1, of_decide_eq_true h2⟩
  · rintro ⟨x, h1, h2⟩
    exact ⟨x, h1, decide_eq_true h2⟩
theorem meetB_symm (ls : List (List Int)) (i j : Nat) : meetB ls i j = meetB ls j i := by
  rw [Bool.eq_iff_iff, meetB_iff, meetB_iff]
  constructor <;> (rintro ⟨x, h1, h2⟩; exact ⟨x, h2, h1⟩)
/-- Hangs together with i, along indices below n. -/
inductive Conn (ls : List (List Int)) (i : Nat) : Nat → Prop
  | refl : Conn ls i i
  | step {j k : Nat} : Conn ls i j → k < ls.length → meetB ls j k = true → Conn ls i k
theorem Conn.trans {ls : List (List Int)} {i j k : Nat} (h : Conn ls i j) (g : Conn ls j k) : Conn ls i k := by
  induction g with
  | refl => exact h
  | step _ hk hm ih => exact .step ih hk hm
theorem Conn.lt {ls : List (List Int)} {i j : Nat} (hi : i < ls.length) (h : Conn ls i j) : j < ls.length := by
  cases h with
  | refl => exact hi
  | step _ hk _ => exact hk
theorem Conn.symm {ls : List (List Int)} {i j : Nat} (hi : i < ls.length) (h : Conn ls i j) : Conn ls j i := by
  induction h with
  | refl => exact .refl
  | step hj hk hm ih => exact Conn.trans (.step .refl (hj.lt hi) (by rw [meetB_symm]; exact hm)) ih
/-- A set that holds i, only what hangs together with i, and is closed: all that hangs together with i. -/
theorem conn_of_closed {ls : List (List Int)} {i : Nat} {S : Nat → Bool} (h0 : S i = true) (hsub : ∀ j, S j = true → Conn ls i j) (hcl : ∀ j k, S j = true → k < ls.length → meetB ls j k = true → S k = true) (j : Nat) : S j = true ↔ Conn ls i j := by
  constructor
  · exact hsub j
  · intro h
    induction h with
    | refl => exact h0
    | step _ hk hm ih => exact hcl _ _ ih hk hm
/-- The numbers below n of a set, ascending. -/
def setV (n : Nat) (S : Nat → Bool) : List Int := ((List.range n).filter S).map fun j : Nat => (j : Int)
theorem mem_setV {n : Nat} {S : Nat → Bool} {x : Nat} : ((x : Int) ∈ setV n S) ↔ x < n ∧ S x = true := by
  unfold setV
  rw [List.mem_map]
  constructor
  · rintro ⟨a, ha, e⟩
    have : a = x := by omega
    subst this
    simpa using ha
  · intro h
    exact ⟨x, by simpa using h, rfl⟩
theorem setV_mem {n : Nat} {S : Nat → Bool} {y : Int} (h : y ∈ setV n S) : ∃ x : Nat, y = x ∧ x < n ∧ S x = true := by
  unfold setV at h
  obtain ⟨a, ha, rfl⟩ := List.mem_map.1 h
  exact ⟨a, rfl, by simpa using ha⟩
theorem setV_length_le (n : Nat) (S : Nat → Bool) : (setV n S).length ≤ n := by
  unfold setV
  rw [List.length_map]
  exact Nat.le_trans (List.length_filter_le _ _) (by simp)
theorem setV_congr {n : Nat} {S T : Nat → Bool} (h : ∀ x, x < n → S x = T x) : setV n S = setV n T := by
  unfold setV
  congr 1
  exact List.filter_congr fun x hx => h x (by simpa using hx)
noncomputable def compB (ls : List (List Int)) (i : Nat) : Nat → Bool := fun j => @decide (Conn ls i j) (Classical.propDecidable _)
noncomputable def compV (ls : List (List Int)) (i : Nat) : List Int := setV ls.length (compB ls i)
theorem compB_iff {ls : List (List Int)} {i j : Nat} : compB ls i j = true ↔ Conn ls i j := by
  unfold compB
  exact @decide_eq_true_iff _ (Classical.propDecidable _)
/-- Is i the least one of those that hang together with it? -/
def Least (ls : List (List Int)) (i : Nat) : Prop := ∀ j, j < i → ¬ Conn ls i j
noncomputable def leastB (ls : List (List Int)) (i : Nat) : Bool := @decide (Least ls i) (Classical.propDecidable _)
theorem leastB_iff {ls : List (List Int)} {i : Nat} : leastB ls i = true ↔ Least ls i := by
  unfold leastB
  exact @decide_eq_true_iff _ (Classical.propDecidable _)
noncomputable def repsV (ls : List (List Int)) (i : Nat) : List Nat := (List.range i).filter (leastB ls)
noncomputable def groupsV (ls : List (List Int)) : List (List Int) := (repsV ls ls.length).map (compV ls)
theorem repsV_succ (ls : List (List Int)) (i : Nat) : repsV ls (i + 1) = repsV ls i ++ (if leastB ls i = true then [i] else []) := by
  unfold repsV
  rw [List.range_succ, List.filter_append]
  by_cases c : leastB ls i = true <;> simp [c]
theorem repsV_mem {ls : List (List Int)} {i r : Nat} : r ∈ repsV ls i ↔ r < i ∧ Least ls r := by
  unfold repsV
  rw [List.mem_filter, List.mem_range, leastB_iff]
theorem repsV_length_le (ls : List (List Int)) (i : Nat) : (repsV ls i).length ≤ i := by
  unfold repsV
  exact Nat.le_trans (List.length_filter_le _ _) (by simp)
/-- The first one of what hangs together with i. -/
theorem compV_first {ls : List (List Int)} {i : Nat} (hi : i < ls.length) : ∃ r l, compV ls i = ((r : Nat) : Int) :: l ∧ Conn ls i r ∧ (∀ j, j < r → ¬ Conn ls i j) ∧ r ≤ i := by
  have hmem : (i : Int) ∈ compV ls i := mem_setV.2 ⟨hi, compB_iff.2 .refl⟩
  suffices H : ∀ n, (∀ j, j < n → ¬ Conn ls i j) → ∀ d, n + d = ls.length → (∃ j, n ≤ j ∧ j < ls.length ∧ Conn ls i j) → ∃ r l, (((List.range' n d).filter (compB ls i)).map fun j : Nat => (j : Int)) = ((r : Nat) : Int) :: l ∧ Conn ls i r ∧ (∀ j, j < r → ¬ Conn ls i j) by
    obtain ⟨r, l, h1, h2, h3⟩ := H 0 (by intro j hj; omega) ls.length (by omega) ⟨i, by omega, hi, .refl⟩
    refine ⟨r, l, ?_, h2, h3, ?_⟩
    · unfold compV setV
      rw [List.range_eq_range']
      exact h1
    · rcases Nat.lt_or_ge i r with h | h
      · exact absurd .refl (h3 i h)
      · exact h
  intro n hn d
  induction d generalizing n with
  | zero =>
    rintro h ⟨j, h1, h2, _⟩
    omega
  | succ d ih =>
    rintro h ⟨j, h1, h2, h3⟩
    rw [List.range'_succ, List.filter_cons]
    by_cases c : compB ls i n = true
    · rw [if_pos c]
      exact ⟨n, _, rfl, compB_iff.1 c, hn⟩
    · rw [if_neg c]
      refine ih (n + 1) ?_ (by omega) ⟨j, ?_, h2, h3⟩
      · intro k hk
        rcases Nat.lt_or_ge k n with h4 | h4
        · exact hn k h4
        · obtain rfl : k = n := by omega
          exact fun h5 => c (compB_iff.2 h5)
      · rcases Nat.lt_or_ge n j with h4 | h4
        · omega
        · obtain rfl : j = n := by omega
          exact absurd (compB_iff.2 h3) c
theorem least_conn {ls : List (List Int)} {r s j : Nat} (hr : r < ls.length) (hs : s < ls.length) (lr : Least ls r) (hl : Least ls s) (h1 : Conn ls r j) (h2 : Conn ls s j) : r = s := by
  have h3 : Conn ls r s := h1.trans (h2.symm hs)
  have h4 : Conn ls s r := h2.trans (h1.symm hr)
  rcases Nat.lt_trichotomy r s with h | h | h
  · exact absurd h4 (hl r h)
  · exact h
  · exact absurd h3 (lr s h)
theorem has_rep {ls : List (List Int)} {j : Nat} (hj : j < ls.length) : ∃ r, r ≤ j ∧ Least ls r ∧ Conn ls r j := by
  obtain ⟨r, l, _, h2, h3, h4⟩ := compV_first hj
  refine ⟨r, h4, ?_, h2.symm hj⟩
  intro k hk h5
  exact h3 k hk (h2.trans h5)
theorem mem_take_succ {l : List Int} {i : Nat} (h : i < l.length) (x : Int) : x ∈ l.take (i + 1) ↔ x ∈ l.take i ∨ x = rd l (i : Int) := by
  rw [List.take_succ_eq_append_getElem h, rd_nat l i h, List.mem_append, List.mem_singleton]
theorem spec_l1Has_ev (l : List Int) (x : Int) (hl : l.length ≤ 9223372036854775807) : Ev (fun k => spec_l1Has.f k l x) (decide (x ∈ l)) := by
  suffices h : ∀ d i : Nat, i + d = l.length → x ∉ l.take i → Ev (fun k => spec_l1Has.l0 k x l (l.length : Int) (i : Int)) (decide (x ∈ l)) from h l.length 0 (by omega) (by simp)
  intro d
  induction d with
  | zero =>
    intro i hi hn
    refine Ev.succ ?_
    have h1 : ¬ ((i : Int) < (l.length : Int)) := by omega
    rw [List.take_of_length_le (by omega)] at hn
    simp only [spec_l1Has.l0, h1, ↓reduceIte, hn, decide_false]
    exact Ev.now _
  | succ d ih =>
    intro i hi hn
    refine Ev.succ ?_
    have h1 : (i : Int) < (l.length : Int) := by omega
    have h2 : (0 : Int) ≤ (i : Int) := by omega
    have hw : wrap64 ((i : Int) + 1) = ((i + 1 : Nat) : Int) := by rw [w64 (by omega) (by omega)]; rfl
    simp only [spec_l1Has.l0, h1, h2, ↓reduceIte, hw]
    by_cases c : rd l (i : Int) = x
    · simp only [c, ↓reduceIte]
      have : x ∈ l := by rw [← c, rd_nat l i (by omega)]; exact List.getElem_mem _
      exact Ev.some_ (by simp [this])
    · simp only [c, ↓reduceIte]
      exact ih (i + 1) (by omega) (by rw [mem_take_succ (by omega)]; rintro (h | h); exact hn h; exact c h.symm)
theorem slices_Contains_int_int_ev (l : List Int) (x : Int) (hl : l.length ≤ 9223372036854775807) : Ev (fun k => slices_Contains_int_int.f k l x) (decide (x ∈ l)) := by
  have L : ∃ r : Int, decide (r ≥ 0) = decide (x ∈ l) ∧ Ev (fun k => slices_Index_int_int.f k l x) r := by
    suffices h : ∀ d i : Nat, i + d = l.length → x ∉ l.take i → ∃ r : Int, decide (r ≥ 0) = decide (x ∈ l) ∧ Ev (fun k => slices_Index_int_int.l0 k l x (l.length : Int) (i : Int)) r from h l.length 0 (by omega) (by simp)
    intro d
    induction d with
    | zero =>
      intro i hi hn
      have h1 : ¬ ((i : Int) < (l.length : Int)) := by omega
      rw [List.take_of_length_le (by omega)] at hn
      refine ⟨-1, by simp [hn], Ev.succ ?_⟩
      simp only [slices_Index_int_int.l0, h1, ↓reduceIte]
      exact Ev.now _
    | succ d ih =>
      intro i hi hn
      have h1 : (i : Int) < (l.length : Int) := by omega
      have h2 : (0 : Int) ≤ (i : Int) := by omega
      have hw : wrap64 ((i : Int) + 1) = ((i + 1 : Nat) : Int) := by rw [w64 (by omega) (by omega)]; rfl
      by_cases c : x = rd l (i : Int)
      · have : x ∈ l := by rw [c, rd_nat l i (by omega)]; exact List.getElem_mem _
        refine ⟨(i : Int), by simp [this], Ev.succ ?_⟩
        simp only [slices_Index_int_int.l0, h1, h2, ↓reduceIte]
        simp only [← c, ↓reduceIte]
        exact Ev.now _
      · obtain ⟨r, hr, he⟩ := ih (i + 1) (by omega) (by rw [mem_take_succ (by omega)]; rintro (h | h); exact hn h; exact c h)
        refine ⟨r, hr, Ev.succ ?_⟩
        simp only [slices_Index_int_int.l0, h1, h2, c, ↓reduceIte, hw]
        exact he
  obtain ⟨r, hr, he⟩ := L
  unfold slices_Contains_int_int.f
  refine Ev.bind he ?_
  exact Ev.some_ hr
/-- A strict linear order, told by a Bool. -/
structure Lin {α : Type} (lt : α → α → Bool) : Prop where
  irr : ∀ x, lt x x = false
  trans : ∀ x y z, lt x y = true → lt y z = true → lt x z = true
  tri : ∀ x y, lt x y = true ∨ x = y ∨ lt y x = true
def putG {α : Type} [DecidableEq α] (lt : α → α → Bool) (x : α) : List α → List α
  | [] => [x]
  | y :: ys => if lt y x = true then y :: putG lt x ys else if y = x then y :: ys else x :: y :: ys
def Rising {α : Type} (lt : α → α → Bool) (l : List α) : Prop := l.Pairwise fun x y => lt x y = true
theorem mem_putG {α : Type} [DecidableEq α] {lt : α → α → Bool} {x z : α} {l : List α} : z ∈ putG lt x l ↔ z = x ∨ z ∈ l := by
  induction l with
  | nil => simp [putG]
  | cons y ys ih =>
    unfold putG
    by_cases c : lt y x = true
    · rw [if_pos c]
      simp only [List.mem_cons, ih]
      constructor
      · rintro (h | h | h)
        · exact .inr (.inl h)
        · exact .inl h
        · exact .inr (.inr h)
      · rintro (h | h | h)
        · exact .inr (.inl h)
        · exact .inl h
        · exact .inr (.inr h)
    · rw [if_neg c]
      by_cases d : y = x
      · rw [if_pos d]
        subst d
        simp
      · rw [if_neg d]
        simp
theorem putG_rising {α : Type} [DecidableEq α] {lt : α → α → Bool} (H : Lin lt) (x : α) {l : List α} (h : Rising lt l) : Rising lt (putG lt x l) := by
  induction l with
  | nil => simp [putG, Rising]
  | cons y ys ih =>
    unfold Rising at h ih ⊢
    rw [List.pairwise_cons] at h
    unfold putG
    by_cases c : lt y x = true
    · rw [if_pos c, List.pairwise_cons]
      refine ⟨?_, ih h.2⟩
      intro z hz
      rcases mem_putG.1 hz with rfl | hz
      · exact c
      · exact h.1 z hz
    · rw [if_neg c]
      by_cases d : y = x
      · rw [if_pos d]
        exact List.pairwise_cons.2 h
      · rw [if_neg d]
        have e : lt x y = true := by
          rcases H.tri x y with e | e | e
          · exact e
          · exact absurd e.symm d
          · exact absurd e c
        refine List.pairwise_cons.2 ⟨?_, List.pairwise_cons.2 h⟩
        intro z hz
        rcases List.mem_cons.1 hz with rfl | hz
        · exact e
        · exact H.trans _ _ _ e (h.1 z hz)
theorem Rising.nodup {α : Type} {lt : α → α → Bool} (H : Lin lt) {l : List α} (h : Rising lt l) : l.Nodup := by
  refine List.Pairwise.imp ?_ h
  intro a b hab e
  subst e
  rw [H.irr] at hab
  cases hab
theorem rising_ext {α : Type} {lt : α → α → Bool} (H : Lin lt) : ∀ {l m : List α}, Rising lt l → Rising lt m → (∀ x, x ∈ l ↔ x ∈ m) → l = m
  | [], [], _, _, _ => rfl
  | [], y :: m, _, _, h => absurd ((h y).2 (by simp)) (by simp)
  | x :: l, [], _, _, h => absurd ((h x).1 (by simp)) (by simp)
  | x :: l, y :: m, hl, hm, h => by
    unfold Rising at hl hm
    rw [List.pairwise_cons] at hl hm
    have e : x = y := by
      have h1 := (h x).1 (by simp)
      have h2 := (h y).2 (by simp)
      rcases List.mem_cons.1 h1 with e | e
      · exact e
      · rcases List.mem_cons.1 h2 with e2 | e2
        · exact e2.symm
        · have := H.trans _ _ _ (hl.1 y e2) (hm.1 x e)
          rw [H.irr] at this
          cases this
    subst e
    congr 1
    refine rising_ext H hl.2 hm.2 ?_
    intro z
    have hz := h z
    simp only [List.mem_cons] at hz
    constructor
    · intro h1
      rcases hz.1 (.inr h1) with e | e
      · subst e
        have := hl.1 z h1
        rw [H.irr] at this
        cases this
      · exact e
    · intro h1
      rcases hz.2 (.inr h1) with e | e
      · subst e
        have := hm.1 z h1
        rw [H.irr] at this
        cases this
      · exact e
theorem putG_same {α : Type} [DecidableEq α] {lt : α → α → Bool} (H : Lin lt) {x : α} {l : List α} (h : Rising lt l) (hx : x ∈ l) : putG lt x l = l := by
  refine rising_ext H (putG_rising H x h) h fun z => ?_
  rw [mem_putG]
  constructor
  · rintro (rfl | h)
    · exact hx
    · exact h
  · exact .inr
theorem putG_length {α : Type} [DecidableEq α] {lt : α → α → Bool} (H : Lin lt) {x : α} {l : List α} (h : Rising lt l) (hx : x ∉ l) : (putG lt x l).length = l.length + 1 := by
  have h1 : (putG lt x l).Perm (x :: l) := by
    refine (List.perm_ext_iff_of_nodup ((putG_rising H x h).nodup H) (List.nodup_cons.2 ⟨hx, h.nodup H⟩)).2 fun z => ?_
    rw [mem_putG, List.mem_cons]
  rw [h1.length_eq, List.length_cons]
theorem putG_length_le {α : Type} [DecidableEq α] {lt : α → α → Bool} (x : α) (l : List α) : (putG lt x l).length ≤ l.length + 1 := by
  induction l with
  | nil => simp [putG]
  | cons y ys ih =>
    unfold putG
    split
    · simp only [List.length_cons]
      omega
    · split <;> simp
def ltI (x y : Int) : Bool := decide (x < y)
theorem linI : Lin ltI where
  irr x := by simp [ltI]
  trans x y z h1 h2 := by
    simp only [ltI, decide_eq_true_eq] at *
    omega
  tri x y := by
    simp only [ltI, decide_eq_true_eq]
    omega
def putI (x : Int) (l : List Int) : List Int := putG ltI x l
def putAll {α : Type} [DecidableEq α] (lt : α → α → Bool) (xs l : List α) : List α := xs.foldl (fun l x => putG lt x l) l
theorem putAll_rising {α : Type} [DecidableEq α] {lt : α → α → Bool} (H : Lin lt) (xs : List α) : ∀ {l : List α}, Rising lt l → Rising lt (putAll lt xs l) := by
  induction xs with
  | nil => exact fun h => h
  | cons x xs ih => exact fun h => ih (putG_rising H x h)
theorem mem_putAll {α : Type} [DecidableEq α] {lt : α → α → Bool} {z : α} (xs : List α) : ∀ {l : List α}, z ∈ putAll lt xs l ↔ z ∈ xs ∨ z ∈ l := by
  induction xs with
  | nil => simp [putAll]
  | cons x xs ih =>
    intro l
    show z ∈ putAll lt xs (putG lt x l) ↔ _
    rw [ih, mem_putG, List.mem_cons]
    constructor
    · rintro (h | h | h)
      · exact .inl (.inr h)
      · exact .inl (.inl h)
      · exact .inr h
    · rintro ((h | h) | h)
      · exact .inr (.inl h)
      · exact .inl h
      · exact .inr (.inr h)
theorem spec_l1Put_ev (l : List Int) (x : Int) (hl : l.length ≤ 4000000) : Ev (fun k => spec_l1Put.f k l x) (putG ltI x l) := by
  suffices H : ∀ d i : Nat, i + d = l.length → Ev (fun k => spec_l1Put.l0 k l x (i : Int)) (l.take i ++ putG ltI x (l.drop i)) from H l.length 0 (by omega)
  intro d
  induction d with
  | zero =>
    intro i hi
    refine Ev.succ ?_
    obtain rfl : i = l.length := by omega
    have h1 : ¬ ((l.length : Int) < (l.length : Int)) := by omega
    have h2 : (0 : Int) ≤ (l.length : Int) := by omega
    have h4 : l.length < 17592186044416 := by omega
    simp only [spec_l1Put.l0, h1, h2, Int.le_refl, ↓reduceIte, Option.bind_some, Int.toNat_natCast, List.take_length, List.drop_length, List.length_nil, Nat.zero_add, h4, List.nil_append, List.length_append, List.length_singleton, Nat.add_zero, show l.length + 1 < 17592186044416 from by omega, putG]
    exact Ev.some_ (by simp)
  | succ d ih =>
    intro i hi
    refine Ev.succ ?_
    have h0 : i < l.length := by omega
    have h1 : (i : Int) < (l.length : Int) := by omega
    have h2 : (0 : Int) ≤ (i : Int) := by omega
    have h3 : (i : Int) ≤ (l.length : Int) := by omega
    have hw : wrap64 ((i : Int) + 1) = ((i + 1 : Nat) : Int) := by rw [w64 (by omega) (by omega)]; rfl
    rw [drop_cons l i h0]
    unfold putG
    simp only [spec_l1Put.l0, h1, h2, ↓reduceIte, hw, rd_nat l i h0]
    by_cases c : l[i] < x
    · have c' : ltI l[i] x = true := decide_eq_true c
      simp only [↓reduceIte, c, c']
      have e := ih (i + 1) (by omega)
      rw [List.take_succ_eq_append_getElem h0, List.append_assoc] at e
      exact e
    · have c' : ¬ (ltI l[i] x = true) := by unfold ltI; simpa using c
      simp only [c, c', ↓reduceIte, Bool.false_eq_true]
      by_cases g : l[i] = x
      · simp only [g, ↓reduceIte]
        refine Ev.some_ ?_
        rw [← g, ← drop_cons l i h0, List.take_append_drop]
      · have t1 : (l.take i).length = i := by rw [List.length_take]; omega
        have t2 : (l.drop i).length = l.length - i := List.length_drop
        simp only [g, ↓reduceIte, Option.bind_some, h3, Int.toNat_natCast, List.length_nil, Nat.zero_add, List.nil_append, t1, t2, List.length_append, List.length_singleton, show i < 17592186044416 from by omega, show i + 1 + (l.length - i) < 17592186044416 from by omega]
        exact Ev.some_ (by rw [← drop_cons l i h0]; simp)
theorem rowN_two {ls : List (List Int)} (hr : ∀ r ∈ ls, r.length = 2) {i : Nat} (hi : i < ls.length) : ∃ a b, rowN ls i = [a, b] := by
  have h : (rowN ls i).length = 2 := by
    unfold rowN
    rw [List.getD_eq_getElem?_getD, List.getElem?_eq_getElem hi]
    exact hr _ (List.getElem_mem hi)
  match e : rowN ls i, h with
  | [a, b], _ => exact ⟨a, b, rfl⟩
theorem meet2 {ls : List (List Int)} (hr : ∀ r ∈ ls, r.length = 2) {i : Nat} (hi : i < ls.length) (j : Nat) : meetB ls i j = (decide (rd (rowN ls i) 0 ∈ rowN ls j) || decide (rd (rowN ls i) 1 ∈ rowN ls j)) := by
  obtain ⟨a, b, e⟩ := rowN_two hr hi
  unfold meetB
  rw [e]
  simp [rd]
def addS (S : Nat → Bool) (i : Nat) : Nat → Bool := fun x => S x || decide (x = i)
theorem addS_iff {S : Nat → Bool} {i x : Nat} : addS S i x = true ↔ S x = true ∨ x = i := by
  unfold addS
  rw [Bool.or_eq_true, decide_eq_true_eq]
theorem setV_rising (n : Nat) (S : Nat → Bool) : Rising ltI (setV n S) := by
  unfold setV Rising
  rw [List.pairwise_map]
  refine List.Pairwise.imp ?_ (List.Pairwise.filter _ List.pairwise_lt_range)
  intro a b hab
  unfold ltI
  rw [decide_eq_true_eq]
  omega
theorem put_setV {n : Nat} {S : Nat → Bool} {i : Nat} (hi : i < n) : putG ltI (i : Int) (setV n S) = setV n (addS S i) := by
  refine rising_ext linI (putG_rising linI _ (setV_rising n S)) (setV_rising n _) (fun x => ?_)
  rw [mem_putG]
  constructor
  · rintro (rfl | h)
    · exact mem_setV.2 ⟨hi, addS_iff.2 (.inr rfl)⟩
    · obtain ⟨y, rfl, h1, h2⟩ := setV_mem h
      exact mem_setV.2 ⟨h1, addS_iff.2 (.inl h2)⟩
  · intro h
    obtain ⟨y, rfl, h1, h2⟩ := setV_mem h
    rcases addS_iff.1 h2 with h2 | rfl
    · exact .inr (mem_setV.2 ⟨h1, h2⟩)
    · exact .inl rfl
def miss (n : Nat) (S : Nat → Bool) : Nat := ((List.range n).filter fun x => !S x).length
theorem miss_succ (n : Nat) (S : Nat → Bool) : miss (n + 1) S = miss n S + (if S n = true then 0 else 1) := by
  unfold miss
  rw [List.range_succ, List.filter_append, List.length_append]
  cases h : S n <;> simp [h]
theorem miss_congr {n : Nat} {S T : Nat → Bool} (h : ∀ x, x < n → S x = T x) : miss n S = miss n T := by
  unfold miss
  congr 1
  exact List.filter_congr fun x hx => by rw [h x (by simpa using hx)]
theorem miss_add {n : Nat} {S : Nat → Bool} {i : Nat} (hi : i < n) (h : S i = false) : miss n (addS S i) + 1 = miss n S := by
  induction n with
  | zero => omega
  | succ n ih =>
    rw [miss_succ, miss_succ]
    rcases Nat.lt_or_ge i n with h1 | h1
    · have h2 := ih h1
      have h3 : addS S i n = S n := by
        unfold addS
        rw [decide_eq_false (show ¬ n = i by omega), Bool.or_false]
      rw [h3]
      omega
    · obtain rfl : i = n := by omega
      have h2 : miss i (addS S i) = miss i S := miss_congr fun x hx => by
        unfold addS
        rw [decide_eq_false (show ¬ x = i by omega), Bool.or_false]
      have h3 : addS S i i = true := addS_iff.2 (.inr rfl)
      rw [h2, h3, h]
      simp
theorem miss_le (n : Nat) (S : Nat → Bool) : miss n S ≤ n := by
  unfold miss
  exact Nat.le_trans (List.length_filter_le _ _) (by simp)
theorem has_setV {n : Nat} {S : Nat → Bool} {i : Nat} (hi : i < n) : decide ((i : Int) ∈ setV n S) = S i := by
  cases h : S i with
  | true => exact decide_eq_true (mem_setV.2 ⟨hi, h⟩)
  | false => exact decide_eq_false fun h1 => by have := (mem_setV.1 h1).2; rw [h] at this; cases this
theorem row_small {ls : List (List Int)} (hr : ∀ r ∈ ls, r.length = 2) {i : Nat} (hi : i < ls.length) : (rowN ls i).length = 2 := by
  obtain ⟨a, b, e⟩ := rowN_two hr hi
  rw [e]
  rfl
theorem cuGroup_l2_has {ls : List (List Int)} {i : Nat} {S : Nat → Bool} {g : Bool} {row r : List Int} (hS : S i = true) (hi : i < ls.length) (hn : ls.length ≤ 1000) (hrow : row.length ≤ 1000)
    (h : Ev (fun k => spec_cuGroup.l1 k ls (setV ls.length S) g ls (ls.length : Int) (wrap64 ((i : Int) + 1))) r) : ∀ d j : Nat, j + d = row.length → Ev (fun k => spec_cuGroup.l2 k ls (setV ls.length S) g (i : Int) (spec_cuGroup.row ls (i : Int)) ls (ls.length : Int) (i : Int) row (row.length : Int) (j : Int)) r := by
  intro d
  induction d with
  | zero =>
    intro j hj
    refine Ev.succ ?_
    have h1 : ¬ ((j : Int) < (row.length : Int)) := by omega
    simp only [spec_cuGroup.l2, h1, ↓reduceIte]
    exact h
  | succ d ih =>
    intro j hj
    refine Ev.succ ?_
    have h1 : (j : Int) < (row.length : Int) := by omega
    have h2 : (0 : Int) ≤ (j : Int) := by omega
    have hw : wrap64 ((j : Int) + 1) = ((j + 1 : Nat) : Int) := by rw [w64 (by omega) (by omega)]; rfl
    simp only [spec_cuGroup.l2, h1, h2, ↓reduceIte, hw]
    refine Ev.bind (spec_l1Has_ev _ _ (by have := setV_length_le ls.length S; omega)) ?_
    rw [has_setV hi, hS]
    simp only [↓reduceIte]
    exact ih (j + 1) (by omega)
theorem cuGroup_l2 {ls : List (List Int)} (hr : ∀ r ∈ ls, r.length = 2) {i : Nat} {S : Nat → Bool} {g : Bool} {r : List Int} (hi : i < ls.length) (hn : ls.length ≤ 1000) (hS : S i = false)
    (hno : (∀ k, k < ls.length → S k = true → meetB ls i k = false) → Ev (fun k => spec_cuGroup.l1 k ls (setV ls.length S) g ls (ls.length : Int) (wrap64 ((i : Int) + 1))) r)
    (hyes : (∃ k, k < ls.length ∧ S k = true ∧ meetB ls i k = true) → Ev (fun k => spec_cuGroup.l1 k ls (setV ls.length (addS S i)) true ls (ls.length : Int) (wrap64 ((i : Int) + 1))) r) :
    ∀ d j : Nat, j + d = (setV ls.length S).length → (∀ x : Nat, (x : Int) ∈ (setV ls.length S).take j → meetB ls i x = false) → Ev (fun k => spec_cuGroup.l2 k ls (setV ls.length S) g (i : Int) (spec_cuGroup.row ls (i : Int)) ls (ls.length : Int) (i : Int) (setV ls.length S) ((setV ls.length S).length : Int) (j : Int)) r := by
  have hsl := setV_length_le ls.length S
  intro d
  induction d with
  | zero =>
    intro j hj hm
    refine Ev.succ ?_
    have h1 : ¬ ((j : Int) < ((setV ls.length S).length : Int)) := by omega
    simp only [spec_cuGroup.l2, h1, ↓reduceIte]
    refine hno fun k hk hk2 => hm k ?_
    rw [List.take_of_length_le (by omega)]
    exact mem_setV.2 ⟨hk, hk2⟩
  | succ d ih =>
    intro j hj hm
    refine Ev.succ ?_
    have hj0 : j < (setV ls.length S).length := by omega
    have h1 : (j : Int) < ((setV ls.length S).length : Int) := by omega
    have h2 : (0 : Int) ≤ (j : Int) := by omega
    have hw : wrap64 ((j : Int) + 1) = ((j + 1 : Nat) : Int) := by rw [w64 (by omega) (by omega)]; rfl
    obtain ⟨k0, e0, hk1, hk2⟩ := setV_mem (List.getElem_mem hj0)
    have e1 : rd (setV ls.length S) (j : Int) = (k0 : Int) := by rw [rd_nat _ j hj0, e0]
    have h3 : (0 : Int) ≤ (k0 : Int) := by omega
    have h4 : (k0 : Int) < (ls.length : Int) := by omega
    have e2 : spec_cuGroup.row ls (i : Int) = rowN ls i := rfl
    have e3 : spec_cuGroup.row ls (k0 : Int) = rowN ls k0 := rfl
    have l1 := row_small hr hi
    have l2 := row_small hr hk1
    have hmt := meet2 hr hi k0
    simp only [spec_cuGroup.l2, h1, h2, ↓reduceIte, hw, e1, h3, h4, e2, e3, l1, show (0 : Int) < ((2 : Nat) : Int) from by decide, show (1 : Int) < ((2 : Nat) : Int) from by decide]
    refine Ev.bind (spec_l1Has_ev _ _ (by omega)) ?_
    rw [has_setV hi, hS]
    simp only [Bool.false_eq_true, ↓reduceIte]
    have hput : ∀ {k' : Nat}, k' < ls.length → S k' = true → meetB ls i k' = true → Ev (fun k => (spec_l1Put.f k (setV ls.length S) (i : Int)).bind fun t => spec_cuGroup.l2 k ls t true (i : Int) (rowN ls i) ls (ls.length : Int) (i : Int) (setV ls.length S) ((setV ls.length S).length : Int) ((j + 1 : Nat) : Int)) r := by
      intro k' q1 q2 q3
      refine Ev.bind (spec_l1Put_ev _ _ (by omega)) ?_
      rw [put_setV hi]
      exact cuGroup_l2_has (addS_iff.2 (.inr rfl)) hi hn (by omega) (hyes ⟨k', q1, q2, q3⟩) d (j + 1) (by omega)
    refine Ev.bind (spec_l1Has_ev _ _ (by omega)) ?_
    by_cases c1 : rd (rowN ls i) 0 ∈ rowN ls k0
    · simp only [c1, decide_true, ↓reduceIte]
      exact hput hk1 hk2 (by rw [hmt]; simp [c1])
    · simp only [c1, decide_false, Bool.false_eq_true, ↓reduceIte]
      refine Ev.bind (spec_l1Has_ev _ _ (by omega)) ?_
      by_cases c2 : rd (rowN ls i) 1 ∈ rowN ls k0
      · simp only [c2, decide_true, ↓reduceIte]
        exact hput hk1 hk2 (by rw [hmt]; simp [c2])
      · simp only [c2, decide_false, Bool.false_eq_true, ↓reduceIte]
        refine ih (j + 1) (by omega) ?_
        intro y hy
        rw [List.take_succ_eq_append_getElem hj0, List.mem_append] at hy
        rcases hy with hy | hy
        · exact hm y hy
        · rw [List.mem_singleton, e0] at hy
          have : y = k0 := by omega
          subst this
          rw [hmt]
          simp [c1, c2]
theorem cuGroup_l1 {ls : List (List Int)} (hr : ∀ r ∈ ls, r.length = 2) {i0 : Nat} (hi0 : i0 < ls.length) (hn : ls.length ≤ 1000) (m : Nat)
    (ihm : ∀ S : Nat → Bool, S i0 = true → (∀ j, S j = true → Conn ls i0 j) → miss ls.length S ≤ m → Ev (fun k => spec_cuGroup.l0 k ls (setV ls.length S) true) (compV ls i0)) :
    ∀ d i : Nat, i + d = ls.length → ∀ (S : Nat → Bool) (g : Bool), S i0 = true → (∀ j, S j = true → Conn ls i0 j) → (g = true → miss ls.length S ≤ m) → (miss ls.length S ≤ m + 1) → (g = false → ∀ x, x < i → ∀ k, k < ls.length → S k = true → meetB ls x k = true → S x = true) →
      Ev (fun k => spec_cuGroup.l1 k ls (setV ls.length S) g ls (ls.length : Int) (i : Int)) (compV ls i0) := by
  intro d
  induction d with
  | zero =>
    intro i hi S g h0 hc hg hm hcl
    refine Ev.succ ?_
    have h1 : ¬ ((i : Int) < (ls.length : Int)) := by omega
    simp only [spec_cuGroup.l1, h1, ↓reduceIte]
    cases g with
    | true => exact ihm S h0 hc (hg rfl)
    | false =>
      refine Ev.succ ?_
      simp only [spec_cuGroup.l0, Bool.false_eq_true, ↓reduceIte]
      refine Ev.some_ ?_
      refine setV_congr fun x hx => ?_
      rw [Bool.eq_iff_iff, compB_iff]
      refine conn_of_closed h0 hc ?_ x
      intro j k hj hk hjk
      have hj2 := (hc j hj).lt hi0
      exact hcl rfl k (by omega) j hj2 hj (by rw [meetB_symm]; exact hjk)
  | succ d ih =>
    intro i hi S g h0 hc hg hm hcl
    refine Ev.succ ?_
    have hi1 : i < ls.length := by omega
    have h1 : (i : Int) < (ls.length : Int) := by omega
    have h2 : (0 : Int) ≤ (i : Int) := by omega
    have hw : wrap64 ((i : Int) + 1) = ((i + 1 : Nat) : Int) := by rw [w64 (by omega) (by omega)]; rfl
    have e2 : rd_L3 ls (i : Int) = spec_cuGroup.row ls (i : Int) := rfl
    simp only [spec_cuGroup.l1, h1, h2, ↓reduceIte, e2]
    cases hS : S i with
    | true =>
      refine cuGroup_l2_has hS hi1 hn (by have := setV_length_le ls.length S; omega) ?_ _ 0 (Nat.zero_add _)
      rw [hw]
      refine ih (i + 1) (by omega) S g h0 hc hg hm ?_
      intro hg0 x hx k hk hk2 hk3
      rcases Nat.lt_or_ge x i with h | h
      · exact hcl hg0 x h k hk hk2 hk3
      · obtain rfl : x = i := by omega
        exact hS
    | false =>
      refine cuGroup_l2 hr hi1 hn hS ?_ ?_ _ 0 (Nat.zero_add _) (by simp)
      · intro hno
        rw [hw]
        refine ih (i + 1) (by omega) S g h0 hc hg hm ?_
        intro hg0 x hx k hk hk2 hk3
        rcases Nat.lt_or_ge x i with h | h
        · exact hcl hg0 x h k hk hk2 hk3
        · obtain rfl : x = i := by omega
          rw [hno k hk hk2] at hk3
          cases hk3
      · rintro ⟨k, hk1, hk2, hk3⟩
        rw [hw]
        have hma := miss_add hi1 hS
        refine ih (i + 1) (by omega) (addS S i) true (addS_iff.2 (.inl h0)) ?_ (fun _ => by omega) (by omega) (fun h => by cases h)
        intro j hj
        rcases addS_iff.1 hj with h | rfl
        · exact hc j h
        · exact Conn.step (hc k hk2) hi1 (by rw [meetB_symm]; exact hk3)
theorem cuGroup_l0 {ls : List (List Int)} (hr : ∀ r ∈ ls, r.length = 2) {i0 : Nat} (hi0 : i0 < ls.length) (hn : ls.length ≤ 1000) : ∀ (m : Nat) (S : Nat → Bool), S i0 = true → (∀ j, S j = true → Conn ls i0 j) → miss ls.length S ≤ m → Ev (fun k => spec_cuGroup.l0 k ls (setV ls.length S) true) (compV ls i0) := by
  intro m
  induction m with
  | zero =>
    intro S h0 hc hm
    refine Ev.succ ?_
    simp only [spec_cuGroup.l0, ↓reduceIte]
    refine cuGroup_l1 hr hi0 hn 0 ?_ ls.length 0 (by omega) S false h0 hc (fun h => by cases h) (by omega) (fun _ x hx => by omega)
    intro T t0 tc tm
    -- nothing is missing: a round that adds cannot be
    refine Ev.succ ?_
    simp only [spec_cuGroup.l0, ↓reduceIte]
    have hall : ∀ x, x < ls.length → T x = true := by
      intro x hx
      cases hT : T x with
      | true => rfl
      | false => have := miss_add hx hT; omega
    suffices H : ∀ d i : Nat, i + d = ls.length → Ev (fun k => spec_cuGroup.l1 k ls (setV ls.length T) false ls (ls.length : Int) (i : Int)) (compV ls i0) from H ls.length 0 (by omega)
    intro d
    induction d with
    | zero =>
      intro i hi
      refine Ev.succ ?_
      have h1 : ¬ ((i : Int) < (ls.length : Int)) := by omega
      simp only [spec_cuGroup.l1, h1, ↓reduceIte]
      refine Ev.succ ?_
      simp only [spec_cuGroup.l0, Bool.false_eq_true, ↓reduceIte]
      refine Ev.some_ (setV_congr fun x hx => ?_)
      rw [Bool.eq_iff_iff, compB_iff]
      exact conn_of_closed t0 tc (fun j k _ hk _ => hall k hk) x
    | succ d ih =>
      intro i hi
      refine Ev.succ ?_
      have hi1 : i < ls.length := by omega
      have h1 : (i : Int) < (ls.length : Int) := by omega
      have h2 : (0 : Int) ≤ (i : Int) := by omega
      have hw : wrap64 ((i : Int) + 1) = ((i + 1 : Nat) : Int) := by rw [w64 (by omega) (by omega)]; rfl
      have e2 : rd_L3 ls (i : Int) = spec_cuGroup.row ls (i : Int) := rfl
      simp only [spec_cuGroup.l1, h1, h2, ↓reduceIte, e2]
      refine cuGroup_l2_has (hall i hi1) hi1 hn (by have := setV_length_le ls.length T; omega) ?_ _ 0 (Nat.zero_add _)
      rw [hw]
      exact ih (i + 1) (by omega)
  | succ m ih =>
    intro S h0 hc hm
    refine Ev.succ ?_
    simp only [spec_cuGroup.l0, ↓reduceIte]
    exact cuGroup_l1 hr hi0 hn m ih ls.length 0 (by omega) S false h0 hc (fun h => by cases h) hm (fun _ x hx => by omega)
theorem spec_cuGroup_ev (ls : List (List Int)) (hr : ∀ r ∈ ls, r.length = 2) (hn : ls.length ≤ 1000) (i : Nat) (hi : i < ls.length) : Ev (fun k => spec_cuGroup.f k ls (i : Int)) (compV ls i) := by
  have h := cuGroup_l0 hr hi hn ls.length (fun x => decide (x = i)) (by simp) (fun j hj => (show j = i by simpa using hj) ▸ Conn.refl) (miss_le _ _)
  have e : setV ls.length (fun x => decide (x = i)) = [(i : Int)] := by
    refine rising_ext linI (setV_rising _ _) (by simp [Rising]) (fun x => ?_)
    constructor
    · intro h
      obtain ⟨y, rfl, _, h2⟩ := setV_mem h
      have : y = i := by simpa using h2
      simp [this]
    · intro h
      rw [List.mem_singleton] at h
      subst h
      exact mem_setV.2 ⟨hi, by simp⟩
  rw [e] at h
  exact h
theorem spec_cuGroups_ev (ls : List (List Int)) (hr : ∀ r ∈ ls, r.length = 2) (hn : ls.length ≤ 1000) : Ev (fun k => spec_cuGroups.f k ls) (groupsV ls) := by
  suffices H : ∀ d i : Nat, i + d = ls.length → Ev (fun k => spec_cuGroups.l0 k ls ((repsV ls i).map (compV ls)) (ls.length : Int) (i : Int)) (groupsV ls) from H ls.length 0 (by omega)
  intro d
  induction d with
  | zero =>
    intro i hi
    refine Ev.succ ?_
    have h1 : ¬ ((i : Int) < (ls.length : Int)) := by omega
    obtain rfl : i = ls.length := by omega
    simp only [spec_cuGroups.l0, h1, ↓reduceIte]
    exact Ev.now _
  | succ d ih =>
    intro i hi
    refine Ev.succ ?_
    have hi1 : i < ls.length := by omega
    have h1 : (i : Int) < (ls.length : Int) := by omega
    have hw : wrap64 ((i : Int) + 1) = ((i + 1 : Nat) : Int) := by rw [w64 (by omega) (by omega)]; rfl
    have hl : ((repsV ls i).map (compV ls)).length < 5864062014805 := by rw [List.length_map]; have := repsV_length_le ls i; omega
    simp only [spec_cuGroups.l0, h1, ↓reduceIte, hw]
    refine Ev.bind (spec_cuGroup_ev ls hr hn i hi1) ?_
    obtain ⟨r, l, e1, e2, e3, e4⟩ := compV_first hi1
    have h3 : (0 : Int) < ((compV ls i).length : Int) := by rw [e1, List.length_cons]; omega
    have h4 : rd (compV ls i) 0 = (r : Int) := by rw [e1]; rfl
    have ih' := ih (i + 1) (by omega)
    rw [repsV_succ, List.map_append] at ih'
    simp only [h3, h4, ↓reduceIte, hl]
    by_cases c : leastB ls i = true
    · have hL := leastB_iff.1 c
      have : r = i := by
        rcases Nat.lt_or_ge r i with h | h
        · exact absurd e2 (hL r h)
        · omega
      subst this
      simp only [↓reduceIte]
      rw [if_pos c] at ih'
      exact ih'
    · have : ¬ ((r : Int) = (i : Int)) := by
        intro e
        have e' : r = i := by omega
        subst e'
        exact c (leastB_iff.2 e3)
      simp only [this, ↓reduceIte]
      rw [if_neg c, List.map_nil, List.append_nil] at ih'
      exact ih'
theorem impl_groupsc1_ev (x : Int) (ls : List (List Int)) (td : List Int) (t : Nat) (q : List Int) (htd : td = (t : Int) :: q) (ht : t < ls.length) (hr : ∀ r ∈ ls, r.length = 2) : Ev (fun k => impl_groupsc1.f k x ls td) (decide (x ∈ rowN ls t)) := by
  subst htd
  have h1 : (0 : Int) < ((((t : Int) :: q).length : Nat) : Int) := by rw [List.length_cons]; omega
  have e1 : rd ((t : Int) :: q) 0 = (t : Int) := rfl
  have h2 : (0 : Int) ≤ (t : Int) := by omega
  have h3 : (t : Int) < (ls.length : Int) := by omega
  have e2 : impl_groups.row ls (t : Int) = rowN ls t := rfl
  unfold impl_groupsc1.f
  simp only [h1, e1, h2, h3, e2, ↓reduceIte]
  exact Ev.bind (slices_Contains_int_int_ev _ _ (by rw [row_small hr ht]; decide)) (Ev.now _)
theorem containsFunc_groups (ls : List (List Int)) (td : List Int) (t : Nat) (q : List Int) (htd : td = (t : Int) :: q) (ht : t < ls.length) (hr : ∀ r ∈ ls, r.length = 2) (j : Nat) (hj : j < ls.length) : Ev (fun k => slices_ContainsFunc_int_int_impl_groupsc1.f k (rowN ls j) ls td) (meetB ls j t) := by
  unfold slices_ContainsFunc_int_int_impl_groupsc1.f
  have hl := row_small hr hj
  obtain ⟨a, b, e⟩ := rowN_two hr hj
  have hm : meetB ls j t = (decide (a ∈ rowN ls t) || decide (b ∈ rowN ls t)) := by
    unfold meetB
    rw [e]
    simp
  rw [e, hm]
  have i0 : rd [a, b] 0 = a := rfl
  have i1 : rd [a, b] 1 = b := rfl
  have w0 : wrap64 (0 + 1) = 1 := w64 (by omega) (by omega)
  have w1 : wrap64 (1 + 1) = 2 := w64 (by omega) (by omega)
  by_cases c : a ∈ rowN ls t
  · refine Ev.bind (a := (0 : Int)) ?_ ?_
    · unfold slices_IndexFunc_int_int_impl_groupsc1.f
      refine Ev.succ ?_
      simp only [slices_IndexFunc_int_int_impl_groupsc1.l0, List.length_cons, List.length_nil, i0, show (0 : Int) < ((0 + 1 + 1 : Nat) : Int) from by decide, show (0 : Int) ≤ 0 from by decide, ↓reduceIte]
      refine Ev.bind (impl_groupsc1_ev a ls td t q htd ht hr) ?_
      simp only [c, decide_true, ↓reduceIte]
      exact Ev.now _
    · exact Ev.some_ (by simp [c])
  · by_cases c2 : b ∈ rowN ls t
    · refine Ev.bind (a := (1 : Int)) ?_ ?_
      · unfold slices_IndexFunc_int_int_impl_groupsc1.f
        refine Ev.succ ?_
        simp only [slices_IndexFunc_int_int_impl_groupsc1.l0, List.length_cons, List.length_nil, i0, show (0 : Int) < ((0 + 1 + 1 : Nat) : Int) from by decide, show (0 : Int) ≤ 0 from by decide, ↓reduceIte, w0]
        refine Ev.bind (impl_groupsc1_ev a ls td t q htd ht hr) ?_
        simp only [c, decide_false, Bool.false_eq_true, ↓reduceIte]
        refine Ev.succ ?_
        simp only [slices_IndexFunc_int_int_impl_groupsc1.l0, List.length_cons, List.length_nil, i1, show (1 : Int) < ((0 + 1 + 1 : Nat) : Int) from by decide, show (0 : Int) ≤ 1 from by decide, ↓reduceIte]
        refine Ev.bind (impl_groupsc1_ev b ls td t q htd ht hr) ?_
        simp only [c2, decide_true, ↓reduceIte]
        exact Ev.now _
      · exact Ev.some_ (by simp [c2])
    · refine Ev.bind (a := (-1 : Int)) ?_ ?_
      · unfold slices_IndexFunc_int_int_impl_groupsc1.f
        refine Ev.succ ?_
        simp only [slices_IndexFunc_int_int_impl_groupsc1.l0, List.length_cons, List.length_nil, i0, show (0 : Int) < ((0 + 1 + 1 : Nat) : Int) from by decide, show (0 : Int) ≤ 0 from by decide, ↓reduceIte, w0]
        refine Ev.bind (impl_groupsc1_ev a ls td t q htd ht hr) ?_
        simp only [c, decide_false, Bool.false_eq_true, ↓reduceIte]
        refine Ev.succ ?_
        simp only [slices_IndexFunc_int_int_impl_groupsc1.l0, List.length_cons, List.length_nil, i1, show (1 : Int) < ((0 + 1 + 1 : Nat) : Int) from by decide, show (0 : Int) ≤ 1 from by decide, ↓reduceIte, w1]
        refine Ev.bind (impl_groupsc1_ev b ls td t q htd ht hr) ?_
        simp only [c2, decide_false, Bool.false_eq_true, ↓reduceIte]
        refine Ev.succ ?_
        simp only [slices_IndexFunc_int_int_impl_groupsc1.l0, List.length_cons, List.length_nil, show ¬ ((2 : Int) < ((0 + 1 + 1 : Nat) : Int)) from by decide, ↓reduceIte]
        exact Ev.now _
      · exact Ev.some_ (by simp [c, c2])
/-- What a function of the indices below n tells, as a list. -/
def tab (n : Nat) (f : Nat → Int) : List Int := (List.range n).map f
theorem tab_length (n : Nat) (f : Nat → Int) : (tab n f).length = n := by simp [tab]
theorem rd_tab {n : Nat} {f : Nat → Int} {j : Nat} (h : j < n) : rd (tab n f) (j : Int) = f j := by
  rw [rd_nat _ j (by rw [tab_length]; exact h)]
  simp [tab]
theorem tab_congr {n : Nat} {f g : Nat → Int} (h : ∀ j, j < n → f j = g j) : tab n f = tab n g := by
  unfold tab
  exact List.map_congr_left fun j hj => h j (by simpa using hj)
theorem tab_set {n : Nat} {f : Nat → Int} {j : Nat} (x : Int) : (tab n f).set j x = tab n (fun y => if y = j then x else f y) := by
  apply List.ext_getElem
  · rw [List.length_set, tab_length, tab_length]
  · intro i h1 h2
    rw [List.getElem_set]
    by_cases c : j = i
    · subst c
      simp [tab]
    · have c' : ¬ i = j := fun e => c e.symm
      simp [tab, c, c']
/-- The labels: k where V holds, else those of f. -/
def lab (V : Nat → Bool) (k : Int) (f : Nat → Int) : Nat → Int := fun y => if V y = true then k else f y
def castL (q : List Nat) : List Int := q.map fun j : Nat => (j : Int)
structure Bfs (ls : List (List Int)) (i : Nat) (f : Nat → Int) (V : Nat → Bool) (t : Option Nat) (j : Nat) (q : List Nat) : Prop where
  start : V i = true
  conn : ∀ x, V x = true → Conn ls i x
  free : ∀ x, V x = true → f x < 0
  old : ∀ x, x < ls.length → 0 ≤ f x → ¬ Conn ls i x
  mem : ∀ x, x ∈ q → V x = true
  top : ∀ x, t = some x → V x = true
  closed : ∀ x y, V x = true → t ≠ some x → x ∉ q → y < ls.length → meetB ls x y = true → V y = true
  now : ∀ x y, t = some x → y < j → meetB ls x y = true → V y = true
theorem Bfs.lt {ls : List (List Int)} {i : Nat} {f : Nat → Int} {V : Nat → Bool} {t : Option Nat} {j : Nat} {q : List Nat} (h : Bfs ls i f V t j q) (hi : i < ls.length) {x : Nat} (hx : V x = true) : x < ls.length := (h.conn x hx).lt hi
theorem groups_l3 {ls : List (List Int)} (hr : ∀ r ∈ ls, r.length = 2) (hn : ls.length ≤ 1000) {out : List (List Int)} {i : Nat} (hi : i < ls.length) {f : Nat → Int} {k0 : Nat} {r : List (List Int)} {t : Nat} {M : Nat}
    (hend : ∀ (V : Nat → Bool) (q : List Nat), Bfs ls i f V none 0 q → 2 * miss ls.length V + q.length ≤ M → Ev (fun k => impl_groups.l2 k out (tab ls.length (lab V (k0 : Int) f)) (k0 : Int) (ls.length : Int) (i : Int) ls (castL q)) r) :
    ∀ d j : Nat, j + d = ls.length → ∀ (V : Nat → Bool) (q : List Nat), Bfs ls i f V (some t) j q → 2 * miss ls.length V + q.length ≤ M → q.length ≤ 100000 + j →
      Ev (fun k => impl_groups.l3 k out (tab ls.length (lab V (k0 : Int) f)) (k0 : Int) (ls.length : Int) (i : Int) (ls.length : Int) (j : Int) ls ((t : Int) :: castL q)) r := by
  intro d
  induction d with
  | zero =>
    intro j hj V q hb hm hq
    refine Ev.succ ?_
    have h1 : ¬ ((j : Int) < (ls.length : Int)) := by omega
    have h2 : (1 : Int) ≤ ((((t : Int) :: castL q).length : Nat) : Int) := by rw [List.length_cons]; omega
    simp only [impl_groups.l3, h1, h2, ↓reduceIte, List.drop_succ_cons, List.drop_zero]
    refine hend V q ⟨hb.start, hb.conn, hb.free, hb.old, hb.mem, (fun x hx => by cases hx), ?_, (fun x y hx => by cases hx)⟩ hm
    intro x y hx _ hxq hy hxy
    by_cases c : t = x
    · subst c
      exact hb.now t y rfl (by omega) hxy
    · exact hb.closed x y hx (fun e => c (by injection e)) hxq hy hxy
  | succ d ih =>
    intro j hj V q hb hm hq
    refine Ev.succ ?_
    have hj1 : j < ls.length := by omega
    have h1 : (j : Int) < (ls.length : Int) := by omega
    have h2 : (0 : Int) ≤ (j : Int) := by omega
    have h3 : (j : Int) < ((tab ls.length (lab V (k0 : Int) f)).length : Int) := by rw [tab_length]; omega
    have hw : wrap64 ((j : Int) + 1) = ((j + 1 : Nat) : Int) := by rw [w64 (by omega) (by omega)]; rfl
    have ht : t < ls.length := hb.lt hi (hb.top t rfl)
    have e2 : impl_groups.row ls (j : Int) = rowN ls j := rfl
    simp only [impl_groups.l3, h1, h2, h3, ↓reduceIte, hw, rd_tab hj1, e2]
    have keep : (∀ x, t = x → meetB ls x j = true → V j = true) → Bfs ls i f V (some t) (j + 1) q := by
      intro hk
      refine ⟨hb.start, hb.conn, hb.free, hb.old, hb.mem, hb.top, hb.closed, ?_⟩
      intro x y hx hy hxy
      injection hx with hx
      rcases Nat.lt_or_ge y j with h | h
      · exact hb.now x y (by rw [hx]) h hxy
      · obtain rfl : y = j := by omega
        exact hk x hx hxy
    by_cases c : lab V (k0 : Int) f j < 0
    · simp only [c, ↓reduceIte]
      have hVj : V j = false := by
        cases h : V j with
        | false => rfl
        | true =>
          unfold lab at c
          rw [if_pos h] at c
          omega
      refine Ev.bind (containsFunc_groups ls _ t (castL q) rfl ht hr j hj1) ?_
      cases hmt : meetB ls j t with
      | false =>
        simp only [Bool.false_eq_true, ↓reduceIte]
        refine ih (j + 1) (by omega) V q (keep ?_) hm (by omega)
        intro x hx hxy
        subst hx
        rw [meetB_symm, hmt] at hxy
        cases hxy
      | true =>
        have hlen : ((t : Int) :: castL q).length < 17592186044416 := by rw [List.length_cons]; unfold castL; rw [List.length_map]; omega
        simp only [↓reduceIte, hlen]
        have e3 : (t : Int) :: castL q ++ [(j : Int)] = (t : Int) :: castL (q ++ [j]) := by unfold castL; rw [List.map_append]; rfl
        have e4 : (tab ls.length (lab V (k0 : Int) f)).set ((j : Int)).toNat (k0 : Int) = tab ls.length (lab (addS V j) (k0 : Int) f) := by
          rw [Int.toNat_natCast, tab_set]
          refine tab_congr fun y _ => ?_
          unfold lab addS
          by_cases c : y = j <;> simp [c]
        rw [e3, e4]
        have hma := miss_add hj1 hVj
        refine ih (j + 1) (by omega) (addS V j) (q ++ [j]) ?_ (by rw [List.length_append]; simp; omega) (by rw [List.length_append]; simp; omega)
        have hct : Conn ls i j := Conn.step (hb.conn t (hb.top t rfl)) hj1 (by rw [meetB_symm]; exact hmt)
        refine ⟨addS_iff.2 (.inl hb.start), ?_, ?_, hb.old, ?_, fun x hx => addS_iff.2 (.inl (hb.top x hx)), ?_, ?_⟩
        · intro x hx
          rcases addS_iff.1 hx with h | rfl
          · exact hb.conn x h
          · exact hct
        · intro x hx
          rcases addS_iff.1 hx with h | rfl
          · exact hb.free x h
          · unfold lab at c
            rw [hVj] at c
            simpa using c
        · intro x hx
          rw [List.mem_append, List.mem_singleton] at hx
          rcases hx with h | rfl
          · exact addS_iff.2 (.inl (hb.mem x h))
          · exact addS_iff.2 (.inr rfl)
        · intro x y hx hxt hxq hy hxy
          rw [List.mem_append, List.mem_singleton] at hxq
          rcases addS_iff.1 hx with h | rfl
          · exact addS_iff.2 (.inl (hb.closed x y h hxt (fun h => hxq (.inl h)) hy hxy))
          · exact absurd (.inr rfl) hxq
        · intro x y hx hy hxy
          rcases Nat.lt_or_ge y j with h | h
          · exact addS_iff.2 (.inl (hb.now x y hx h hxy))
          · exact addS_iff.2 (.inr (by omega))
    · simp only [c, ↓reduceIte]
      refine ih (j + 1) (by omega) V q (keep ?_) hm (by omega)
      intro x hx hxy
      subst hx
      cases hVj : V j with
      | true => rfl
      | false =>
        exfalso
        unfold lab at c
        rw [hVj] at c
        simp only [Bool.false_eq_true, ↓reduceIte] at c
        exact hb.old j hj1 (by omega) (Conn.step (hb.conn t (hb.top t rfl)) hj1 hxy)
theorem groups_l2 {ls : List (List Int)} (hr : ∀ r ∈ ls, r.length = 2) (hn : ls.length ≤ 1000) {out : List (List Int)} (hout : out.length ≤ 1000) {i : Nat} (hi : i < ls.length) {f : Nat → Int} {k0 : Nat} {r : List (List Int)}
    (hend : ∀ V : Nat → Bool, (∀ x, V x = true ↔ Conn ls i x) → Ev (fun k => impl_groups.l1 k (out ++ [[]]) (tab ls.length (lab V (k0 : Int) f)) (ls.length : Int) (wrap64 ((i : Int) + 1)) ls) r) :
    ∀ (M : Nat) (V : Nat → Bool) (q : List Nat), Bfs ls i f V none 0 q → 2 * miss ls.length V + q.length ≤ M → M ≤ 100000 → Ev (fun k => impl_groups.l2 k out (tab ls.length (lab V (k0 : Int) f)) (k0 : Int) (ls.length : Int) (i : Int) ls (castL q)) r := by
  intro M
  induction M with
  | zero =>
    intro V q hb hm hM
    have hq : q = [] := List.length_eq_zero_iff.1 (by omega)
    subst hq
    refine Ev.succ ?_
    have h1 : ¬ (((castL []).length : Int) > 0) := by simp [castL]
    have h2 : out.length < 5864062014805 := by omega
    simp only [impl_groups.l2, h1, ↓reduceIte, h2]
    refine hend V fun x => conn_of_closed hb.start hb.conn ?_ x
    intro j k hj hk hjk
    exact hb.closed j k hj (by simp) (by simp) hk hjk
  | succ M ih =>
    intro V q hb hm hM
    cases q with
    | nil =>
      refine Ev.succ ?_
      have h1 : ¬ (((castL []).length : Int) > 0) := by simp [castL]
      have h2 : out.length < 5864062014805 := by omega
      simp only [impl_groups.l2, h1, ↓reduceIte, h2]
      refine hend V fun x => conn_of_closed hb.start hb.conn ?_ x
      intro j k hj hk hjk
      exact hb.closed j k hj (by simp) (by simp) hk hjk
    | cons t q =>
      refine Ev.succ ?_
      have h1 : (((castL (t :: q)).length : Nat) : Int) > 0 := by unfold castL; rw [List.length_map, List.length_cons]; omega
      simp only [impl_groups.l2, h1, ↓reduceIte]
      rw [List.length_cons] at hm
      refine groups_l3 hr hn hi (M := M) (t := t) (fun V' q' hb' hm' => ih V' q' hb' hm' (by omega)) ls.length 0 (by omega) V q ?_ (by omega) (by omega)
      refine ⟨hb.start, hb.conn, hb.free, hb.old, fun x hx => hb.mem x (List.mem_cons_of_mem _ hx), fun x hx => ?_, ?_, (fun x y _ hy => by omega)⟩
      · injection hx with hx
        subst hx
        exact hb.mem t (by simp)
      · intro x y hx hxt hxq hy hxy
        refine hb.closed x y hx (by simp) ?_ hy hxy
        intro h
        rcases List.mem_cons.1 h with rfl | h
        · exact hxt rfl
        · exact hxq h
/-- Which of these the index hangs together with: its number, or -1. -/
noncomputable def repIx (ls : List (List Int)) (R : List Nat) (j : Nat) : Int := match R.findIdx? (fun r => compB ls r j) with | some k => (k : Int) | none => -1
theorem repIx_neg {ls : List (List Int)} {R : List Nat} {j : Nat} : repIx ls R j < 0 ↔ ∀ r ∈ R, ¬ Conn ls r j := by
  unfold repIx
  cases h : R.findIdx? (fun r => compB ls r j) with
  | none =>
    rw [List.findIdx?_eq_none_iff] at h
    simp only [show (-1 : Int) < 0 from by decide, true_iff]
    intro r hr hc
    have := h r hr
    rw [compB_iff.2 hc] at this
    cases this
  | some k =>
    have h' := List.findIdx?_eq_some_iff_getElem.1 h
    obtain ⟨hk, h1, _⟩ := h'
    constructor
    · intro h2
      simp only at h2
      omega
    · intro h2
      exact absurd (compB_iff.1 h1) (h2 _ (List.getElem_mem hk))
theorem repIx_range {ls : List (List Int)} {R : List Nat} {j : Nat} : repIx ls R j < (R.length : Int) := by
  unfold repIx
  cases h : R.findIdx? (fun r => compB ls r j) with
  | none => simp only; omega
  | some k =>
    obtain ⟨hk, _, _⟩ := List.findIdx?_eq_some_iff_getElem.1 h
    simp only
    omega
theorem repIx_snoc {ls : List (List Int)} {R : List Nat} {i j : Nat} (hno : ∀ r ∈ R, ∀ x, Conn ls r x → ¬ Conn ls i x) : repIx ls (R ++ [i]) j = if compB ls i j = true then (R.length : Int) else repIx ls R j := by
  unfold repIx
  rw [List.findIdx?_append]
  cases h : R.findIdx? (fun r => compB ls r j) with
  | some k =>
    obtain ⟨hk, h1, _⟩ := List.findIdx?_eq_some_iff_getElem.1 h
    have h2 : ¬ Conn ls i j := hno _ (List.getElem_mem hk) j (compB_iff.1 h1)
    have h3 : compB ls i j = false := by
      cases h4 : compB ls i j with
      | false => rfl
      | true => exact absurd (compB_iff.1 h4) h2
    simp [h3]
  | none =>
    cases h4 : compB ls i j with
    | true => simp [List.findIdx?_cons, h4]
    | false => simp [List.findIdx?_cons, h4]
theorem groups_l4 {ls : List (List Int)} (hn : ls.length ≤ 1000) {R : List Nat} {f : Nat → Int} (hf0 : ∀ j, j < ls.length → 0 ≤ f j) (hf1 : ∀ j, j < ls.length → f j < (R.length : Int)) :
    Ev (fun k => impl_groups.l4 k (R.map fun _ => []) (tab ls.length f) (ls.length : Int) 0) ((List.range R.length).map fun k : Nat => setV ls.length (fun j => decide (f j = (k : Int)))) := by
  suffices H : ∀ d i : Nat, i + d = ls.length → Ev (fun k => impl_groups.l4 k ((List.range R.length).map fun k : Nat => setV i (fun j => decide (f j = (k : Int)))) (tab ls.length f) (ls.length : Int) (i : Int)) ((List.range R.length).map fun k : Nat => setV ls.length (fun j => decide (f j = (k : Int)))) by
    have h := H ls.length 0 (by omega)
    have e : (List.range R.length).map (fun k : Nat => setV 0 (fun j => decide (f j = (k : Int)))) = R.map fun _ => ([] : List Int) := by
      simp [setV, List.map_const']
    rw [e] at h
    exact h
  intro d
  induction d with
  | zero =>
    intro i hi
    refine Ev.succ ?_
    have h1 : ¬ ((i : Int) < (ls.length : Int)) := by omega
    obtain rfl : i = ls.length := by omega
    simp only [impl_groups.l4, h1, ↓reduceIte]
    exact Ev.now _
  | succ d ih =>
    intro i hi
    refine Ev.succ ?_
    have hi1 : i < ls.length := by omega
    have h1 : (i : Int) < (ls.length : Int) := by omega
    have h2 : (0 : Int) ≤ (i : Int) := by omega
    have h3 : (i : Int) < ((tab ls.length f).length : Int) := by rw [tab_length]; omega
    have hw : wrap64 ((i : Int) + 1) = ((i + 1 : Nat) : Int) := by rw [w64 (by omega) (by omega)]; rfl
    have f0 := hf0 i hi1
    have f1 := hf1 i hi1
    have h5 : f i < ((((List.range R.length).map fun k : Nat => setV i (fun j => decide (f j = (k : Int)))).length : Nat) : Int) := by rw [List.length_map, List.length_range]; exact f1
    obtain ⟨m, hm⟩ : ∃ m : Nat, f i = (m : Int) := ⟨(f i).toNat, by omega⟩
    have hmR : m < R.length := by omega
    have e1 : impl_groups.row ((List.range R.length).map fun k : Nat => setV i (fun j => decide (f j = (k : Int)))) (m : Int) = setV i (fun j => decide (f j = (m : Int))) := by
      unfold impl_groups.row
      rw [Int.toNat_natCast, List.getD_eq_getElem?_getD, List.getElem?_map, List.getElem?_range hmR]
      rfl
    rw [hm] at h5 f0
    have h6 : (setV i (fun j => decide (f j = (m : Int)))).length < 17592186044416 := by have := setV_length_le i (fun j => decide (f j = (m : Int))); omega
    simp only [impl_groups.l4, h1, h2, h3, ↓reduceIte, hw, rd_tab hi1, hm, f0, h5, e1, h6]
    have e2 : ((List.range R.length).map fun k : Nat => setV i (fun j => decide (f j = (k : Int)))).set ((m : Int)).toNat (setV i (fun j => decide (f j = (m : Int))) ++ [(i : Int)]) = (List.range R.length).map fun k : Nat => setV (i + 1) (fun j => decide (f j = (k : Int))) := by
      apply List.ext_getElem
      · simp
      · intro y y1 y2
        rw [List.length_map, List.length_range] at y2
        rw [List.getElem_set]
        simp only [Int.toNat_natCast, List.getElem_map, List.getElem_range]
        have es : ∀ S : Nat → Bool, setV (i + 1) S = setV i S ++ (if S i = true then [(i : Int)] else []) := by
          intro S
          unfold setV
          rw [List.range_succ, List.filter_append, List.map_append]
          by_cases c : S i = true <;> simp [c]
        rw [es]
        by_cases c : m = y
        · subst c
          simp [hm]
        · have c' : ¬ ((m : Int) = (y : Int)) := by omega
          simp [c, hm, c']
    rw [e2]
    exact ih (i + 1) (by omega)
theorem groups_l1 {ls : List (List Int)} (hr : ∀ r ∈ ls, r.length = 2) (hn : ls.length ≤ 1000) : ∀ d i : Nat, i + d = ls.length →
    Ev (fun k => impl_groups.l1 k ((repsV ls i).map fun _ => []) (tab ls.length (repIx ls (repsV ls i))) (ls.length : Int) (i : Int) ls) (groupsV ls) := by
  intro d
  induction d with
  | zero =>
    intro i hi
    refine Ev.succ ?_
    have h1 : ¬ ((i : Int) < (ls.length : Int)) := by omega
    obtain rfl : i = ls.length := by omega
    simp only [impl_groups.l1, h1, ↓reduceIte, tab_length]
    have h := groups_l4 hn (R := repsV ls ls.length) (f := repIx ls (repsV ls ls.length)) ?_ (fun j _ => repIx_range)
    · refine (Eq.mp (congrArg (Ev _) ?_) h)
      unfold groupsV
      apply List.ext_getElem
      · simp
      · intro m m1 m2
        rw [List.length_map] at m2
        rw [List.getElem_map, List.getElem_map, List.getElem_range]
        refine setV_congr fun j hj => ?_
        obtain ⟨g1, g2⟩ := repsV_mem.1 (List.getElem_mem m2)
        rw [Bool.eq_iff_iff, compB_iff, decide_eq_true_eq]
        unfold repIx
        constructor
        · intro e
          cases h : (repsV ls ls.length).findIdx? (fun r => compB ls r j) with
          | none => rw [h] at e; simp only at e; omega
          | some k =>
            rw [h] at e
            simp only at e
            have : k = m := by omega
            subst this
            obtain ⟨_, e1, _⟩ := List.findIdx?_eq_some_iff_getElem.1 h
            exact compB_iff.1 e1
        · intro hc
          cases h : (repsV ls ls.length).findIdx? (fun r => compB ls r j) with
          | none =>
            rw [List.findIdx?_eq_none_iff] at h
            have := h _ (List.getElem_mem m2)
            rw [compB_iff.2 hc] at this
            cases this
          | some k =>
            obtain ⟨hk, e1, _⟩ := List.findIdx?_eq_some_iff_getElem.1 h
            obtain ⟨g3, g4⟩ := repsV_mem.1 (List.getElem_mem hk)
            have e2 := least_conn g3 g1 g4 g2 (compB_iff.1 e1) hc
            have hnd : (repsV ls ls.length).Nodup := by unfold repsV; exact List.Pairwise.filter _ List.nodup_range
            have : k = m := (List.getElem_inj hnd).1 e2
            simp only [this]
    · intro j hj
      rcases Int.lt_or_le (repIx ls (repsV ls ls.length) j) 0 with h | h
      · exfalso
        obtain ⟨r, h1, h2, h3⟩ := has_rep hj
        exact repIx_neg.1 h r (repsV_mem.2 ⟨by omega, h2⟩) h3
      · exact h
  | succ d ih =>
    intro i hi
    refine Ev.succ ?_
    have hi1 : i < ls.length := by omega
    have h1 : (i : Int) < (ls.length : Int) := by omega
    have h2 : (0 : Int) ≤ (i : Int) := by omega
    have h3 : (i : Int) < ((tab ls.length (repIx ls (repsV ls i))).length : Int) := by rw [tab_length]; omega
    have hw : wrap64 ((i : Int) + 1) = ((i + 1 : Nat) : Int) := by rw [w64 (by omega) (by omega)]; rfl
    have ih' := ih (i + 1) (by omega)
    simp only [impl_groups.l1, h1, h2, h3, ↓reduceIte, rd_tab hi1]
    by_cases c : repIx ls (repsV ls i) i ≥ 0
    · simp only [c, ↓reduceIte, hw]
      have hL : ¬ Least ls i := by
        intro hl
        have hng : repIx ls (repsV ls i) i < 0 := repIx_neg.2 fun r hr' hc => by
          have := repsV_mem.1 hr'
          exact hl r this.1 (hc.symm (by omega))
        omega
      have hB : ¬ leastB ls i = true := fun h => hL (leastB_iff.1 h)
      rw [repsV_succ, if_neg hB, List.append_nil] at ih'
      exact ih'
    · simp only [c, ↓reduceIte]
      have hneg : ∀ r ∈ repsV ls i, ¬ Conn ls r i := repIx_neg.1 (by omega)
      have hL : Least ls i := by
        intro j hj hc
        obtain ⟨r, r1, r2, r3⟩ := has_rep (show j < ls.length by omega)
        exact hneg r (repsV_mem.2 ⟨by omega, r2⟩) (r3.trans (hc.symm hi1))
      have hB : leastB ls i = true := leastB_iff.2 hL
      have hno : ∀ r ∈ repsV ls i, ∀ x, Conn ls r x → ¬ Conn ls i x := by
        intro r hr' x hx hix
        have hrr := repsV_mem.1 hr'
        exact hneg r hr' (hx.trans (hix.symm hi1))
      have hl := repsV_length_le ls i
      have e1 : ((((repsV ls i).map fun _ => ([] : List Int)).length : Nat) : Int) = ((repsV ls i).length : Int) := by rw [List.length_map]
      rw [e1]
      have e2 : (tab ls.length (repIx ls (repsV ls i))).set ((i : Int)).toNat ((repsV ls i).length : Int) = tab ls.length (lab (fun x => decide (x = i)) ((repsV ls i).length : Int) (repIx ls (repsV ls i))) := by
        rw [Int.toNat_natCast, tab_set]
        refine tab_congr fun y _ => ?_
        unfold lab
        by_cases c : y = i <;> simp [c]
      rw [e2, show ([(i : Int)] : List Int) = castL [i] from rfl]
      refine groups_l2 hr hn (by rw [List.length_map]; omega) hi1 ?_ (2 * miss ls.length (fun x => decide (x = i)) + 1) _ [i] ?_ (by simp) (by have := miss_le ls.length (fun x => decide (x = i)); omega)
      · intro V hV
        rw [hw]
        rw [repsV_succ, if_pos hB, List.map_append] at ih'
        have e3 : tab ls.length (lab V ((repsV ls i).length : Int) (repIx ls (repsV ls i))) = tab ls.length (repIx ls (repsV ls i ++ [i])) := by
          refine tab_congr fun y _ => ?_
          rw [repIx_snoc hno]
          unfold lab
          have : V y = compB ls i y := by rw [Bool.eq_iff_iff, hV, compB_iff]
          rw [this]
        rw [e3]
        exact ih'
      · refine ⟨by simp, ?_, ?_, ?_, ?_, (fun x hx => by cases hx), ?_, (fun x y hx => by cases hx)⟩
        · intro x hx
          exact (show x = i by simpa using hx) ▸ Conn.refl
        · intro x hx
          have : x = i := by simpa using hx
          subst this
          omega
        · intro x hx h0 hix
          have h4 : ¬ (repIx ls (repsV ls i) x < 0) := by omega
          rw [repIx_neg] at h4
          exact h4 fun r hr' hrx => hno r hr' x hrx hix
        · intro x hx
          simpa using hx
        · intro x y hx _ hxq
          have : x = i := by simpa using hx
          subst this
          exact absurd (by simp) hxq
theorem impl_groups_ev (ls : List (List Int)) (hr : ∀ r ∈ ls, r.length = 2) (hn : ls.length ≤ 1000) : Ev (fun k => impl_groups.f k ls) (groupsV ls) := by
  unfold impl_groups.f
  have h1 : (0 : Int) ≤ (ls.length : Int) := by omega
  have h2 : ls.length ≤ 35184372088832 := by omega
  simp only [h1, ↓reduceIte, Option.bind_some, Int.toNat_natCast, List.length_replicate, h2]
  suffices H : ∀ d i : Nat, i + d = ls.length → Ev (fun k => impl_groups.l0 k [] (tab ls.length (fun j => if j < i then -1 else 0)) (ls.length : Int) (i : Int) ls) (groupsV ls) by
    have h := H ls.length 0 (by omega)
    have e : tab ls.length (fun j => if j < 0 then -1 else 0) = List.replicate ls.length 0 := by
      apply List.ext_getElem <;> simp [tab]
    rw [e] at h
    exact h
  intro d
  induction d with
  | zero =>
    intro i hi
    refine Ev.succ ?_
    have h1 : ¬ ((i : Int) < (ls.length : Int)) := by omega
    simp only [impl_groups.l0, h1, ↓reduceIte]
    have h := groups_l1 hr hn ls.length 0 (by omega)
    have e0 : repsV ls 0 = [] := rfl
    rw [e0] at h
    have e : tab ls.length (fun j => if j < i then -1 else 0) = tab ls.length (repIx ls []) := by
      refine tab_congr fun j hj => ?_
      rw [if_pos (by omega)]
      rfl
    rw [e]
    exact h
  | succ d ih =>
    intro i hi
    refine Ev.succ ?_
    have h1 : (i : Int) < (ls.length : Int) := by omega
    have h2 : (0 : Int) ≤ (i : Int) := by omega
    have h3 : (i : Int) < ((tab ls.length (fun j => if j < i then -1 else 0)).length : Int) := by rw [tab_length]; omega
    have hw : wrap64 ((i : Int) + 1) = ((i + 1 : Nat) : Int) := by rw [w64 (by omega) (by omega)]; rfl
    simp only [impl_groups.l0, h1, h2, h3, ↓reduceIte, hw]
    have e : (tab ls.length (fun j => if j < i then -1 else 0)).set ((i : Int)).toNat (-1) = tab ls.length (fun j => if j < i + 1 then -1 else 0) := by
      rw [Int.toNat_natCast, tab_set]
      refine tab_congr fun y _ => ?_
      by_cases c : y = i
      · subst c; simp
      · by_cases c2 : y < i
        · simp [c, c2, show y < i + 1 from by omega]
        · simp [c, c2, show ¬ y < i + 1 from by omega]
    rw [e]
    exact ih (i + 1) (by omega)
def cellsV (ls : List (List Int)) (l : List Int) : List Int := l.flatMap fun i => [rd (ls.getD i.toNat []) 0, rd (ls.getD i.toNat []) 1]
def wideV (ls : List (List Int)) (l : List Int) : Int := ((putAll ltI (cellsV ls l) []).length : Int)
theorem putAll_length_le {α : Type} [DecidableEq α] (lt : α → α → Bool) (xs : List α) : ∀ l : List α, (putAll lt xs l).length ≤ xs.length + l.length := by
  induction xs with
  | nil => intro l; simp [putAll]
  | cons x r ih =>
    intro l
    have h1 := ih (putG lt x l)
    have h2 := putG_length_le (lt := lt) x l
    unfold putAll at h1 ⊢
    rw [List.foldl_cons, List.length_cons]
    omega
theorem cellsV_length (ls : List (List Int)) (l : List Int) : (cellsV ls l).length = 2 * l.length := by
  unfold cellsV
  induction l with
  | nil => rfl
  | cons a r ih => rw [List.flatMap_cons, List.length_append, ih, List.length_cons]; simp; omega
theorem cellsV_snoc (ls : List (List Int)) (l : List Int) (i : Nat) (h : i < l.length) : cellsV ls (l.take (i + 1)) = cellsV ls (l.take i) ++ [rd (ls.getD (rd l (i : Int)).toNat []) 0, rd (ls.getD (rd l (i : Int)).toNat []) 1] := by
  unfold cellsV
  rw [List.take_succ_eq_append_getElem h, List.flatMap_append, rd_nat l i h]
  simp
theorem getD_row2 {ls : List (List Int)} (hr : ∀ r ∈ ls, r.length = 2) {x : Int} (h0 : 0 ≤ x) (h1 : x < (ls.length : Int)) : (ls.getD x.toNat []).length = 2 := by
  rw [List.getD_eq_getElem?_getD, List.getElem?_eq_getElem (show x.toNat < ls.length by omega)]
  exact hr _ (List.getElem_mem _)
theorem addI_all (xs : List Int) : ∀ acc : List Int, acc.Nodup → (xs.foldl Go.Proofs.Ytlkbffkafpaooaa.Seen.addI acc).Nodup ∧ ∀ x, x ∈ xs.foldl Go.Proofs.Ytlkbffkafpaooaa.Seen.addI acc ↔ x ∈ xs ∨ x ∈ acc := by
  induction xs with
  | nil => intro acc h; exact ⟨h, fun x => by simp⟩
  | cons a r ih =>
    intro acc h
    rw [List.foldl_cons]
    have hn : (Go.Proofs.Ytlkbffkafpaooaa.Seen.addI acc a).Nodup ∧ ∀ x, x ∈ Go.Proofs.Ytlkbffkafpaooaa.Seen.addI acc a ↔ x = a ∨ x ∈ acc := by
      unfold Go.Proofs.Ytlkbffkafpaooaa.Seen.addI
      by_cases c : a ∈ acc
      · rw [if_pos c]
        refine ⟨h, fun x => ⟨.inr, ?_⟩⟩
        rintro (rfl | hx)
        · exact c
        · exact hx
      · rw [if_neg c]
        refine ⟨?_, fun x => by simp [or_comm]⟩
        rw [List.nodup_append]
        refine ⟨h, by simp, ?_⟩
        intro x hx y hy e
        simp at hy
        subst hy
        exact c (e ▸ hx)
    obtain ⟨h1, h2⟩ := ih _ hn.1
    refine ⟨h1, fun x => ?_⟩
    rw [h2, hn.2, List.mem_cons]
    constructor
    · rintro (h | h | h)
      · exact .inl (.inr h)
      · exact .inl (.inl h)
      · exact .inr h
    · rintro ((h | h) | h)
      · exact .inr (.inl h)
      · exact .inl h
      · exact .inr (.inr h)
theorem addI_length (xs : List Int) : (xs.foldl Go.Proofs.Ytlkbffkafpaooaa.Seen.addI []).length = (putAll ltI xs []).length := by
  obtain ⟨h1, h2⟩ := addI_all xs [] (by simp)
  have h3 : (putAll ltI xs []).Nodup := (putAll_rising linI xs (by simp [Rising])).nodup linI
  have h4 : ∀ x, x ∈ xs.foldl Go.Proofs.Ytlkbffkafpaooaa.Seen.addI [] ↔ x ∈ putAll ltI xs [] := by
    intro x
    rw [h2, mem_putAll]
  exact ((List.perm_ext_iff_of_nodup h1 h3).2 h4).length_eq
def wideN (ls : List (List Int)) (g : List Int) : Nat := (putAll ltI (cellsV ls g) []).length
theorem wideV_eq (ls : List (List Int)) (g : List Int) : wideV ls g = (wideN ls g : Int) := rfl
theorem groupsV_mem {ls : List (List Int)} {g : List Int} (h : g ∈ groupsV ls) : (∀ x ∈ g, 0 ≤ x ∧ x < (ls.length : Int)) ∧ g.length ≤ ls.length := by
  unfold groupsV at h
  obtain ⟨r, _, rfl⟩ := List.mem_map.1 h
  refine ⟨fun x hx => ?_, setV_length_le _ _⟩
  obtain ⟨y, rfl, hy, _⟩ := setV_mem hx
  omega
theorem groupsV_length_le (ls : List (List Int)) : (groupsV ls).length ≤ ls.length := by
  unfold groupsV
  rw [List.length_map]
  exact repsV_length_le _ _
def least1 (ls : List (List Int)) (g : List Int) : Nat := min g.length (wideN ls g)
def sumL (ls : List (List Int)) (gs : List (List Int)) : Nat := (gs.map (least1 ls)).sum
theorem sumL_snoc (ls : List (List Int)) (gs : List (List Int)) (i : Nat) (h : i < gs.length) : sumL ls (gs.take (i + 1)) = sumL ls (gs.take i) + least1 ls gs[i] := by
  unfold sumL
  rw [List.take_succ_eq_append_getElem h, List.map_append, List.sum_append]
  simp
theorem sumL_le {ls : List (List Int)} {N : Nat} {gs : List (List Int)} (h : ∀ g ∈ gs, g.length ≤ N) : sumL ls gs ≤ gs.length * N := by
  induction gs with
  | nil => simp [sumL]
  | cons g r ih =>
    have h1 := ih (fun x hx => h x (List.mem_cons_of_mem _ hx))
    have h2 := h g (by simp)
    have h3 : least1 ls g ≤ N := Nat.le_trans (Nat.min_le_left _ _) h2
    unfold sumL at h1 ⊢
    rw [List.map_cons, List.sum_cons, List.length_cons, Nat.succ_mul]
    omega
noncomputable def mostV (ls : List (List Int)) : Nat := sumL ls (groupsV ls)
theorem sumL_small {ls : List (List Int)} (hn : ls.length ≤ 1000) (i : Nat) : sumL ls ((groupsV ls).take i) ≤ 1000000 := by
  have h1 := sumL_le (ls := ls) (N := 1000) (gs := (groupsV ls).take i) (fun g hg => by have := (groupsV_mem (List.mem_of_mem_take hg)).2; omega)
  have h2 : ((groupsV ls).take i).length ≤ 1000 := by rw [List.length_take]; have := groupsV_length_le ls; omega
  have h3 : ((groupsV ls).take i).length * 1000 ≤ 1000 * 1000 := Nat.mul_le_mul_right _ h2
  omega
theorem sum_map_add {α : Type} (f g : α → Nat) (l : List α) : (l.map fun x => f x + g x).sum = (l.map f).sum + (l.map g).sum := by
  induction l with
  | nil => rfl
  | cons a r ih => rw [List.map_cons, List.map_cons, List.map_cons, List.sum_cons, List.sum_cons, List.sum_cons, ih]; omega
theorem one_sum {R : List Nat} {P : Nat → Bool} {r0 : Nat} (hnd : R.Nodup) (h0 : r0 ∈ R) (hP : ∀ r ∈ R, P r = true ↔ r = r0) : (R.map fun r => if P r = true then 1 else 0).sum = 1 := by
  have hz : ∀ l : List Nat, (∀ r ∈ l, P r = false) → (l.map fun r => if P r = true then 1 else 0).sum = 0 := by
    intro l
    induction l with
    | nil => intro _; rfl
    | cons a r ih =>
      intro h
      rw [List.map_cons, List.sum_cons, ih (fun x hx => h x (List.mem_cons_of_mem _ hx)), h a (by simp)]
      rfl
  induction R with
  | nil => cases h0
  | cons a R ih =>
    rw [List.nodup_cons] at hnd
    rw [List.map_cons, List.sum_cons]
    by_cases c : a = r0
    · rw [if_pos ((hP a (by simp)).2 c), hz R]
      intro r hr
      cases h : P r with
      | false => rfl
      | true =>
        have := (hP r (List.mem_cons_of_mem _ hr)).1 h
        exact absurd hr (by rw [this, ← c]; exact hnd.1)
    · have h1 : r0 ∈ R := by
        rcases List.mem_cons.1 h0 with h | h
        · exact absurd h.symm c
        · exact h
      have h2 : ¬ P a = true := fun h => c ((hP a (by simp)).1 h)
      rw [if_neg h2, ih hnd.2 h1 (fun r hr => hP r (List.mem_cons_of_mem _ hr))]
theorem setV_succ (m : Nat) (S : Nat → Bool) : (setV (m + 1) S).length = (setV m S).length + (if S m = true then 1 else 0) := by
  unfold setV
  rw [List.range_succ, List.filter_append, List.map_append, List.length_append]
  by_cases c : S m = true <;> simp [c]
theorem groups_sum (ls : List (List Int)) : ∀ m : Nat, m ≤ ls.length → ((repsV ls ls.length).map fun r => (setV m (compB ls r)).length).sum = m := by
  intro m
  induction m with
  | zero =>
    intro _
    have : ∀ l : List Nat, (l.map fun r => (setV 0 (compB ls r)).length).sum = 0 := by
      intro l
      induction l with
      | nil => rfl
      | cons a r ih => rw [List.map_cons, List.sum_cons, ih]; rfl
    exact this _
  | succ m ih =>
    intro hm
    have e : ((repsV ls ls.length).map fun r => (setV (m + 1) (compB ls r)).length) = ((repsV ls ls.length).map fun r => (setV m (compB ls r)).length + (if compB ls r m = true then 1 else 0)) := List.map_congr_left fun r _ => setV_succ m _
    rw [e, sum_map_add, ih (by omega)]
    obtain ⟨r0, h1, h2, h3⟩ := has_rep (show m < ls.length by omega)
    have hnd : (repsV ls ls.length).Nodup := by unfold repsV; exact List.Pairwise.filter _ List.nodup_range
    rw [one_sum hnd (repsV_mem.2 ⟨by omega, h2⟩)]
    intro r hr
    obtain ⟨g1, g2⟩ := repsV_mem.1 hr
    rw [compB_iff]
    constructor
    · intro h
      exact least_conn g1 (by omega) g2 h2 h h3
    · intro h
      rw [h]
      exact h3
theorem groups_total (ls : List (List Int)) : ((groupsV ls).map List.length).sum = ls.length := by
  have h := groups_sum ls ls.length (Nat.le_refl _)
  unfold groupsV
  rw [List.map_map]
  exact h
theorem sumL_total (ls : List (List Int)) (gs : List (List Int)) : sumL ls gs ≤ (gs.map List.length).sum ∧ (sumL ls gs = (gs.map List.length).sum ↔ ∀ g ∈ gs, g.length ≤ wideN ls g) := by
  induction gs with
  | nil => simp [sumL]
  | cons g r ih =>
    have e : sumL ls (g :: r) = least1 ls g + sumL ls r := by unfold sumL; rw [List.map_cons, List.sum_cons]
    rw [e, List.map_cons, List.sum_cons]
    have h1 : least1 ls g ≤ g.length := Nat.min_le_left _ _
    refine ⟨by omega, ?_⟩
    constructor
    · intro h x hx
      have h2 : sumL ls r = (r.map List.length).sum := by omega
      have h3 : least1 ls g = g.length := by omega
      rcases List.mem_cons.1 hx with rfl | hx
      · unfold least1 at h3
        omega
      · exact ih.2.1 h2 x hx
    · intro h
      have h2 := ih.2.2 fun x hx => h x (List.mem_cons_of_mem _ hx)
      have h3 := h g (by simp)
      unfold least1
      omega
noncomputable def fitsB (ls : List (List Int)) : Bool := (groupsV ls).all fun g => decide (g.length ≤ wideN ls g)
theorem mostV_le (ls : List (List Int)) : mostV ls ≤ ls.length := by
  have h := (sumL_total ls (groupsV ls)).1
  rw [groups_total] at h
  exact h
theorem fits_iff (ls : List (List Int)) : mostV ls = ls.length ↔ fitsB ls = true := by
  have h := (sumL_total ls (groupsV ls)).2
  rw [groups_total] at h
  unfold mostV fitsB
  rw [h, List.all_eq_true]
  constructor
  · intro h x hx
    exact decide_eq_true (h x hx)
  · intro h x hx
    exact of_decide_eq_true (h x hx)
theorem fits_lt (ls : List (List Int)) : decide (((mostV ls : Nat) : Int) < (ls.length : Int)) = !fitsB ls := by
  have h1 := mostV_le ls
  have h2 := fits_iff ls
  cases h : fitsB ls with
  | true => rw [h] at h2; have := h2.2 rfl; exact decide_eq_false (by omega)
  | false =>
    rw [h] at h2
    refine decide_eq_true ?_
    have : mostV ls ≠ ls.length := fun e => by have := h2.1 e; cases this
    omega
def crowdB (ls : List (List Int)) (g : List Int) : Bool := decide (wideV ls g < (g.length : Int))
theorem laws_eqStringS_self (l : List ByteArray) (hl : l.length ≤ 9223372036854775807) : Ev (fun k => laws_eqStringS.f k l l) true := by
  unfold laws_eqStringS.f
  simp only [↓reduceIte]
  refine Ev.up (L := fun k i => laws_eqStringS.l0 k l l (i : Int)) (r := fun _ => true) l.length ?_ ?_ 0 (Nat.zero_le _)
  · refine Ev.succ ?_
    have h1 : ¬ ((l.length : Int) < (l.length : Int)) := by omega
    simp only [laws_eqStringS.l0, h1, ↓reduceIte]
    exact Ev.now _
  · intro i hi ih
    refine Ev.succ ?_
    have h1 : (i : Int) < (l.length : Int) := by omega
    have h2 : (0 : Int) ≤ (i : Int) := by omega
    have hw : wrap64 ((i : Int) + 1) = ((i + 1 : Nat) : Int) := by rw [w64 (by omega) (by omega)]; rfl
    simp only [laws_eqStringS.l0, h1, h2, ↓reduceIte, hw]
    exact ih
theorem laws_toStringS_l0 (l : List ByteArray) (hl : l.length ≤ 9223372036854775807) (d : Nat) : ∀ (i : Nat) (o : List ByteArray), o.length = l.length → o.take i = l.take i → i + d = l.length → Ev (fun k => laws_toStringS.l0 k l o (i : Int)) l := by
  induction d with
  | zero =>
    intro i o ho ht hi
    refine Ev.succ ?_
    have h1 : ¬ ((i : Int) < (l.length : Int)) := by omega
    simp only [laws_toStringS.l0, h1, ↓reduceIte]
    rw [List.take_of_length_le (by omega), List.take_of_length_le (by omega)] at ht
    exact Ev.some_ ht
  | succ d ih =>
    intro i o ho ht hi
    refine Ev.succ ?_
    have h1 : (i : Int) < (l.length : Int) := by omega
    have h2 : (0 : Int) ≤ (i : Int) := by omega
    have h3 : (i : Int) < (o.length : Int) := by omega
    have hw : wrap64 ((i : Int) + 1) = ((i + 1 : Nat) : Int) := by rw [w64 (by omega) (by omega)]; rfl
    simp only [laws_toStringS.l0, h1, h2, h3, ↓reduceIte, hw, Int.toNat_natCast]
    exact ih (i + 1) _ (by simp [ho]) (by rw [take_set_succ _ _ _ (by omega), ht, rdOf_nat _ _ _ (by omega), List.take_succ_eq_append_getElem (by omega)]) (by omega)
theorem laws_toStringS_ev (l : List ByteArray) (hl : l.length ≤ 17592186044416) : Ev (fun k => laws_toStringS.f k l) l := by
  have h1 : 0 ≤ (l.length : Int) := by omega
  have h2 : ((l.length : Int)).toNat ≤ 17592186044416 := by omega
  simp only [laws_toStringS.f, h1, h2, ↓reduceIte]
  exact laws_toStringS_l0 l (by omega) l.length 0 _ (by simp) (by simp) (by omega)
def szT : List ByteArray → Int → Int
  | [], m => m
  | s :: r, m => if m - (s.size : Int) < 0 then -1 else szT r (m - (s.size : Int))
theorem szT_le (l : List ByteArray) : ∀ m : Int, 0 ≤ m → szT l m ≤ m := by
  induction l with
  | nil => intro m h; exact Int.le_refl m
  | cons s r ih =>
    intro m h
    unfold szT
    by_cases c : m - (s.size : Int) < 0
    · rw [if_pos c]; omega
    · rw [if_neg c]
      have := ih (m - (s.size : Int)) (by omega)
      omega
theorem szT_sizes (l : List ByteArray) : ∀ m : Int, 0 ≤ szT l m → ∀ s ∈ l, (s.size : Int) ≤ m := by
  induction l with
  | nil => intro m h s hs; cases hs
  | cons x r ih =>
    intro m h s hs
    unfold szT at h
    by_cases c : m - (x.size : Int) < 0
    · rw [if_pos c] at h; omega
    · rw [if_neg c] at h
      rcases List.mem_cons.1 hs with rfl | hs
      · omega
      · have := ih _ h s hs
        omega
theorem laws_szStringS_l0 (l : List ByteArray) (hl : l.length ≤ 9223372036854775807) (hs : ∀ s ∈ l, s.size ≤ 9223372036854775807) (d : Nat) : ∀ (i : Nat) (m : Int), i + d = l.length → 0 ≤ m → m ≤ 1048576 → Ev (fun k => laws_szStringS.l0 k l m (i : Int)) (szT (l.drop i) m) := by
  induction d with
  | zero =>
    intro i m hi m0 m1
    refine Ev.succ ?_
    have h1 : ¬ ((i : Int) < (l.length : Int)) := by omega
    simp only [laws_szStringS.l0, h1, ↓reduceIte]
    exact Ev.some_ (by rw [List.drop_eq_nil_of_le (by omega)]; rfl)
  | succ d ih =>
    intro i m hi m0 m1
    refine Ev.succ ?_
    have h0 : i < l.length := by omega
    have h1 : (i : Int) < (l.length : Int) := by omega
    have h2 : (0 : Int) ≤ (i : Int) := by omega
    have hw : wrap64 ((i : Int) + 1) = ((i + 1 : Nat) : Int) := by rw [w64 (by omega) (by omega)]; rfl
    have hz := hs _ (List.getElem_mem h0)
    have hw2 : wrap64 (m - ((l[i]).size : Int)) = m - ((l[i]).size : Int) := w64 (by omega) (by omega)
    rw [drop_cons l i h0]
    simp only [laws_szStringS.l0, h1, h2, ↓reduceIte, hw, rdOf_nat ByteArray.empty l i h0, hw2, szT]
    by_cases c : m - ((l[i]).size : Int) < 0
    · simp only [c, ↓reduceIte]; exact Ev.now _
    · simp only [c, ↓reduceIte]
      exact ih (i + 1) _ (by omega) (by omega) (by omega)
def szTexts (l : List ByteArray) (m : Int) : Int := if m - (l.length : Int) < 0 then -1 else szT l (m - (l.length : Int))
theorem laws_szStringS_ev (l : List ByteArray) (m : Int) (hl : l.length ≤ 9223372036854775807) (hs : ∀ s ∈ l, s.size ≤ 9223372036854775807) (m0 : 0 ≤ m) (m1 : m ≤ 1048576) : Ev (fun k => laws_szStringS.f k l m) (szTexts l m) := by
  unfold laws_szStringS.f szTexts
  rw [w64 (n := m - (l.length : Int)) (by omega) (by omega)]
  by_cases c : m - (l.length : Int) < 0
  · simp only [c, ↓reduceIte]; exact Ev.now _
  · simp only [c, ↓reduceIte]
    exact laws_szStringS_l0 l hl hs l.length 0 _ (by omega) (by omega) (by omega)
theorem szTexts_of {l : List ByteArray} {m : Int} (h : ¬ szTexts l m < 0) : (l.length : Int) ≤ m ∧ szTexts l m ≤ m ∧ 0 ≤ szTexts l m := by
  have e : szTexts l m = if m - (l.length : Int) < 0 then -1 else szT l (m - (l.length : Int)) := rfl
  by_cases c : m - (l.length : Int) < 0
  · rw [if_pos c] at e; omega
  · rw [if_neg c] at e
    have := szT_le l (m - (l.length : Int)) (by omega)
    omega
theorem strOfNums_one (x : Int) : (strOfNums [x]).size = 1 := by
  simp [strOfNums, ByteArray.size]
theorem laws_markText_l0 (f : Nat) : ∀ (n : Int) (acc : ByteArray), 0 ≤ n → n < 2 ^ f → n ≤ 4611686018427387904 → acc.size + f ≤ 1000 → ∃ r, Ev (fun k => laws_markText.l0 k n acc) r := by
  induction f with
  | zero =>
    intro n acc h0 h1 hn hs
    refine ⟨(⟨#[109]⟩ : ByteArray) ++ acc, Ev.succ ?_⟩
    have c1 : ¬ (n > 0) := by simp at h1; omega
    have c2 : 1 + acc.size ≤ 9223372036854775807 := by omega
    simp only [laws_markText.l0, c1, c2, ↓reduceIte]
    exact Ev.now _
  | succ f ih =>
    intro n acc h0 h1 hn hs
    by_cases c1 : n > 0
    · have e2 : (2 : Int) ^ (f + 1) = 2 * 2 ^ f := by rw [Int.pow_succ, Int.mul_comm]
      have e : wrap64 (Int.tdiv n 10) = n / 10 := by rw [tdiv_pos h0, w64 (by omega) (by omega)]
      have e3 := strOfNums_one ((wrap64 (48 + (Int.tmod n 10))) % 256)
      obtain ⟨r, hr⟩ := ih (n / 10) (strOfNums [(wrap64 (48 + (Int.tmod n 10))) % 256] ++ acc) (by omega) (by omega) (by omega) (by rw [ByteArray.size_append, e3]; omega)
      refine ⟨r, Ev.succ ?_⟩
      have c3 : (strOfNums [(wrap64 (48 + (Int.tmod n 10))) % 256]).size + acc.size ≤ 9223372036854775807 := by rw [e3]; omega
      simp only [laws_markText.l0, c1, ↓reduceIte, Option.bind_some, c3, e]
      exact hr
    · refine ⟨(⟨#[109]⟩ : ByteArray) ++ acc, Ev.succ ?_⟩
      have c2 : 1 + acc.size ≤ 9223372036854775807 := by omega
      simp only [laws_markText.l0, c1, c2, ↓reduceIte]
      exact Ev.now _
theorem laws_markText_some (n : Int) (h0 : 0 ≤ n) (hn : n ≤ 4611686018427387904) : ∃ r, Ev (fun k => laws_markText.f k n) r := by
  unfold laws_markText.f
  by_cases c : n ≤ 0
  · simp only [c, ↓reduceIte]
    exact ⟨_, Ev.now _⟩
  · simp only [c, ↓reduceIte]
    exact laws_markText_l0 63 n ⟨#[]⟩ h0 (by omega) hn (by decide)
theorem laws_markText_fn : ∃ f : Int → ByteArray, ∀ n : Int, 0 ≤ n → n ≤ 4611686018427387904 → Ev (fun k => laws_markText.f k n) (f n) :=
  ⟨fun n => if h : 0 ≤ n ∧ n ≤ 4611686018427387904 then Classical.choose (laws_markText_some n h.1 h.2) else ⟨#[]⟩, fun n h0 hn => by
    have e : (if h : 0 ≤ n ∧ n ≤ 4611686018427387904 then Classical.choose (laws_markText_some n h.1 h.2) else (⟨#[]⟩ : ByteArray)) = Classical.choose (laws_markText_some n h0 hn) := dif_pos ⟨h0, hn⟩
    show Ev _ (if h : 0 ≤ n ∧ n ≤ 4611686018427387904 then Classical.choose (laws_markText_some n h.1 h.2) else (⟨#[]⟩ : ByteArray))
    rw [e]
    exact Classical.choose_spec (laws_markText_some n h0 hn)⟩
theorem laws_markStringS_l0 (f : Int → ByteArray) (hf : ∀ n : Int, 0 ≤ n → n ≤ 4611686018427387904 → Ev (fun k => laws_markText.f k n) (f n)) (m : Int) (n : Nat) (h0 : 0 ≤ m) (hm : m + n ≤ 4611686018427387904) (d : Nat) : ∀ (i : Nat) (l : List ByteArray), l.length = n → l.take i = marksOf f m i → i + d = n → Ev (fun k => laws_markStringS.l0 k l (m + i) (i : Int)) (m + n, marksOf f m n) := by
  induction d with
  | zero =>
    intro i l hl ht hi
    obtain rfl : i = n := by omega
    refine Ev.succ ?_
    have h1 : ¬ ((i : Int) < (l.length : Int)) := by omega
    simp only [laws_markStringS.l0, h1, ↓reduceIte]
    rw [List.take_of_length_le (by omega)] at ht
    exact Ev.some_ (by rw [ht])
  | succ d ih =>
    intro i l hl ht hi
    refine Ev.succ ?_
    have h1 : (i : Int) < (l.length : Int) := by omega
    have h2 : (0 : Int) ≤ (i : Int) := by omega
    have hw : wrap64 ((i : Int) + 1) = ((i + 1 : Nat) : Int) := by rw [w64 (by omega) (by omega)]; rfl
    have hw2 : wrap64 (m + (i : Int) + 1) = m + ((i + 1 : Nat) : Int) := by rw [w64 (by omega) (by omega)]; omega
    simp only [laws_markStringS.l0, h1, h2, ↓reduceIte, hw, hw2, Int.toNat_natCast]
    refine Ev.bind (hf (m + i) (by omega) (by omega)) ?_
    exact ih (i + 1) (l.set i (f (m + i))) (by simp [hl]) (by rw [take_set_succ _ _ _ (by omega), ht, marksOf_succ]) (by omega)
theorem laws_markStringS_ev (f : Int → ByteArray) (hf : ∀ n : Int, 0 ≤ n → n ≤ 4611686018427387904 → Ev (fun k => laws_markText.f k n) (f n)) (l : List ByteArray) (m : Int) (h0 : 0 ≤ m) (hm : m + l.length ≤ 4611686018427387904) : Ev (fun k => laws_markStringS.f k l m) (m + l.length, marksOf f m l.length) := by
  have h := laws_markStringS_l0 f hf m l.length h0 hm l.length 0 l rfl (by simp [marksOf]) (by omega)
  simpa [laws_markStringS.f] using h
theorem laws_markIntS_l0 (m : Int) (n : Nat) (h0 : 0 ≤ m) (hm : m + n ≤ 4611686018427387904) (d : Nat) : ∀ (i : Nat) (l : List Int), l.length = n → l.take i = marks m i → i + d = n → Ev (fun k => laws_markIntS.l0 k l (m + i) (i : Int)) (m + n, marks m n) := by
  induction d with
  | zero =>
    intro i l hl ht hi
    obtain rfl : i = n := by omega
    refine Ev.succ ?_
    have h1 : ¬ ((i : Int) < (l.length : Int)) := by omega
    simp only [laws_markIntS.l0, h1, ↓reduceIte]
    rw [List.take_of_length_le (by omega)] at ht
    exact Ev.some_ (by rw [ht])
  | succ d ih =>
    intro i l hl ht hi
    refine Ev.succ ?_
    have h1 : (i : Int) < (l.length : Int) := by omega
    have h2 : (0 : Int) ≤ (i : Int) := by omega
    have hw : wrap64 ((i : Int) + 1) = ((i + 1 : Nat) : Int) := by rw [w64 (by omega) (by omega)]; rfl
    have hw2 : wrap64 (m + (i : Int) + 1) = m + ((i + 1 : Nat) : Int) := by rw [w64 (by omega) (by omega)]; omega
    simp only [laws_markIntS.l0, h1, h2, ↓reduceIte, hw, hw2, Int.toNat_natCast]
    exact ih (i + 1) (l.set i (m + i)) (by simp [hl]) (by rw [take_set_succ _ _ _ (by omega), ht, marks_succ]) (by omega)
theorem laws_markIntS_ev (l : List Int) (m : Int) (h0 : 0 ≤ m) (hm : m + l.length ≤ 4611686018427387904) : Ev (fun k => laws_markIntS.f k l m) (m + l.length, marks m l.length) := by
  have h := laws_markIntS_l0 m l.length h0 hm l.length 0 l rfl (by simp [marks]) (by omega)
  simpa [laws_markIntS.f] using h
theorem laws_heldIntS_ev (m : Int) (n : Nat) (h0 : 0 ≤ m) (hm : m + n ≤ 4611686018427387904) : Ev (fun k => laws_heldIntS.f k (marks m n) m) (m + n) := by
  have h := Ev.up (L := fun k i => laws_heldIntS.l0 k (marks m n) (m + (i : Int)) (i : Int)) (r := fun _ => m + n) n ?_ ?_ 0 (Nat.zero_le _)
  · simpa [laws_heldIntS.f] using h
  · refine Ev.succ ?_
    have h1 : ¬ ((n : Int) < ((marks m n).length : Int)) := by rw [marks_length]; omega
    simp only [laws_heldIntS.l0, h1, ↓reduceIte]
    exact Ev.now _
  · intro i hi ih
    refine Ev.succ ?_
    have h1 : (i : Int) < ((marks m n).length : Int) := by rw [marks_length]; omega
    have h2 : (0 : Int) ≤ (i : Int) := by omega
    have h3 : rd (marks m n) (i : Int) = m + i := by rw [rd_nat _ _ (by rw [marks_length]; exact hi)]; simp [marks]
    have hw : wrap64 ((i : Int) + 1) = ((i + 1 : Nat) : Int) := by rw [w64 (by omega) (by omega)]; rfl
    have hw2 : wrap64 (m + (i : Int) + 1) = m + ((i + 1 : Nat) : Int) := by rw [w64 (by omega) (by omega)]; omega
    simp only [laws_heldIntS.l0, h1, h2, h3, ↓reduceIte, hw, hw2]
    exact ih
theorem laws_eqIntS_self (l : List Int) (hl : l.length ≤ 9223372036854775807) : Ev (fun k => laws_eqIntS.f k l l) true := by
  unfold laws_eqIntS.f
  simp only [↓reduceIte]
  refine Ev.up (L := fun k i => laws_eqIntS.l0 k l l (i : Int)) (r := fun _ => true) l.length ?_ ?_ 0 (Nat.zero_le _)
  · refine Ev.succ ?_
    have h1 : ¬ ((l.length : Int) < (l.length : Int)) := by omega
    simp only [laws_eqIntS.l0, h1, ↓reduceIte]
    exact Ev.now _
  · intro i hi ih
    refine Ev.succ ?_
    have h1 : (i : Int) < (l.length : Int) := by omega
    have h2 : (0 : Int) ≤ (i : Int) := by omega
    have hw : wrap64 ((i : Int) + 1) = ((i + 1 : Nat) : Int) := by rw [w64 (by omega) (by omega)]; rfl
    simp only [laws_eqIntS.l0, h1, h2, ↓reduceIte, hw]
    exact ih

def totL (ls : List (List Int)) : Nat := (ls.map List.length).sum
theorem totL_cons (r : List Int) (ls : List (List Int)) : totL (r :: ls) = r.length + totL ls := by simp [totL]
def marksL : Int → List (List Int) → List (List Int)
 | _, [] => []
 | m, r :: rs => marks m r.length :: marksL (m + (r.length : Int)) rs
theorem marksL_length : ∀ (ls : List (List Int)) (m : Int), (marksL m ls).length = ls.length := by
  intro ls
  induction ls with
  | nil => intro m; rfl
  | cons r rs ih => intro m; rw [marksL, List.length_cons, List.length_cons, ih]
theorem mid_get (pre rs : List (List Int)) (r : List Int) : (pre ++ r :: rs).getD ((pre.length : Nat) : Int).toNat [] = r := by
  rw [Int.toNat_natCast, List.getD_eq_getElem?_getD, List.getElem?_append_right (Nat.le_refl _), Nat.sub_self]
  rfl
theorem mid_set (pre rs : List (List Int)) (r y : List Int) : (pre ++ r :: rs).set ((pre.length : Nat) : Int).toNat y = (pre ++ [y]) ++ rs := by
  rw [Int.toNat_natCast, List.set_append_right (h := Nat.le_refl _), Nat.sub_self, List.set_cons_zero, List.append_assoc]
  rfl
theorem laws_markIntSS_l0 : ∀ (rest pre : List (List Int)) (m : Int), 0 ≤ m → m + (totL rest : Int) ≤ 4611686018427387904 → pre.length + rest.length ≤ 1000000 → Ev (fun k => laws_markIntSS.l0 k (pre ++ rest) m ((pre.length : Nat) : Int)) (m + (totL rest : Int), pre ++ marksL m rest) := by
  intro rest
  induction rest with
  | nil =>
    intro pre m h0 hm hl
    refine Ev.succ ?_
    have h1 : ¬ ((pre.length : Int) < ((pre ++ ([] : List (List Int))).length : Int)) := by rw [List.append_nil]; omega
    simp only [laws_markIntSS.l0, h1, ↓reduceIte]
    exact Ev.some_ (by simp [totL, marksL])
  | cons r rs ih =>
    intro pre m h0 hm hl
    rw [totL_cons] at hm ⊢
    rw [List.length_cons] at hl
    refine Ev.succ ?_
    have h1 : (pre.length : Int) < ((pre ++ r :: rs).length : Int) := by rw [List.length_append, List.length_cons]; omega
    have h2 : (0 : Int) ≤ (pre.length : Int) := by omega
    have hr : laws_markIntSS.row (pre ++ r :: rs) ((pre.length : Nat) : Int) = r := mid_get pre rs r
    simp only [laws_markIntSS.l0, h1, h2, ↓reduceIte, hr]
    refine Ev.bind (laws_markIntS_ev r m h0 (by omega)) ?_
    rw [mid_set, show wrap64 ((pre.length : Int) + 1) = (((pre ++ [marks m r.length]).length : Nat) : Int) from by rw [w64 (by omega) (by omega), List.length_append]; rfl]
    have h := ih (pre ++ [marks m r.length]) (m + (r.length : Int)) (by omega) (by omega) (by rw [List.length_append, List.length_singleton]; omega)
    rw [marksL, show m + ((r.length + totL rs : Nat) : Int) = m + (r.length : Int) + (totL rs : Int) from by omega]
    rw [List.append_assoc, List.singleton_append, List.append_assoc, List.singleton_append] at h
    rw [show (pre ++ [marks m r.length] ++ rs) = pre ++ marks m r.length :: rs from by rw [List.append_assoc, List.singleton_append]]
    exact h
theorem laws_markIntSS_ev (ls : List (List Int)) (h1 : totL ls ≤ 1000000) (h2 : ls.length ≤ 1000000) : Ev (fun k => laws_markIntSS.f k ls 1) (1 + (totL ls : Int), marksL 1 ls) := laws_markIntSS_l0 ls [] 1 (by omega) (by omega) (by rw [List.length_nil]; omega)
theorem laws_heldIntSS_l0 : ∀ (rest pre : List (List Int)) (m : Int), 0 ≤ m → m + (totL rest : Int) ≤ 4611686018427387904 → pre.length + rest.length ≤ 1000000 → Ev (fun k => laws_heldIntSS.l0 k (pre ++ marksL m rest) m ((pre.length : Nat) : Int)) (m + (totL rest : Int)) := by
  intro rest
  induction rest with
  | nil =>
    intro pre m h0 hm hl
    refine Ev.succ ?_
    have h1 : ¬ ((pre.length : Int) < ((pre ++ marksL m []).length : Int)) := by rw [marksL, List.append_nil]; omega
    simp only [laws_heldIntSS.l0, h1, ↓reduceIte]
    exact Ev.some_ (by simp [totL])
  | cons r rs ih =>
    intro pre m h0 hm hl
    rw [totL_cons] at hm ⊢
    rw [List.length_cons] at hl
    refine Ev.succ ?_
    rw [marksL]
    have h1 : (pre.length : Int) < ((pre ++ marks m r.length :: marksL (m + (r.length : Int)) rs).length : Int) := by rw [List.length_append, List.length_cons]; omega
    have h2 : (0 : Int) ≤ (pre.length : Int) := by omega
    have hr : rd_L3 (pre ++ marks m r.length :: marksL (m + (r.length : Int)) rs) ((pre.length : Nat) : Int) = marks m r.length := mid_get pre _ _
    simp only [laws_heldIntSS.l0, h1, h2, ↓reduceIte, hr]
    refine Ev.bind (laws_heldIntS_ev m r.length h0 (by omega)) ?_
    simp only [show ¬ (m + (r.length : Int) < 0) from by omega, ↓reduceIte]
    rw [show wrap64 ((pre.length : Int) + 1) = (((pre ++ [marks m r.length]).length : Nat) : Int) from by rw [w64 (by omega) (by omega), List.length_append]; rfl]
    have h := ih (pre ++ [marks m r.length]) (m + (r.length : Int)) (by omega) (by omega) (by rw [List.length_append, List.length_singleton]; omega)
    rw [show m + ((r.length + totL rs : Nat) : Int) = m + (r.length : Int) + (totL rs : Int) from by omega]
    rw [List.append_assoc, List.singleton_append] at h
    exact h
theorem laws_heldIntSS_ev (ls : List (List Int)) (h1 : totL ls ≤ 1000000) (h2 : ls.length ≤ 1000000) : Ev (fun k => laws_heldIntSS.f k (marksL 1 ls) 1) (1 + (totL ls : Int)) := laws_heldIntSS_l0 ls [] 1 (by omega) (by omega) (by rw [List.length_nil]; omega)
theorem laws_eqIntSS_self (ls : List (List Int)) (h1 : ∀ r ∈ ls, r.length ≤ 1000000) (h2 : ls.length ≤ 1000000) : Ev (fun k => laws_eqIntSS.f k ls ls) true := by
  unfold laws_eqIntSS.f
  simp only [↓reduceIte]
  refine Ev.up (L := fun k i => laws_eqIntSS.l0 k ls ls (i : Int)) (r := fun _ => true) ls.length ?_ ?_ 0 (Nat.zero_le _)
  · refine Ev.succ ?_
    have h1 : ¬ ((ls.length : Int) < (ls.length : Int)) := by omega
    simp only [laws_eqIntSS.l0, h1, ↓reduceIte]
    exact Ev.now _
  · intro i hi ih
    refine Ev.succ ?_
    have h3 : (i : Int) < (ls.length : Int) := by omega
    have h4 : (0 : Int) ≤ (i : Int) := by omega
    have hw : wrap64 ((i : Int) + 1) = ((i + 1 : Nat) : Int) := by rw [w64 (by omega) (by omega)]; rfl
    have e1 : rd_L3 ls (i : Int) = ls[i] := by
      unfold rd_L3
      rw [Int.toNat_natCast, List.getD_eq_getElem?_getD, List.getElem?_eq_getElem hi]
      rfl
    simp only [laws_eqIntSS.l0, h3, h4, ↓reduceIte, hw, e1]
    refine Ev.bind (laws_eqIntS_self _ (by have := h1 _ (List.getElem_mem hi); omega)) ?_
    simp only [↓reduceIte]
    exact ih
noncomputable def keyGroupsV (a : Int) (ks : List ByteArray) (n : Int) : List (List Int) × Bool := if keyedV a ks n = true then (groupsV (pairsV a n ks), true) else ([], false)
theorem keyGroupsV_small (a : Int) (ks : List ByteArray) (n : Int) : (keyGroupsV a ks n).1.length ≤ 1000 ∧ totL (keyGroupsV a ks n).1 ≤ 1000 ∧ ∀ r ∈ (keyGroupsV a ks n).1, r.length ≤ 1000000 := by
  unfold keyGroupsV
  cases h : keyedV a ks n with
  | false => simp [totL]
  | true =>
    have hk40 := (areKeys_of (keyedV_of h).2.2).1
    simp only [↓reduceIte]
    have h1 := groupsV_length_le (pairsV a n ks)
    have h2 := groups_total (pairsV a n ks)
    rw [pairsV_length] at h1 h2
    refine ⟨by omega, by unfold totL; omega, fun r hr => ?_⟩
    have h3 := (groupsV_mem hr).2
    rw [pairsV_length] at h3
    omega
theorem spec_KeyGroups_ev (a : Int) (ks : List ByteArray) (n : Int) (hk : ks.length ≤ 9223372036854775807) (hs : ∀ s ∈ ks, s.size ≤ 9223372036854775807) : Ev (fun k => spec_KeyGroups.f k a ks n) (keyGroupsV a ks n) := by
  unfold spec_KeyGroups.f keyGroupsV
  refine Ev.bind (spec_cuKeyed_ev a ks n hk hs) ?_
  cases h : keyedV a ks n with
  | false => simp only [Bool.false_eq_true, ↓reduceIte]; exact Ev.now _
  | true =>
    simp only [↓reduceIte]
    obtain ⟨⟨a0, a1⟩, ⟨n0, n1⟩, hks⟩ := keyedV_of h
    have hk40 := (areKeys_of hks).1
    refine Ev.bind (spec_cuPairs_ev a n ks (by omega) hs a0 a1 (by omega) (by omega)) ?_
    exact Ev.bind (spec_cuGroups_ev _ (pairsV_two a n ks) (by rw [pairsV_length]; omega)) (Ev.now _)
theorem impl_KeyGroups_ev (a : Int) (ks : List ByteArray) (n : Int) (hk : ks.length ≤ 9223372036854775807) (hs : ∀ s ∈ ks, s.size ≤ 9223372036854775807) : Ev (fun k => impl_KeyGroups.f k a ks n) (keyGroupsV a ks n) := by
  unfold impl_KeyGroups.f keyGroupsV
  refine Ev.bind (impl_pairs_ev a ks n hk hs) ?_
  unfold pairedV
  cases h : keyedV a ks n with
  | false => simp only [Bool.false_eq_true, ↓reduceIte]; exact Ev.now _
  | true =>
    simp only [↓reduceIte]
    obtain ⟨⟨a0, a1⟩, ⟨n0, n1⟩, hks⟩ := keyedV_of h
    have hk40 := (areKeys_of hks).1
    exact Ev.bind (impl_groups_ev _ (pairsV_two a n ks) (by rw [pairsV_length]; omega)) (Ev.now _)
theorem FnExactKeyGroups : ∀ (a0 : Int) (l1 : List ByteArray) (a2 : Int), ((Lit.int .i64 a0).wf = true) → (l1.length ≤ maxLen ∧ ∀ l1' ∈ l1, l1'.size ≤ maxLen) → ((Lit.int .i64 a2).wf = true) → ∃ k, laws_FnExactKeyGroups.f k a0 l1 a2 = some true := by
  intro a ks n h0 hk h1
  refine Ev.rounds ?_
  have hk1 : ks.length ≤ 9223372036854775807 := by have := hk.1; unfold maxLen at this; exact this
  have hk2 : ∀ s ∈ ks, s.size ≤ 9223372036854775807 := by have := hk.2; unfold maxLen at this; exact this
  obtain ⟨f, hf⟩ := laws_markText_fn
  obtain ⟨hv1, hv2, hv3⟩ := keyGroupsV_small a ks n
  have hsp := spec_KeyGroups_ev a ks n hk1 hk2
  have him := impl_KeyGroups_ev a ks n hk1 hk2
  generalize keyGroupsV a ks n = v at *
  have heq := laws_eqIntSS_self v.1 hv3 (by omega)
  unfold laws_FnExactKeyGroups.f
  refine Ev.bind (laws_szStringS_ev ks _ hk1 hk2 (by omega) (by omega)) ?_
  by_cases z : szTexts ks 1048576 < 0
  · simp only [z, ↓reduceIte]; exact Ev.now _
  simp only [z, ↓reduceIte]
  have zz := szTexts_of z
  refine Ev.bind (laws_toStringS_ev ks (by omega)) ?_
  refine Ev.bind hsp ?_
  refine Ev.bind (laws_toStringS_ev ks (by omega)) ?_
  refine Ev.bind him ?_
  refine Ev.bind heq ?_
  simp only [↓reduceIte, bne_self_eq_false]
  refine Ev.succ ?_
  simp only [laws_FnExactKeyGroups.j0, Bool.false_eq_true, ↓reduceIte]
  refine Ev.bind (laws_toStringS_ev ks (by omega)) ?_
  refine Ev.bind (laws_eqStringS_self ks hk1) ?_
  simp only [↓reduceIte]
  refine Ev.bind (laws_markStringS_ev f hf ks 1 (by omega) (by omega)) ?_
  simp only [show ¬ ((1 : Int) + (ks.length : Int) < 0) from by omega, ↓reduceIte]
  refine Ev.bind heq ?_
  simp only [↓reduceIte, bne_self_eq_false]
  refine Ev.succ ?_
  simp only [laws_FnExactKeyGroups.j1, Bool.false_eq_true, ↓reduceIte]
  refine Ev.bind (laws_markIntSS_ev v.1 (by omega) (by omega)) ?_
  refine Ev.bind (laws_heldIntSS_ev v.1 (by omega) (by omega)) ?_
  simp only [show ¬ ((1 : Int) + (totL v.1 : Int) < 0) from by omega, ↓reduceIte]
  refine Ev.bind (laws_toStringS_ev ks (by omega)) ?_
  refine Ev.bind him ?_
  refine Ev.bind heq ?_
  simp only [↓reduceIte, bne_self_eq_false]
  refine Ev.succ ?_
  simp only [laws_FnExactKeyGroups.j2, Bool.false_eq_true, ↓reduceIte]
  refine Ev.bind (laws_heldIntSS_ev v.1 (by omega) (by omega)) ?_
  simp only [show ¬ ((1 : Int) + (totL v.1 : Int) < 0) from by omega, ↓reduceIte]
  exact Ev.now _

end Go.Proofs.Ytlkbffkafpaooaa.Pure
