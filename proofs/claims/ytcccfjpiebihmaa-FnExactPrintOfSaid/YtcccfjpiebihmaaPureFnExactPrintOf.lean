/- The program's PrintOf returns what the reference's returns, for all arguments. -/
import Derived.Test.YtcccfjpiebihmaaPFnExactPrintOfx2
import Derived.Test.YtcccfjpiebihmaaBase
namespace Go.Proofs.Ytcccfjpiebihmaa.Pure
open Go.RowKit Go.Proofs.Ytcccfjpiebihmaa.PFnExactPrintOf Go.Proofs.YtcccfjpiebihmaaW.PrintWords Go.Proofs.YtcccfjpiebihmaaW.PrintLast Go.Proofs.Ytcccfjpiebihmaa.Base
set_option linter.unusedVariables false
set_option linter.unusedSimpArgs false

theorem spec_l1In_eq (a b c : Int) : spec_l1In.f a b c = some (decide (b ≤ a ∧ a ≤ c)) := by
  unfold spec_l1In.f
  by_cases h : b ≤ a <;> simp [h]
theorem spec_IsKey_ev (s : ByteArray) (hs : s.size ≤ 9223372036854775807) : Ev (fun k => spec_IsKey.f k s) (isKey s) := by
  have h := Ev.up (L := fun k i => spec_IsKey.l0 k s (i : Int)) (r := fun i => ((bytesOf s).drop i).all okByte && decide (1 ≤ (s.size : Int) ∧ (s.size : Int) ≤ 12)) s.size ?_ ?_ 0 (Nat.zero_le _)
  · exact h
  · refine Ev.succ ?_
    have h1 : ¬ ((s.size : Int) < (s.size : Int)) := by omega
    simp only [spec_IsKey.l0, h1, ↓reduceIte, spec_l1In_eq, Option.bind_some]
    exact Ev.some_ (by rw [List.drop_of_length_le (by rw [bytesOf_length]; exact Nat.le_refl _)]; simp)
  · intro i hi ih
    refine Ev.succ ?_
    have h1 : (i : Int) < (s.size : Int) := by omega
    have h2 : (0 : Int) ≤ (i : Int) := by omega
    have hw : wrap64 ((i : Int) + 1) = ((i + 1 : Nat) : Int) := by rw [w64 (by omega) (by omega)]; rfl
    have hb := bt_nat s i hi
    simp only [spec_IsKey.l0, h1, h2, ↓reduceIte, hw]
    rw [drop_cons _ _ (by rw [bytesOf_length]; exact hi), List.all_cons, ← hb]
    by_cases c1 : bt s i < 33
    · simp only [c1, ↓reduceIte]
      exact Ev.some_ (by simp [okByte]; omega)
    · by_cases c2 : bt s i > 125
      · simp only [c1, c2, ↓reduceIte]
        exact Ev.some_ (by simp [okByte]; omega)
      · simp only [c1, c2, ↓reduceIte]
        have c3 : okByte (bt s i) = true := by simp [okByte]; omega
        rw [c3, Bool.true_and]
        exact ih
theorem impl_in_eq (a b c : Int) : impl_in.f a b c = some (decide (b ≤ a ∧ a ≤ c)) := by
  unfold impl_in.f
  by_cases h : b ≤ a <;> simp [h]
theorem impl_IsKey_ev (s : ByteArray) (hs : s.size ≤ 9223372036854775807) : Ev (fun k => impl_IsKey.f k s) (isKey s) := by
  have h := Ev.up (L := fun k i => impl_IsKey.l0 k s (s.size : Int) (i : Int)) (r := fun i => ((bytesOf s).drop i).all okByte && decide (1 ≤ (s.size : Int) ∧ (s.size : Int) ≤ 12)) s.size ?_ ?_ 0 (Nat.zero_le _)
  · exact h
  · refine Ev.succ ?_
    have h1 : ¬ ((s.size : Int) < (s.size : Int)) := by omega
    simp only [impl_IsKey.l0, h1, ↓reduceIte, impl_in_eq, Option.bind_some]
    exact Ev.some_ (by rw [List.drop_of_length_le (by rw [bytesOf_length]; exact Nat.le_refl _)]; simp)
  · intro i hi ih
    refine Ev.succ ?_
    have h1 : (i : Int) < (s.size : Int) := by omega
    have h2 : (0 : Int) ≤ (i : Int) := by omega
    have hw : wrap64 ((i : Int) + 1) = ((i + 1 : Nat) : Int) := by rw [w64 (by omega) (by omega)]; rfl
    have hb := bt_nat s i hi
    simp only [impl_IsKey.l0, h1, h2, ↓reduceIte, hw]
    rw [drop_cons _ _ (by rw [bytesOf_length]; exact hi), List.all_cons, ← hb]
    by_cases c1 : bt s i < 33
    · simp only [c1, ↓reduceIte]
      exact Ev.some_ (by simp [okByte]; omega)
    · by_cases c2 : bt s i > 125
      · simp only [c1, c2, ↓reduceIte]
        exact Ev.some_ (by simp [okByte]; omega)
      · simp only [c1, c2, ↓reduceIte]
        have c3 : okByte (bt s i) = true := by simp [okByte]; omega
        rw [c3, Bool.true_and]
        exact ih
theorem spec_pow (h : Int) (h0 : 0 ≤ h) (h1 : h < 65521) : Int.tmod (wrap64 ((Int.tmod (wrap64 ((Int.tmod (wrap64 ((Int.tmod (wrap64 ((Int.tmod (wrap64 (h * h)) 65521) * (Int.tmod (wrap64 (h * h)) 65521))) 65521) * h)) 65521) * (Int.tmod (wrap64 ((Int.tmod (wrap64 ((Int.tmod (wrap64 (h * h)) 65521) * (Int.tmod (wrap64 (h * h)) 65521))) 65521) * h)) 65521))) 65521) * h)) 65521 = h ^ 11 % 65521 := by
  have step : ∀ a b : Int, 0 ≤ a → a < 65521 → 0 ≤ b → b < 65521 → Int.tmod (wrap64 (a * b)) 65521 = a * b % 65521 := by
    intro a b ha ha' hb hb'
    obtain ⟨p0, p1⟩ := prod_range ha ha' hb hb'
    rw [w64 (by omega) (by omega), tmod_pos p0]
  have rng : ∀ x : Int, 0 ≤ x % 65521 ∧ x % 65521 < 65521 := fun x => ⟨Int.emod_nonneg _ (by decide), Int.emod_lt_of_pos _ (by decide)⟩
  rw [step h h h0 h1 h0 h1]
  rw [step _ _ (rng _).1 (rng _).2 (rng _).1 (rng _).2]
  rw [step _ _ (rng _).1 (rng _).2 h0 h1]
  rw [step _ _ (rng _).1 (rng _).2 (rng _).1 (rng _).2]
  rw [step _ _ (rng _).1 (rng _).2 h0 h1]
  simp only [mul_mod_l, mul_mod_r]
  congr 1
  simp only [Int.pow_succ, Int.pow_zero, Int.one_mul, Int.mul_assoc]
theorem spec_biHash_l0 (s : ByteArray) (hs : s.size ≤ 9223372036854775807) (d : Nat) : ∀ (i : Nat) (h : Int), i + d = s.size → 0 ≤ h → h < 65521 → Ev (fun k => spec_biHash.l0 k s h (i : Int)) (hashFrom h ((bytesOf s).drop i)) := by
  induction d with
  | zero =>
    intro i h hi h0 h1
    refine Ev.succ ?_
    have c1 : ¬ ((i : Int) < (s.size : Int)) := by omega
    simp only [spec_biHash.l0, c1, ↓reduceIte]
    rw [spec_pow h h0 h1]
    exact Ev.some_ (by rw [List.drop_of_length_le (by rw [bytesOf_length]; omega)]; rfl)
  | succ d ih =>
    intro i h hi h0 h1
    refine Ev.succ ?_
    have c1 : (i : Int) < (s.size : Int) := by omega
    have c2 : (0 : Int) ≤ (i : Int) := by omega
    have hw : wrap64 ((i : Int) + 1) = ((i + 1 : Nat) : Int) := by rw [w64 (by omega) (by omega)]; rfl
    have hb := bt_nat s i (by omega)
    have hr := bt_range s i
    have e : Int.tmod (wrap64 ((wrap64 (263 * h)) + (wrap64 (bt s i)))) 65521 = hstep h (bt s i) := by
      rw [w64 (n := 263 * h) (by omega) (by omega), w64 (n := bt s i) (by omega) (by omega), w64 (by omega) (by omega), tmod_pos (by omega)]
      rfl
    simp only [spec_biHash.l0, c1, c2, ↓reduceIte, hw, e]
    rw [drop_cons _ _ (by rw [bytesOf_length]; omega), ← hb]
    exact ih (i + 1) (hstep h (bt s i)) (by omega) (Int.emod_nonneg _ (by decide)) (Int.emod_lt_of_pos _ (by decide))
theorem spec_biHash_ev (a b : Int) (s : ByteArray) (hs : s.size ≤ 9223372036854775807) (ha0 : 0 ≤ a) (ha1 : a ≤ 9999) (hb0 : 0 ≤ b) (hb1 : b ≤ 9) : Ev (fun k => spec_biHash.f k a b s) (hashV a b s) := by
  have e : Int.tmod (wrap64 ((wrap64 ((wrap64 (31 * a)) + (wrap64 (977 * b)))) + 7)) 65521 = hash0 a b := by
    rw [w64 (n := 31 * a) (by omega) (by omega), w64 (n := 977 * b) (by omega) (by omega), w64 (n := 31 * a + 977 * b) (by omega) (by omega), w64 (by omega) (by omega), tmod_pos (by omega)]
    rfl
  unfold spec_biHash.f
  simp only [e]
  exact spec_biHash_l0 s hs s.size 0 (hash0 a b) (by omega) (Int.emod_nonneg _ (by decide)) (Int.emod_lt_of_pos _ (by decide))
theorem spec_biPlace_ev (a b : Int) (s : ByteArray) (n : Int) (hs : s.size ≤ 9223372036854775807) (ha0 : 0 ≤ a) (ha1 : a ≤ 9999) (hb0 : 0 ≤ b) (hb1 : b ≤ 9) (hn0 : 0 ≤ n) (hn1 : n ≤ 65521) : Ev (fun k => spec_biPlace.f k a b s n) (placeV a b s n) := by
  have hr := hash_range a b s
  have p0 : 0 ≤ hashV a b s * n := Int.mul_nonneg hr.1 hn0
  have p1 : hashV a b s * n ≤ 4293001441 := by
    have h1 : hashV a b s * n ≤ hashV a b s * 65521 := Int.mul_le_mul_of_nonneg_left (by omega) hr.1
    omega
  unfold spec_biPlace.f
  refine Ev.bind (spec_biHash_ev a b s hs ha0 ha1 hb0 hb1) ?_
  refine Ev.some_ ?_
  have h2 : hashV a b s * n / 65521 ≤ hashV a b s * n := Int.ediv_le_self _ p0
  have h3 : 0 ≤ hashV a b s * n / 65521 := Int.ediv_nonneg p0 (by decide)
  rw [w64 (n := hashV a b s * n) (by omega) (by omega), tdiv_pos p0, w64 (by omega) (by omega)]
  rfl
theorem impl_hash_l1 (h : Int) (h0 : 0 ≤ h) (h1 : h < 65521) (d : Nat) : ∀ (i : Nat) (o : Int), i + d = 11 → o = h ^ i % 65521 → Ev (fun k => impl_hash.l1 k h o (i : Int)) (h ^ 11 % 65521) := by
  induction d with
  | zero =>
    intro i o hi ho
    obtain rfl : i = 11 := by omega
    refine Ev.succ ?_
    simp only [impl_hash.l1]
    exact Ev.some_ ho
  | succ d ih =>
    intro i o hi ho
    refine Ev.succ ?_
    have c1 : (i : Int) < 11 := by omega
    have hw : wrap64 ((i : Int) + 1) = ((i + 1 : Nat) : Int) := by rw [w64 (by omega) (by omega)]; rfl
    have r : 0 ≤ o ∧ o < 65521 := by rw [ho]; exact ⟨Int.emod_nonneg _ (by decide), Int.emod_lt_of_pos _ (by decide)⟩
    obtain ⟨p0, p1⟩ := prod_range r.1 r.2 h0 h1
    have e : Int.tmod (wrap64 (o * h)) 65521 = h ^ (i + 1) % 65521 := by
      rw [w64 (by omega) (by omega), tmod_pos p0, ho, mul_mod_l, Int.pow_succ]
    simp only [impl_hash.l1, c1, ↓reduceIte, hw]
    exact ih (i + 1) _ (by omega) e
theorem impl_hash_l0 (s : ByteArray) (hs : s.size ≤ 9223372036854775807) (d : Nat) : ∀ (i : Nat) (h : Int), i + d = s.size → 0 ≤ h → h < 65521 → Ev (fun k => impl_hash.l0 k s h (s.size : Int) (i : Int)) (hashFrom h ((bytesOf s).drop i)) := by
  induction d with
  | zero =>
    intro i h hi h0 h1
    refine Ev.succ ?_
    have c1 : ¬ ((i : Int) < (s.size : Int)) := by omega
    simp only [impl_hash.l0, c1, ↓reduceIte]
    rw [List.drop_of_length_le (by rw [bytesOf_length]; omega)]
    exact impl_hash_l1 h h0 h1 11 0 1 (by omega) (by simp)
  | succ d ih =>
    intro i h hi h0 h1
    refine Ev.succ ?_
    have c1 : (i : Int) < (s.size : Int) := by omega
    have c2 : (0 : Int) ≤ (i : Int) := by omega
    have hw : wrap64 ((i : Int) + 1) = ((i + 1 : Nat) : Int) := by rw [w64 (by omega) (by omega)]; rfl
    have hb := bt_nat s i (by omega)
    have hr := bt_range s i
    have e : Int.tmod (wrap64 ((wrap64 (263 * h)) + (wrap64 (bt s i)))) 65521 = hstep h (bt s i) := by
      rw [w64 (n := 263 * h) (by omega) (by omega), w64 (n := bt s i) (by omega) (by omega), w64 (by omega) (by omega), tmod_pos (by omega)]
      rfl
    simp only [impl_hash.l0, c1, c2, ↓reduceIte, hw, e]
    rw [drop_cons _ _ (by rw [bytesOf_length]; omega), ← hb]
    exact ih (i + 1) (hstep h (bt s i)) (by omega) (Int.emod_nonneg _ (by decide)) (Int.emod_lt_of_pos _ (by decide))
theorem impl_hash_ev (a b : Int) (s : ByteArray) (hs : s.size ≤ 9223372036854775807) (ha0 : 0 ≤ a) (ha1 : a ≤ 9999) (hb0 : 0 ≤ b) (hb1 : b ≤ 9) : Ev (fun k => impl_hash.f k a b s) (hashV a b s) := by
  have e : Int.tmod (wrap64 ((wrap64 ((wrap64 (31 * a)) + (wrap64 (977 * b)))) + 7)) 65521 = hash0 a b := by
    rw [w64 (n := 31 * a) (by omega) (by omega), w64 (n := 977 * b) (by omega) (by omega), w64 (n := 31 * a + 977 * b) (by omega) (by omega), w64 (by omega) (by omega), tmod_pos (by omega)]
    rfl
  unfold impl_hash.f
  simp only [e]
  exact impl_hash_l0 s hs s.size 0 (hash0 a b) (by omega) (Int.emod_nonneg _ (by decide)) (Int.emod_lt_of_pos _ (by decide))
theorem impl_place_ev (a b : Int) (s : ByteArray) (n : Int) (hs : s.size ≤ 9223372036854775807) (ha0 : 0 ≤ a) (ha1 : a ≤ 9999) (hb0 : 0 ≤ b) (hb1 : b ≤ 9) (hn0 : 0 ≤ n) (hn1 : n ≤ 65521) : Ev (fun k => impl_place.f k a b s n) (placeV a b s n) := by
  have hr := hash_range a b s
  have p0 : 0 ≤ hashV a b s * n := Int.mul_nonneg hr.1 hn0
  have p1 : hashV a b s * n ≤ 4293001441 := by
    have h1 : hashV a b s * n ≤ hashV a b s * 65521 := Int.mul_le_mul_of_nonneg_left (by omega) hr.1
    omega
  unfold impl_place.f
  refine Ev.bind (impl_hash_ev a b s hs ha0 ha1 hb0 hb1) ?_
  refine Ev.some_ ?_
  have h2 : hashV a b s * n / 65521 ≤ hashV a b s * n := Int.ediv_le_self _ p0
  have h3 : 0 ≤ hashV a b s * n / 65521 := Int.ediv_nonneg p0 (by decide)
  rw [w64 (n := hashV a b s * n) (by omega) (by omega), tdiv_pos p0, w64 (by omega) (by omega)]
  rfl
theorem spec_reWidth_eq (a : Int) : spec_reWidth.f a = some (decide (1 ≤ a ∧ a ≤ 8)) := by
  simp only [spec_reWidth.f, spec_l1In_eq, Option.bind_some]
theorem impl_widthOk_eq (a : Int) : impl_widthOk.f a = some (decide (1 ≤ a ∧ a ≤ 8)) := by
  simp only [impl_widthOk.f, impl_in_eq, Option.bind_some]
theorem impl_isSeed_eq (a : Int) : impl_isSeed.f a = some (decide (0 ≤ a ∧ a ≤ 9999)) := by
  simp only [impl_isSeed.f, impl_in_eq, Option.bind_some]

theorem spec_PrintOf_ev (a b : Int) (s : ByteArray) (hs : s.size ≤ 9223372036854775807) : Ev (fun k => spec_PrintOf.f k a b s) (if (0 ≤ a ∧ a ≤ 9999) ∧ (1 ≤ b ∧ b ≤ 8) ∧ isKey s = true then (placeV a 9 s (2 ^ b.toNat), true) else (0, false)) := by
  by_cases ha : 0 ≤ a ∧ a ≤ 9999
  · by_cases hb : 1 ≤ b ∧ b ≤ 8
    · have hk := spec_IsKey_ev s hs
      have hp := pow_le_of (n := b.toNat) (m := 8) (by omega)
      have hp0 := pow_pos_ b.toNat
      simp only [spec_PrintOf.f, spec_l1In_eq, spec_reWidth_eq, ha, hb, and_self, decide_true, Option.bind_some, ↓reduceIte, true_and]
      refine Ev.bind hk ?_
      cases isKey s with
      | false => exact Ev.now _
      | true =>
        simp only [↓reduceIte]
        refine Ev.bind (a := placeV a 9 s (2 ^ b.toNat)) ?_ (Ev.now _)
        unfold spec_fiPrint.f spec_reTop.f
        simp only [show 0 ≤ b from by omega, ↓reduceIte, Option.bind_some, shl_small (a := b) (by omega) (by omega)]
        exact Ev.bind (spec_biPlace_ev a 9 s (2 ^ b.toNat) hs ha.1 ha.2 (by decide) (by decide) (by omega) (by simp at hp; omega)) (Ev.now _)
    · simp only [spec_PrintOf.f, spec_l1In_eq, spec_reWidth_eq, ha, hb, and_self, decide_true, decide_false, Option.bind_some, ↓reduceIte, false_and, and_false, Bool.false_eq_true]
      exact Ev.now _
  · simp only [spec_PrintOf.f, spec_l1In_eq, ha, decide_false, Option.bind_some, ↓reduceIte, false_and, Bool.false_eq_true]
    exact Ev.now _
theorem impl_PrintOf_ev (a b : Int) (s : ByteArray) (hs : s.size ≤ 9223372036854775807) : Ev (fun k => impl_PrintOf.f k a b s) (if (0 ≤ a ∧ a ≤ 9999) ∧ (1 ≤ b ∧ b ≤ 8) ∧ isKey s = true then (placeV a 9 s (2 ^ b.toNat), true) else (0, false)) := by
  by_cases ha : 0 ≤ a ∧ a ≤ 9999
  · by_cases hb : 1 ≤ b ∧ b ≤ 8
    · have hk := impl_IsKey_ev s hs
      have hp := pow_le_of (n := b.toNat) (m := 8) (by omega)
      have hp0 := pow_pos_ b.toNat
      simp only [impl_PrintOf.f, impl_isSeed_eq, impl_widthOk_eq, ha, hb, and_self, decide_true, Option.bind_some, ↓reduceIte, true_and]
      refine Ev.bind hk ?_
      cases isKey s with
      | false => exact Ev.now _
      | true =>
        simp only [↓reduceIte, show 0 ≤ b from by omega, shl_small (a := b) (by omega) (by omega)]
        exact Ev.bind (impl_place_ev a 9 s (2 ^ b.toNat) hs ha.1 ha.2 (by decide) (by decide) (by omega) (by simp at hp; omega)) (Ev.now _)
    · simp only [impl_PrintOf.f, impl_isSeed_eq, impl_widthOk_eq, ha, hb, and_self, decide_true, decide_false, Option.bind_some, ↓reduceIte, false_and, and_false, Bool.false_eq_true]
      exact Ev.now _
  · simp only [impl_PrintOf.f, impl_isSeed_eq, ha, decide_false, Option.bind_some, ↓reduceIte, false_and, Bool.false_eq_true]
    exact Ev.now _
theorem FnExactPrintOf : laws_FnExactPrintOf.Pure := by
  intro a b s h0 h1 hs
  refine Ev.rounds ?_
  unfold laws_FnExactPrintOf.f
  by_cases c : (s.size : Int) > 1048576
  · simp only [c, ↓reduceIte]
    exact Ev.now _
  · simp only [c, ↓reduceIte]
    refine Ev.bind (spec_PrintOf_ev a b s (by omega)) ?_
    refine Ev.bind (impl_PrintOf_ev a b s (by omega)) ?_
    simp only [↓reduceIte, bne_self_eq_false, Bool.false_eq_true]
    exact Ev.now _

end Go.Proofs.Ytcccfjpiebihmaa.Pure
