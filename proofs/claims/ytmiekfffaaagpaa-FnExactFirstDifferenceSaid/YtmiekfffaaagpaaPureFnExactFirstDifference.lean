/- The program's FirstDifference returns what the reference's returns, for all arguments. -/
import Derived.Test.YtmiekfffaaagpaaPFnExactFirstDifferencex8
import Derived.Test.YtmiekfffaaagpaaBase
namespace Go.Proofs.Ytmiekfffaaagpaa.Pure
open Go.RowKit Go.Proofs.Ytmiekfffaaagpaa.PFnExactFirstDifference Go.Proofs.YtmiekfffaaagpaaW.PrintWords Go.Proofs.YtmiekfffaaagpaaW.PrintLast Go.Proofs.Ytmiekfffaaagpaa.Base
set_option linter.unusedVariables false
set_option linter.unusedSimpArgs false

theorem laws_szIntS_eq (l : List Int) (a : Int) (h0 : 0 ≤ a) (h1 : a ≤ 1048576) (hl : l.length ≤ 9223372036854775807) : laws_szIntS.f l a = some (if (l.length : Int) ≤ a then a - l.length else -1) := by
  unfold laws_szIntS.f
  rw [w64 (by omega) (by omega)]
  by_cases c : (l.length : Int) ≤ a
  · rw [if_neg (by omega), if_pos c]
  · rw [if_pos (by omega), if_neg c]
theorem laws_toIntS_l0 (l : List Int) (hl : l.length ≤ 9223372036854775807) (d : Nat) : ∀ (i : Nat) (o : List Int), o.length = l.length → o.take i = l.take i → i + d = l.length → Ev (fun k => laws_toIntS.l0 k l o (i : Int)) l := by
  induction d with
  | zero =>
    intro i o ho ht hi
    refine Ev.succ ?_
    have h1 : ¬ ((i : Int) < (l.length : Int)) := by omega
    simp only [laws_toIntS.l0, h1, ↓reduceIte]
    rw [List.take_of_length_le (by omega), List.take_of_length_le (by omega)] at ht
    exact Ev.some_ ht
  | succ d ih =>
    intro i o ho ht hi
    refine Ev.succ ?_
    have h1 : (i : Int) < (l.length : Int) := by omega
    have h2 : (0 : Int) ≤ (i : Int) := by omega
    have h3 : (i : Int) < (o.length : Int) := by omega
    have hw : wrap64 ((i : Int) + 1) = ((i + 1 : Nat) : Int) := by rw [w64 (by omega) (by omega)]; rfl
    simp only [laws_toIntS.l0, h1, h2, h3, ↓reduceIte, hw, Int.toNat_natCast]
    exact ih (i + 1) _ (by simp [ho]) (by rw [take_set_succ _ _ _ (by omega), ht, rd_nat _ _ (by omega), List.take_succ_eq_append_getElem (by omega)]) (by omega)
theorem laws_toIntS_ev (l : List Int) (hl : l.length ≤ 35184372088832) : Ev (fun k => laws_toIntS.f k l) l := by
  have h1 : 0 ≤ (l.length : Int) := by omega
  have h2 : ((l.length : Int)).toNat ≤ 35184372088832 := by omega
  simp only [laws_toIntS.f, h1, h2, ↓reduceIte]
  exact laws_toIntS_l0 l (by omega) l.length 0 _ (by simp) (by simp) (by omega)
theorem laws_eqIntS_self (l : List Int) (hl : l.length ≤ 9223372036854775807) : Ev (fun k => laws_eqIntS.f k l l) true := by
  unfold laws_eqIntS.f
  simp only [↓reduceIte]
  refine Ev.up (L := fun k i => laws_eqIntS.l0 k l l (i : Int)) (r := fun _ => true) l.length ?_ ?_ 0 (Nat.zero_le _)
  · refine Ev.succ ?_
    have h1 : ¬ ((l.length : Int) < (l.length : Int)) := by omega
    simp only [laws_eqIntS.l0, h1, ↓reduceIte]
    exact Ev.now _
  · intro i hi ih
    refine Ev.succ ?_
    have h1 : (i : Int) < (l.length : Int) := by omega
    have h2 : (0 : Int) ≤ (i : Int) := by omega
    have hw : wrap64 ((i : Int) + 1) = ((i + 1 : Nat) : Int) := by rw [w64 (by omega) (by omega)]; rfl
    simp only [laws_eqIntS.l0, h1, h2, ↓reduceIte, hw]
    exact ih
theorem laws_szTable_eq (a b c : Int) (l : List Int) (m : Int) (h0 : 0 ≤ m) (h1 : m ≤ 1048576) (hl : l.length ≤ 9223372036854775807) : laws_szTable.f a b c l m = some (if (l.length : Int) ≤ m then m - l.length else -1) := by
  simp only [laws_szTable.f, laws_szIntS_eq l m h0 h1 hl, Option.bind_some]
  by_cases c : (l.length : Int) ≤ m
  · simp only [c, ↓reduceIte, show ¬ (m - (l.length : Int) < 0) from by omega]
  · simp only [c, ↓reduceIte, show ((-1 : Int) < 0) from by decide]
theorem laws_toTable_ev (a b c : Int) (l : List Int) (hl : l.length ≤ 1048576) : Ev (fun k => laws_toTable.f k a b c l) (a, b, c, l) := by
  unfold laws_toTable.f
  exact Ev.bind (laws_toIntS_ev l (by omega)) (Ev.now _)
theorem laws_eqTable_self (a b c : Int) (l : List Int) (hl : l.length ≤ 9223372036854775807) : Ev (fun k => laws_eqTable.f k a b c l a b c l) true := by
  simp only [laws_eqTable.f, ↓reduceIte]
  exact Ev.bind (laws_eqIntS_self l hl) (by simp only [↓reduceIte]; exact Ev.now _)
theorem impl_in_eq (a b c : Int) : impl_in.f a b c = some (decide (b ≤ a ∧ a ≤ c)) := by
  unfold impl_in.f
  by_cases h : b ≤ a <;> simp [h]
theorem top_range {c : Int} (h0 : 1 ≤ c) (h1 : c ≤ 8) : 2 ≤ (2 : Int) ^ c.toNat ∧ (2 : Int) ^ c.toNat ≤ 256 := by
  have a := pow_le_of (n := 1) (m := c.toNat) (by omega)
  have b := pow_le_of (n := c.toNat) (m := 8) (by omega)
  simp at a b
  exact ⟨a, b⟩
theorem impl_IsTablec1_eq (x a b c : Int) (l : List Int) (hc0 : 1 ≤ c) (hc1 : c ≤ 8) : impl_IsTablec1.f x a b c l = some (!inB 0 (2 ^ c.toNat - 1) x) := by
  have hr := top_range hc0 hc1
  unfold impl_IsTablec1.f
  rw [if_pos (by omega), shl_one (by omega) (by omega), w64 (by omega) (by omega)]
  simp only [impl_in_eq, Option.bind_some, inB]
theorem slices_IndexFunc_int_int_impl_IsTablec1_ev (xs : List Int) (a b c : Int) (l : List Int) (hx : xs.length ≤ 9223372036854775807) (hc0 : 1 ≤ c) (hc1 : c ≤ 8) : Ev (fun k => slices_IndexFunc_int_int_impl_IsTablec1.f k xs a b c l) (idxV (fun x => !inB 0 (2 ^ c.toNat - 1) x) xs 0) := by
  refine Ev.up (L := fun k i => slices_IndexFunc_int_int_impl_IsTablec1.l0 k xs (xs.length : Int) (i : Int) a b c l) (r := fun i => idxV (fun x => !inB 0 (2 ^ c.toNat - 1) x) xs i) xs.length ?_ ?_ 0 (Nat.zero_le _)
  · refine Ev.succ ?_
    have h1 : ¬ ((xs.length : Int) < (xs.length : Int)) := by omega
    simp only [slices_IndexFunc_int_int_impl_IsTablec1.l0, h1, ↓reduceIte]
    exact Ev.some_ (idxV_end _ _).symm
  · intro i hi ih
    refine Ev.succ ?_
    have h1 : (i : Int) < (xs.length : Int) := by omega
    have h2 : (0 : Int) ≤ (i : Int) := by omega
    have hw : wrap64 ((i : Int) + 1) = ((i + 1 : Nat) : Int) := by rw [w64 (by omega) (by omega)]; rfl
    have e := rd_nat xs i hi
    simp only [slices_IndexFunc_int_int_impl_IsTablec1.l0, h1, h2, ↓reduceIte, hw]
    simp only [impl_IsTablec1_eq (rd xs (i : Int)) a b c l hc0 hc1, Option.bind_some]
    cases hp : (!inB 0 (2 ^ c.toNat - 1) (rd xs (i : Int))) with
    | true =>
      simp only [↓reduceIte]
      exact Ev.some_ (idxV_hit hi (by rw [← e]; exact hp)).symm
    | false =>
      simp only [Bool.false_eq_true, ↓reduceIte]
      rw [idxV_miss hi (by rw [← e]; exact hp)]
      exact ih
theorem slices_ContainsFunc_int_int_impl_IsTablec1_ev (xs : List Int) (a b c : Int) (l : List Int) (hx : xs.length ≤ 9223372036854775807) (hc0 : 1 ≤ c) (hc1 : c ≤ 8) : Ev (fun k => slices_ContainsFunc_int_int_impl_IsTablec1.f k xs a b c l) (xs.any (fun x => !inB 0 (2 ^ c.toNat - 1) x)) := by
  unfold slices_ContainsFunc_int_int_impl_IsTablec1.f
  refine Ev.bind (slices_IndexFunc_int_int_impl_IsTablec1_ev xs a b c l hx hc0 hc1) ?_
  rw [idxV_ge]
  exact Ev.now _
theorem spec_l1In_eq (a b c : Int) : spec_l1In.f a b c = some (decide (b ≤ a ∧ a ≤ c)) := by
  unfold spec_l1In.f
  by_cases h : b ≤ a <;> simp [h]
theorem spec_l1All_ev (l : List Int) (a b : Int) (hl : l.length ≤ 9223372036854775807) : Ev (fun k => spec_l1All.f k l a b) (l.all (inB a b)) := by
  have h := Ev.up (L := fun k i => spec_l1All.l0 k a b l (l.length : Int) (i : Int)) (r := fun i => (l.drop i).all (inB a b)) l.length ?_ ?_ 0 (Nat.zero_le _)
  · exact h
  · refine Ev.succ ?_
    have h1 : ¬ ((l.length : Int) < (l.length : Int)) := by omega
    simp only [spec_l1All.l0, h1, ↓reduceIte]
    exact Ev.some_ (by simp)
  · intro i hi ih
    refine Ev.succ ?_
    have h1 : (i : Int) < (l.length : Int) := by omega
    have h2 : (0 : Int) ≤ (i : Int) := by omega
    have hw : wrap64 ((i : Int) + 1) = ((i + 1 : Nat) : Int) := by rw [w64 (by omega) (by omega)]; rfl
    simp only [spec_l1All.l0, h1, h2, ↓reduceIte, hw, spec_l1In_eq, Option.bind_some]
    rw [drop_cons _ _ hi, List.all_cons, ← rd_nat _ _ hi]
    by_cases c : a ≤ rd l (i : Int) ∧ rd l (i : Int) ≤ b
    · have c2 : inB a b (rd l (i : Int)) = true := by simp [inB, c]
      simp only [c, and_self, decide_true, ↓reduceIte, c2, Bool.true_and]
      exact ih
    · have c2 : inB a b (rd l (i : Int)) = false := by simp [inB]; omega
      simp only [c, decide_false, Bool.false_eq_true, ↓reduceIte, c2, Bool.false_and]
      exact Ev.now _
theorem spec_reWidth_eq (a : Int) : spec_reWidth.f a = some (decide (1 ≤ a ∧ a ≤ 8)) := by
  simp only [spec_reWidth.f, spec_l1In_eq, Option.bind_some]
theorem spec_reTop_eq (a : Int) (h0 : 0 ≤ a) (h1 : a ≤ 62) : spec_reTop.f a = some (2 ^ a.toNat) := by
  unfold spec_reTop.f
  rw [if_pos h0, shl_one h0 h1]
theorem impl_segmentOk_eq (a : Int) : impl_segmentOk.f a = some (decide (1 ≤ a ∧ a ≤ 24)) := by
  simp only [impl_segmentOk.f, impl_in_eq, Option.bind_some]
theorem impl_widthOk_eq (a : Int) : impl_widthOk.f a = some (decide (1 ≤ a ∧ a ≤ 8)) := by
  simp only [impl_widthOk.f, impl_in_eq, Option.bind_some]
theorem impl_isSeed_eq (a : Int) : impl_isSeed.f a = some (decide (0 ≤ a ∧ a ≤ 9999)) := by
  simp only [impl_isSeed.f, impl_in_eq, Option.bind_some]
def goodTable (a b c : Int) (l : List Int) : Bool := decide ((0 ≤ a ∧ a ≤ 9999) ∧ (1 ≤ b ∧ b ≤ 24) ∧ (1 ≤ c ∧ c ≤ 8) ∧ (l.length : Int) = 3 * b) && l.all (inB 0 (2 ^ c.toNat - 1))
theorem goodTable_of {a b c : Int} {l : List Int} (h : goodTable a b c l = true) : (0 ≤ a ∧ a ≤ 9999) ∧ (1 ≤ b ∧ b ≤ 24) ∧ (1 ≤ c ∧ c ≤ 8) ∧ (l.length : Int) = 3 * b ∧ ∀ x ∈ l, 0 ≤ x ∧ x ≤ 2 ^ c.toNat - 1 := by
  unfold goodTable inB at h
  simp only [Bool.and_eq_true, decide_eq_true_eq, List.all_eq_true] at h
  exact ⟨h.1.1, h.1.2.1, h.1.2.2.1, h.1.2.2.2, h.2⟩
theorem any_not_all' {α : Type} (p : α → Bool) (l : List α) : l.any (fun x => !p x) = !l.all p := by
  induction l with
  | nil => rfl
  | cons x l ih => simp only [List.any_cons, List.all_cons, ih, Bool.not_and]
theorem spec_reTable_ev (a b c : Int) (l : List Int) (hl : l.length ≤ 9223372036854775807) : Ev (fun k => spec_reTable.f k a b c l) (goodTable a b c l) := by
  unfold goodTable
  by_cases ha : 0 ≤ a ∧ a ≤ 9999
  · by_cases hb : 1 ≤ b ∧ b ≤ 24
    · by_cases hc : 1 ≤ c ∧ c ≤ 8
      · have hr := top_range hc.1 hc.2
        have e : wrap64 (3 * b) = 3 * b := w64 (by omega) (by omega)
        have e2 : wrap64 ((2 : Int) ^ c.toNat - 1) = 2 ^ c.toNat - 1 := w64 (by omega) (by omega)
        by_cases hd : (l.length : Int) = 3 * b
        · simp only [spec_reTable.f, spec_l1In_eq, spec_reWidth_eq, ha, hb, hc, hd, and_self, decide_true, Option.bind_some, ↓reduceIte, Bool.true_and, e, spec_reTop_eq c (by omega) (by omega), e2]
          exact Ev.bind (spec_l1All_ev l 0 _ hl) (Ev.now _)
        · simp only [spec_reTable.f, spec_l1In_eq, spec_reWidth_eq, ha, hb, hc, hd, and_self, and_false, decide_true, decide_false, Option.bind_some, ↓reduceIte, Bool.false_and, e]
          exact Ev.now _
      · simp only [spec_reTable.f, spec_l1In_eq, spec_reWidth_eq, ha, hb, hc, and_self, false_and, and_false, decide_true, decide_false, Option.bind_some, ↓reduceIte, Bool.false_and, Bool.false_eq_true]
        exact Ev.now _
    · simp only [spec_reTable.f, spec_l1In_eq, ha, hb, and_self, false_and, and_false, decide_true, decide_false, Option.bind_some, ↓reduceIte, Bool.false_and, Bool.false_eq_true]
      exact Ev.now _
  · simp only [spec_reTable.f, spec_l1In_eq, ha, false_and, decide_false, Option.bind_some, ↓reduceIte, Bool.false_and, Bool.false_eq_true]
    exact Ev.now _
theorem impl_IsTable_ev (a b c : Int) (l : List Int) (hl : l.length ≤ 9223372036854775807) : Ev (fun k => impl_IsTable.f k a b c l) (goodTable a b c l) := by
  unfold goodTable
  by_cases ha : 0 ≤ a ∧ a ≤ 9999
  · by_cases hb : 1 ≤ b ∧ b ≤ 24
    · by_cases hc : 1 ≤ c ∧ c ≤ 8
      · have e : wrap64 (3 * b) = 3 * b := w64 (by omega) (by omega)
        by_cases hd : (l.length : Int) = 3 * b
        · simp only [impl_IsTable.f, impl_isSeed_eq, impl_segmentOk_eq, impl_widthOk_eq, ha, hb, hc, hd, and_self, decide_true, Option.bind_some, ↓reduceIte, Bool.true_and, e]
          refine Ev.bind (slices_ContainsFunc_int_int_impl_IsTablec1_ev l a b c l hl hc.1 hc.2) ?_
          rw [any_not_all', Bool.not_not]
          exact Ev.now _
        · simp only [impl_IsTable.f, impl_isSeed_eq, impl_segmentOk_eq, impl_widthOk_eq, ha, hb, hc, hd, and_self, and_false, decide_true, decide_false, Option.bind_some, ↓reduceIte, Bool.false_and, e]
          exact Ev.now _
      · simp only [impl_IsTable.f, impl_isSeed_eq, impl_segmentOk_eq, impl_widthOk_eq, ha, hb, hc, and_self, false_and, and_false, decide_true, decide_false, Option.bind_some, ↓reduceIte, Bool.false_and, Bool.false_eq_true]
        exact Ev.now _
    · simp only [impl_IsTable.f, impl_isSeed_eq, impl_segmentOk_eq, ha, hb, and_self, false_and, and_false, decide_true, decide_false, Option.bind_some, ↓reduceIte, Bool.false_and, Bool.false_eq_true]
      exact Ev.now _
  · simp only [impl_IsTable.f, impl_isSeed_eq, ha, false_and, decide_false, Option.bind_some, ↓reduceIte, Bool.false_and, Bool.false_eq_true]
    exact Ev.now _
theorem spec_pow (h : Int) (h0 : 0 ≤ h) (h1 : h < 65521) : Int.tmod (wrap64 ((Int.tmod (wrap64 ((Int.tmod (wrap64 ((Int.tmod (wrap64 ((Int.tmod (wrap64 (h * h)) 65521) * (Int.tmod (wrap64 (h * h)) 65521))) 65521) * h)) 65521) * (Int.tmod (wrap64 ((Int.tmod (wrap64 ((Int.tmod (wrap64 (h * h)) 65521) * (Int.tmod (wrap64 (h * h)) 65521))) 65521) * h)) 65521))) 65521) * h)) 65521 = h ^ 11 % 65521 := by
  have step : ∀ a b : Int, 0 ≤ a → a < 65521 → 0 ≤ b → b < 65521 → Int.tmod (wrap64 (a * b)) 65521 = a * b % 65521 := by
    intro a b ha ha' hb hb'
    obtain ⟨p0, p1⟩ := prod_range ha ha' hb hb'
    rw [w64 (by omega) (by omega), tmod_pos p0]
  have rng : ∀ x : Int, 0 ≤ x % 65521 ∧ x % 65521 < 65521 := fun x => ⟨Int.emod_nonneg _ (by decide), Int.emod_lt_of_pos _ (by decide)⟩
  rw [step h h h0 h1 h0 h1]
  rw [step _ _ (rng _).1 (rng _).2 (rng _).1 (rng _).2]
  rw [step _ _ (rng _).1 (rng _).2 h0 h1]
  rw [step _ _ (rng _).1 (rng _).2 (rng _).1 (rng _).2]
  rw [step _ _ (rng _).1 (rng _).2 h0 h1]
  simp only [mul_mod_l, mul_mod_r]
  congr 1
  simp only [Int.pow_succ, Int.pow_zero, Int.one_mul, Int.mul_assoc]
theorem spec_biHash_l0 (s : ByteArray) (hs : s.size ≤ 9223372036854775807) (d : Nat) : ∀ (i : Nat) (h : Int), i + d = s.size → 0 ≤ h → h < 65521 → Ev (fun k => spec_biHash.l0 k s h (i : Int)) (hashFrom h ((bytesOf s).drop i)) := by
  induction d with
  | zero =>
    intro i h hi h0 h1
    refine Ev.succ ?_
    have c1 : ¬ ((i : Int) < (s.size : Int)) := by omega
    simp only [spec_biHash.l0, c1, ↓reduceIte]
    rw [spec_pow h h0 h1]
    exact Ev.some_ (by rw [List.drop_of_length_le (by rw [bytesOf_length]; omega)]; rfl)
  | succ d ih =>
    intro i h hi h0 h1
    refine Ev.succ ?_
    have c1 : (i : Int) < (s.size : Int) := by omega
    have c2 : (0 : Int) ≤ (i : Int) := by omega
    have hw : wrap64 ((i : Int) + 1) = ((i + 1 : Nat) : Int) := by rw [w64 (by omega) (by omega)]; rfl
    have hb := bt_nat s i (by omega)
    have hr := bt_range s i
    have e : Int.tmod (wrap64 ((wrap64 (263 * h)) + (wrap64 (bt s i)))) 65521 = hstep h (bt s i) := by
      rw [w64 (n := 263 * h) (by omega) (by omega), w64 (n := bt s i) (by omega) (by omega), w64 (by omega) (by omega), tmod_pos (by omega)]
      rfl
    simp only [spec_biHash.l0, c1, c2, ↓reduceIte, hw, e]
    rw [drop_cons _ _ (by rw [bytesOf_length]; omega), ← hb]
    exact ih (i + 1) (hstep h (bt s i)) (by omega) (Int.emod_nonneg _ (by decide)) (Int.emod_lt_of_pos _ (by decide))
theorem spec_biHash_ev (a b : Int) (s : ByteArray) (hs : s.size ≤ 9223372036854775807) (ha0 : 0 ≤ a) (ha1 : a ≤ 9999) (hb0 : 0 ≤ b) (hb1 : b ≤ 9) : Ev (fun k => spec_biHash.f k a b s) (hashV a b s) := by
  have e : Int.tmod (wrap64 ((wrap64 ((wrap64 (31 * a)) + (wrap64 (977 * b)))) + 7)) 65521 = hash0 a b := by
    rw [w64 (n := 31 * a) (by omega) (by omega), w64 (n := 977 * b) (by omega) (by omega), w64 (n := 31 * a + 977 * b) (by omega) (by omega), w64 (by omega) (by omega), tmod_pos (by omega)]
    rfl
  unfold spec_biHash.f
  simp only [e]
  exact spec_biHash_l0 s hs s.size 0 (hash0 a b) (by omega) (Int.emod_nonneg _ (by decide)) (Int.emod_lt_of_pos _ (by decide))
theorem spec_biPlace_ev (a b : Int) (s : ByteArray) (n : Int) (hs : s.size ≤ 9223372036854775807) (ha0 : 0 ≤ a) (ha1 : a ≤ 9999) (hb0 : 0 ≤ b) (hb1 : b ≤ 9) (hn0 : 0 ≤ n) (hn1 : n ≤ 65521) : Ev (fun k => spec_biPlace.f k a b s n) (placeV a b s n) := by
  have hr := hash_range a b s
  have p0 : 0 ≤ hashV a b s * n := Int.mul_nonneg hr.1 hn0
  have p1 : hashV a b s * n ≤ 4293001441 := by
    have h1 : hashV a b s * n ≤ hashV a b s * 65521 := Int.mul_le_mul_of_nonneg_left (by omega) hr.1
    omega
  unfold spec_biPlace.f
  refine Ev.bind (spec_biHash_ev a b s hs ha0 ha1 hb0 hb1) ?_
  refine Ev.some_ ?_
  have h2 : hashV a b s * n / 65521 ≤ hashV a b s * n := Int.ediv_le_self _ p0
  have h3 : 0 ≤ hashV a b s * n / 65521 := Int.ediv_nonneg p0 (by decide)
  rw [w64 (n := hashV a b s * n) (by omega) (by omega), tdiv_pos p0, w64 (by omega) (by omega)]
  rfl
theorem impl_hash_l1 (h : Int) (h0 : 0 ≤ h) (h1 : h < 65521) (d : Nat) : ∀ (i : Nat) (o : Int), i + d = 11 → o = h ^ i % 65521 → Ev (fun k => impl_hash.l1 k h o (i : Int)) (h ^ 11 % 65521) := by
  induction d with
  | zero =>
    intro i o hi ho
    obtain rfl : i = 11 := by omega
    refine Ev.succ ?_
    simp only [impl_hash.l1]
    exact Ev.some_ ho
  | succ d ih =>
    intro i o hi ho
    refine Ev.succ ?_
    have c1 : (i : Int) < 11 := by omega
    have hw : wrap64 ((i : Int) + 1) = ((i + 1 : Nat) : Int) := by rw [w64 (by omega) (by omega)]; rfl
    have r : 0 ≤ o ∧ o < 65521 := by rw [ho]; exact ⟨Int.emod_nonneg _ (by decide), Int.emod_lt_of_pos _ (by decide)⟩
    obtain ⟨p0, p1⟩ := prod_range r.1 r.2 h0 h1
    have e : Int.tmod (wrap64 (o * h)) 65521 = h ^ (i + 1) % 65521 := by
      rw [w64 (by omega) (by omega), tmod_pos p0, ho, mul_mod_l, Int.pow_succ]
    simp only [impl_hash.l1, c1, ↓reduceIte, hw]
    exact ih (i + 1) _ (by omega) e
theorem impl_hash_l0 (s : ByteArray) (hs : s.size ≤ 9223372036854775807) (d : Nat) : ∀ (i : Nat) (h : Int), i + d = s.size → 0 ≤ h → h < 65521 → Ev (fun k => impl_hash.l0 k s h (s.size : Int) (i : Int)) (hashFrom h ((bytesOf s).drop i)) := by
  induction d with
  | zero =>
    intro i h hi h0 h1
    refine Ev.succ ?_
    have c1 : ¬ ((i : Int) < (s.size : Int)) := by omega
    simp only [impl_hash.l0, c1, ↓reduceIte]
    rw [List.drop_of_length_le (by rw [bytesOf_length]; omega)]
    exact impl_hash_l1 h h0 h1 11 0 1 (by omega) (by simp)
  | succ d ih =>
    intro i h hi h0 h1
    refine Ev.succ ?_
    have c1 : (i : Int) < (s.size : Int) := by omega
    have c2 : (0 : Int) ≤ (i : Int) := by omega
    have hw : wrap64 ((i : Int) + 1) = ((i + 1 : Nat) : Int) := by rw [w64 (by omega) (by omega)]; rfl
    have hb := bt_nat s i (by omega)
    have hr := bt_range s i
    have e : Int.tmod (wrap64 ((wrap64 (263 * h)) + (wrap64 (bt s i)))) 65521 = hstep h (bt s i) := by
      rw [w64 (n := 263 * h) (by omega) (by omega), w64 (n := bt s i) (by omega) (by omega), w64 (by omega) (by omega), tmod_pos (by omega)]
      rfl
    simp only [impl_hash.l0, c1, c2, ↓reduceIte, hw, e]
    rw [drop_cons _ _ (by rw [bytesOf_length]; omega), ← hb]
    exact ih (i + 1) (hstep h (bt s i)) (by omega) (Int.emod_nonneg _ (by decide)) (Int.emod_lt_of_pos _ (by decide))
theorem impl_hash_ev (a b : Int) (s : ByteArray) (hs : s.size ≤ 9223372036854775807) (ha0 : 0 ≤ a) (ha1 : a ≤ 9999) (hb0 : 0 ≤ b) (hb1 : b ≤ 9) : Ev (fun k => impl_hash.f k a b s) (hashV a b s) := by
  have e : Int.tmod (wrap64 ((wrap64 ((wrap64 (31 * a)) + (wrap64 (977 * b)))) + 7)) 65521 = hash0 a b := by
    rw [w64 (n := 31 * a) (by omega) (by omega), w64 (n := 977 * b) (by omega) (by omega), w64 (n := 31 * a + 977 * b) (by omega) (by omega), w64 (by omega) (by omega), tmod_pos (by omega)]
    rfl
  unfold impl_hash.f
  simp only [e]
  exact impl_hash_l0 s hs s.size 0 (hash0 a b) (by omega) (Int.emod_nonneg _ (by decide)) (Int.emod_lt_of_pos _ (by decide))
theorem impl_place_ev (a b : Int) (s : ByteArray) (n : Int) (hs : s.size ≤ 9223372036854775807) (ha0 : 0 ≤ a) (ha1 : a ≤ 9999) (hb0 : 0 ≤ b) (hb1 : b ≤ 9) (hn0 : 0 ≤ n) (hn1 : n ≤ 65521) : Ev (fun k => impl_place.f k a b s n) (placeV a b s n) := by
  have hr := hash_range a b s
  have p0 : 0 ≤ hashV a b s * n := Int.mul_nonneg hr.1 hn0
  have p1 : hashV a b s * n ≤ 4293001441 := by
    have h1 : hashV a b s * n ≤ hashV a b s * 65521 := Int.mul_le_mul_of_nonneg_left (by omega) hr.1
    omega
  unfold impl_place.f
  refine Ev.bind (impl_hash_ev a b s hs ha0 ha1 hb0 hb1) ?_
  refine Ev.some_ ?_
  have h2 : hashV a b s * n / 65521 ≤ hashV a b s * n := Int.ediv_le_self _ p0
  have h3 : 0 ≤ hashV a b s * n / 65521 := Int.ediv_nonneg p0 (by decide)
  rw [w64 (n := hashV a b s * n) (by omega) (by omega), tdiv_pos p0, w64 (by omega) (by omega)]
  rfl
def tripleV (a b : Int) (s : ByteArray) (n : Nat) : List Int := (List.range n).map fun i : Nat => placeV a (i : Int) s b + (i : Int) * b
theorem tripleV_length (a b : Int) (s : ByteArray) (n : Nat) : (tripleV a b s n).length = n := by simp [tripleV]
theorem tripleV_succ (a b : Int) (s : ByteArray) (n : Nat) : tripleV a b s (n + 1) = tripleV a b s n ++ [placeV a n s b + n * b] := by simp [tripleV, List.range_succ]
theorem tripleV_three (a b : Int) (s : ByteArray) : tripleV a b s 3 = [placeV a 0 s b, placeV a 1 s b + b, placeV a 2 s b + 2 * b] := by simp [tripleV, List.range_succ]
theorem tripleV_range {a b : Int} {s : ByteArray} (h : 0 < b) : ∀ x ∈ tripleV a b s 3, 0 ≤ x ∧ x < 3 * b := by
  intro x hx
  have h0 := place_range (a := a) (b := 0) (s := s) h
  have h1 := place_range (a := a) (b := 1) (s := s) h
  have h2 := place_range (a := a) (b := 2) (s := s) h
  rw [tripleV_three] at hx
  simp only [List.mem_cons, List.not_mem_nil, or_false] at hx
  rcases hx with rfl | rfl | rfl <;> omega
theorem spec_peTriple_l0 (a b : Int) (s : ByteArray) (hs : s.size ≤ 9223372036854775807) (ha0 : 0 ≤ a) (ha1 : a ≤ 9999) (hb0 : 0 < b) (hb1 : b ≤ 65521) (d : Nat) : ∀ i : Nat, i + d = 3 → Ev (fun k => spec_peTriple.l0 k a s b (tripleV a b s i) (i : Int)) (tripleV a b s 3) := by
  induction d with
  | zero =>
    intro i hi
    refine Ev.succ ?_
    have h1 : ¬ ((i : Int) < 3) := by omega
    simp only [spec_peTriple.l0, h1, ↓reduceIte]
    exact Ev.some_ (by rw [← hi]; rfl)
  | succ d ih =>
    intro i hi
    refine Ev.succ ?_
    have h1 : (i : Int) < 3 := by omega
    have hw : wrap64 ((i : Int) + 1) = ((i + 1 : Nat) : Int) := by rw [w64 (by omega) (by omega)]; rfl
    have h2 : (tripleV a b s i).length < 17592186044416 := by rw [tripleV_length]; omega
    have hp := place_range (a := a) (b := (i : Int)) (s := s) (n := b) hb0
    have e1 : 0 ≤ (i : Int) * b ∧ (i : Int) * b ≤ 131042 := by
      have hi3 : i = 0 ∨ i = 1 ∨ i = 2 := by omega
      rcases hi3 with rfl | rfl | rfl <;> omega
    have hw1 : wrap64 ((i : Int) * b) = (i : Int) * b := w64 (by omega) (by omega)
    have hw2 : wrap64 (placeV a (i : Int) s b + (i : Int) * b) = placeV a (i : Int) s b + (i : Int) * b := w64 (by omega) (by omega)
    simp only [spec_peTriple.l0, h1, h2, ↓reduceIte, hw]
    refine Ev.bind (spec_biPlace_ev a i s b hs ha0 ha1 (by omega) (by omega) (by omega) hb1) ?_
    rw [hw1, hw2, ← tripleV_succ]
    exact ih (i + 1) (by omega)
theorem spec_peTriple_ev (a b : Int) (s : ByteArray) (hs : s.size ≤ 9223372036854775807) (ha0 : 0 ≤ a) (ha1 : a ≤ 9999) (hb0 : 0 < b) (hb1 : b ≤ 65521) : Ev (fun k => spec_peTriple.f k a s b) (tripleV a b s 3) := spec_peTriple_l0 a b s hs ha0 ha1 hb0 hb1 3 0 rfl
theorem impl_threePlaces_l0 (a b : Int) (s : ByteArray) (hs : s.size ≤ 9223372036854775807) (ha0 : 0 ≤ a) (ha1 : a ≤ 9999) (hb0 : 0 < b) (hb1 : b ≤ 65521) (d : Nat) : ∀ i : Nat, i + d = 3 → Ev (fun k => impl_threePlaces.l0 k a s b (tripleV a b s i) (i : Int)) (tripleV a b s 3) := by
  induction d with
  | zero =>
    intro i hi
    refine Ev.succ ?_
    have h1 : ¬ ((i : Int) < 3) := by omega
    simp only [impl_threePlaces.l0, h1, ↓reduceIte]
    exact Ev.some_ (by rw [← hi]; rfl)
  | succ d ih =>
    intro i hi
    refine Ev.succ ?_
    have h1 : (i : Int) < 3 := by omega
    have hw : wrap64 ((i : Int) + 1) = ((i + 1 : Nat) : Int) := by rw [w64 (by omega) (by omega)]; rfl
    have h2 : (tripleV a b s i).length < 17592186044416 := by rw [tripleV_length]; omega
    have hp := place_range (a := a) (b := (i : Int)) (s := s) (n := b) hb0
    have e1 : 0 ≤ (i : Int) * b ∧ (i : Int) * b ≤ 131042 := by
      have hi3 : i = 0 ∨ i = 1 ∨ i = 2 := by omega
      rcases hi3 with rfl | rfl | rfl <;> omega
    have hw1 : wrap64 ((i : Int) * b) = (i : Int) * b := w64 (by omega) (by omega)
    have hw2 : wrap64 (placeV a (i : Int) s b + (i : Int) * b) = placeV a (i : Int) s b + (i : Int) * b := w64 (by omega) (by omega)
    simp only [impl_threePlaces.l0, h1, h2, ↓reduceIte, hw]
    refine Ev.bind (impl_place_ev a i s b hs ha0 ha1 (by omega) (by omega) (by omega) hb1) ?_
    rw [hw1, hw2, ← tripleV_succ]
    exact ih (i + 1) (by omega)
theorem impl_threePlaces_ev (a b : Int) (s : ByteArray) (hs : s.size ≤ 9223372036854775807) (ha0 : 0 ≤ a) (ha1 : a ≤ 9999) (hb0 : 0 < b) (hb1 : b ≤ 65521) : Ev (fun k => impl_threePlaces.f k a s b) (tripleV a b s 3) := impl_threePlaces_l0 a b s hs ha0 ha1 hb0 hb1 3 0 rfl
def xorV (l : List Int) (v x : Int) : Int := Go.bits .xor .i64 v (rd l x)
def valueV (a b : Int) (l : List Int) (s : ByteArray) : Int := (tripleV a b s 3).foldl (xorV l) 0
theorem spec_reValue_l0 (a b c : Int) (l xs : List Int) (hx : ∀ x ∈ xs, 0 ≤ x ∧ x < (l.length : Int)) (hl : xs.length ≤ 9223372036854775807) (d : Nat) : ∀ (i : Nat) (v : Int), i + d = xs.length → Ev (fun k => spec_reValue.l0 k v xs (xs.length : Int) (i : Int) a b c l) ((xs.drop i).foldl (xorV l) v) := by
  induction d with
  | zero =>
    intro i v hi
    refine Ev.succ ?_
    have h1 : ¬ ((i : Int) < (xs.length : Int)) := by omega
    simp only [spec_reValue.l0, h1, ↓reduceIte]
    exact Ev.some_ (by rw [List.drop_eq_nil_of_le (by omega)]; rfl)
  | succ d ih =>
    intro i v hi
    refine Ev.succ ?_
    have h0 : i < xs.length := by omega
    have h1 : (i : Int) < (xs.length : Int) := by omega
    have h2 : (0 : Int) ≤ (i : Int) := by omega
    have hw : wrap64 ((i : Int) + 1) = ((i + 1 : Nat) : Int) := by rw [w64 (by omega) (by omega)]; rfl
    have hr := hx _ (List.getElem_mem h0)
    rw [drop_cons xs i h0, List.foldl_cons]
    rw [← rd_nat xs i h0] at hr ⊢
    simp only [spec_reValue.l0, h1, h2, hr.1, hr.2, ↓reduceIte, hw]
    exact ih (i + 1) _ (by omega)
theorem spec_reValue_ev (a b c : Int) (l : List Int) (s : ByteArray) (hs : s.size ≤ 9223372036854775807) (h : goodTable a b c l = true) : Ev (fun k => spec_reValue.f k a b c l s) (valueV a b l s) := by
  obtain ⟨⟨a0, a1⟩, ⟨b0, b1⟩, _, hl, _⟩ := goodTable_of h
  unfold spec_reValue.f
  refine Ev.bind (spec_peTriple_ev a b s hs a0 a1 (by omega) (by omega)) ?_
  exact spec_reValue_l0 a b c l _ (fun x hx => by have := tripleV_range (by omega) x hx; omega) (by rw [tripleV_length]; omega) 3 0 0 (by rw [tripleV_length])
theorem xor_zero_l {x : Int} (h0 : 0 ≤ x) (h1 : x ≤ 65535) : Go.bits .xor .i64 0 x = x := by
  obtain ⟨n, rfl⟩ := Int.eq_ofNat_of_zero_le h0
  have h := (bits_nat64 0 n (by decide) (by omega)).2.2.1
  rw [show ((0 : Nat) : Int) = 0 from rfl] at h
  rw [h, Nat.zero_xor]
theorem table_range {c : Int} {l : List Int} (hc0 : 1 ≤ c) (hc1 : c ≤ 8) (h : ∀ x ∈ l, 0 ≤ x ∧ x ≤ 2 ^ c.toNat - 1) (i : Int) : 0 ≤ rd l i ∧ rd l i ≤ 255 := by
  have h2 := pow_le_of (n := c.toNat) (m := 8) (by omega)
  have h3 := pow_pos_ c.toNat
  unfold rd
  rw [List.getD_eq_getElem?_getD]
  cases e : l[i.toNat]? with
  | none => simp
  | some x =>
    have := h x (List.mem_of_getElem? e)
    simp at h2 ⊢
    omega
theorem impl_Table_of_in39_0_ev (a b c : Int) (l : List Int) (s : ByteArray) (hs : s.size ≤ 9223372036854775807) (h : goodTable a b c l = true) : Ev (fun k => impl_Table_of_in39_0.f k a b c l s) (valueV a b l s) := by
  obtain ⟨⟨a0, a1⟩, ⟨b0, b1⟩, ⟨c0, c1⟩, hl, hx⟩ := goodTable_of h
  unfold impl_Table_of_in39_0.f
  refine Ev.bind (impl_threePlaces_ev a b s hs a0 a1 (by omega) (by omega)) ?_
  have hr := tripleV_range (a := a) (s := s) (show 0 < b by omega)
  have h3 := tripleV_three a b s
  have e : impl_Table_value_in39_0.f a b c l (tripleV a b s 3) = some (valueV a b l s) := by
    unfold valueV
    rw [h3] at hr ⊢
    generalize placeV a 0 s b = x0 at *
    generalize placeV a 1 s b + b = x1 at *
    generalize placeV a 2 s b + 2 * b = x2 at *
    have r0 := hr x0 (by simp)
    have r1 := hr x1 (by simp)
    have r2 := hr x2 (by simp)
    have g0 : x0 < (l.length : Int) := by omega
    have g1 : x1 < (l.length : Int) := by omega
    have g2 : x2 < (l.length : Int) := by omega
    have hv := table_range c0 c1 hx x0
    have q0 : rd [x0, x1, x2] 0 = x0 := rfl
    have q1 : rd [x0, x1, x2] 1 = x1 := rfl
    have q2 : rd [x0, x1, x2] 2 = x2 := rfl
    have q3 : (([x0, x1, x2] : List Int).length : Int) = 3 := rfl
    simp only [impl_Table_value_in39_0.f, q0, q1, q2, r0.1, r1.1, r2.1, g0, g1, g2, q3, ↓reduceIte, Int.reduceLT, List.foldl_cons, List.foldl_nil, xorV, xor_zero_l hv.1 (show rd l x0 ≤ 65535 by omega)]
  simp only [e, Option.bind_some]
  exact Ev.now _
theorem laws_eqStringS_self (l : List ByteArray) (hl : l.length ≤ 9223372036854775807) : Ev (fun k => laws_eqStringS.f k l l) true := by
  unfold laws_eqStringS.f
  simp only [↓reduceIte]
  refine Ev.up (L := fun k i => laws_eqStringS.l0 k l l (i : Int)) (r := fun _ => true) l.length ?_ ?_ 0 (Nat.zero_le _)
  · refine Ev.succ ?_
    have h1 : ¬ ((l.length : Int) < (l.length : Int)) := by omega
    simp only [laws_eqStringS.l0, h1, ↓reduceIte]
    exact Ev.now _
  · intro i hi ih
    refine Ev.succ ?_
    have h1 : (i : Int) < (l.length : Int) := by omega
    have h2 : (0 : Int) ≤ (i : Int) := by omega
    have hw : wrap64 ((i : Int) + 1) = ((i + 1 : Nat) : Int) := by rw [w64 (by omega) (by omega)]; rfl
    simp only [laws_eqStringS.l0, h1, h2, ↓reduceIte, hw]
    exact ih
theorem laws_toStringS_l0 (l : List ByteArray) (hl : l.length ≤ 9223372036854775807) (d : Nat) : ∀ (i : Nat) (o : List ByteArray), o.length = l.length → o.take i = l.take i → i + d = l.length → Ev (fun k => laws_toStringS.l0 k l o (i : Int)) l := by
  induction d with
  | zero =>
    intro i o ho ht hi
    refine Ev.succ ?_
    have h1 : ¬ ((i : Int) < (l.length : Int)) := by omega
    simp only [laws_toStringS.l0, h1, ↓reduceIte]
    rw [List.take_of_length_le (by omega), List.take_of_length_le (by omega)] at ht
    exact Ev.some_ ht
  | succ d ih =>
    intro i o ho ht hi
    refine Ev.succ ?_
    have h1 : (i : Int) < (l.length : Int) := by omega
    have h2 : (0 : Int) ≤ (i : Int) := by omega
    have h3 : (i : Int) < (o.length : Int) := by omega
    have hw : wrap64 ((i : Int) + 1) = ((i + 1 : Nat) : Int) := by rw [w64 (by omega) (by omega)]; rfl
    simp only [laws_toStringS.l0, h1, h2, h3, ↓reduceIte, hw, Int.toNat_natCast]
    exact ih (i + 1) _ (by simp [ho]) (by rw [take_set_succ _ _ _ (by omega), ht, rdOf_nat _ _ _ (by omega), List.take_succ_eq_append_getElem (by omega)]) (by omega)
theorem laws_toStringS_ev (l : List ByteArray) (hl : l.length ≤ 17592186044416) : Ev (fun k => laws_toStringS.f k l) l := by
  have h1 : 0 ≤ (l.length : Int) := by omega
  have h2 : ((l.length : Int)).toNat ≤ 17592186044416 := by omega
  simp only [laws_toStringS.f, h1, h2, ↓reduceIte]
  exact laws_toStringS_l0 l (by omega) l.length 0 _ (by simp) (by simp) (by omega)
def szT : List ByteArray → Int → Int
  | [], m => m
  | s :: r, m => if m - (s.size : Int) < 0 then -1 else szT r (m - (s.size : Int))
theorem szT_le (l : List ByteArray) : ∀ m : Int, 0 ≤ m → szT l m ≤ m := by
  induction l with
  | nil => intro m h; exact Int.le_refl m
  | cons s r ih =>
    intro m h
    unfold szT
    by_cases c : m - (s.size : Int) < 0
    · rw [if_pos c]; omega
    · rw [if_neg c]
      have := ih (m - (s.size : Int)) (by omega)
      omega
theorem szT_sizes (l : List ByteArray) : ∀ m : Int, 0 ≤ szT l m → ∀ s ∈ l, (s.size : Int) ≤ m := by
  induction l with
  | nil => intro m h s hs; cases hs
  | cons x r ih =>
    intro m h s hs
    unfold szT at h
    by_cases c : m - (x.size : Int) < 0
    · rw [if_pos c] at h; omega
    · rw [if_neg c] at h
      rcases List.mem_cons.1 hs with rfl | hs
      · omega
      · have := ih _ h s hs
        omega
theorem laws_szStringS_l0 (l : List ByteArray) (hl : l.length ≤ 9223372036854775807) (hs : ∀ s ∈ l, s.size ≤ 9223372036854775807) (d : Nat) : ∀ (i : Nat) (m : Int), i + d = l.length → 0 ≤ m → m ≤ 1048576 → Ev (fun k => laws_szStringS.l0 k l m (i : Int)) (szT (l.drop i) m) := by
  induction d with
  | zero =>
    intro i m hi m0 m1
    refine Ev.succ ?_
    have h1 : ¬ ((i : Int) < (l.length : Int)) := by omega
    simp only [laws_szStringS.l0, h1, ↓reduceIte]
    exact Ev.some_ (by rw [List.drop_eq_nil_of_le (by omega)]; rfl)
  | succ d ih =>
    intro i m hi m0 m1
    refine Ev.succ ?_
    have h0 : i < l.length := by omega
    have h1 : (i : Int) < (l.length : Int) := by omega
    have h2 : (0 : Int) ≤ (i : Int) := by omega
    have hw : wrap64 ((i : Int) + 1) = ((i + 1 : Nat) : Int) := by rw [w64 (by omega) (by omega)]; rfl
    have hz := hs _ (List.getElem_mem h0)
    have hw2 : wrap64 (m - ((l[i]).size : Int)) = m - ((l[i]).size : Int) := w64 (by omega) (by omega)
    rw [drop_cons l i h0]
    simp only [laws_szStringS.l0, h1, h2, ↓reduceIte, hw, rdOf_nat ByteArray.empty l i h0, hw2, szT]
    by_cases c : m - ((l[i]).size : Int) < 0
    · simp only [c, ↓reduceIte]; exact Ev.now _
    · simp only [c, ↓reduceIte]
      exact ih (i + 1) _ (by omega) (by omega) (by omega)
def szTexts (l : List ByteArray) (m : Int) : Int := if m - (l.length : Int) < 0 then -1 else szT l (m - (l.length : Int))
theorem laws_szStringS_ev (l : List ByteArray) (m : Int) (hl : l.length ≤ 9223372036854775807) (hs : ∀ s ∈ l, s.size ≤ 9223372036854775807) (m0 : 0 ≤ m) (m1 : m ≤ 1048576) : Ev (fun k => laws_szStringS.f k l m) (szTexts l m) := by
  unfold laws_szStringS.f szTexts
  rw [w64 (n := m - (l.length : Int)) (by omega) (by omega)]
  by_cases c : m - (l.length : Int) < 0
  · simp only [c, ↓reduceIte]; exact Ev.now _
  · simp only [c, ↓reduceIte]
    exact laws_szStringS_l0 l hl hs l.length 0 _ (by omega) (by omega) (by omega)
theorem szTexts_of {l : List ByteArray} {m : Int} (h : ¬ szTexts l m < 0) : (l.length : Int) ≤ m ∧ szTexts l m ≤ m ∧ 0 ≤ szTexts l m := by
  have e : szTexts l m = if m - (l.length : Int) < 0 then -1 else szT l (m - (l.length : Int)) := rfl
  by_cases c : m - (l.length : Int) < 0
  · rw [if_pos c] at e; omega
  · rw [if_neg c] at e
    have := szT_le l (m - (l.length : Int)) (by omega)
    omega
theorem spec_IsKey_ev (s : ByteArray) (hs : s.size ≤ 9223372036854775807) : Ev (fun k => spec_IsKey.f k s) (isKey s) := by
  have h := Ev.up (L := fun k i => spec_IsKey.l0 k s (i : Int)) (r := fun i => ((bytesOf s).drop i).all okByte && decide (1 ≤ (s.size : Int) ∧ (s.size : Int) ≤ 12)) s.size ?_ ?_ 0 (Nat.zero_le _)
  · exact h
  · refine Ev.succ ?_
    have h1 : ¬ ((s.size : Int) < (s.size : Int)) := by omega
    simp only [spec_IsKey.l0, h1, ↓reduceIte, spec_l1In_eq, Option.bind_some]
    exact Ev.some_ (by rw [List.drop_of_length_le (by rw [bytesOf_length]; exact Nat.le_refl _)]; simp)
  · intro i hi ih
    refine Ev.succ ?_
    have h1 : (i : Int) < (s.size : Int) := by omega
    have h2 : (0 : Int) ≤ (i : Int) := by omega
    have hw : wrap64 ((i : Int) + 1) = ((i + 1 : Nat) : Int) := by rw [w64 (by omega) (by omega)]; rfl
    have hb := bt_nat s i hi
    simp only [spec_IsKey.l0, h1, h2, ↓reduceIte, hw]
    rw [drop_cons _ _ (by rw [bytesOf_length]; exact hi), List.all_cons, ← hb]
    by_cases c1 : bt s i < 33
    · simp only [c1, ↓reduceIte]
      exact Ev.some_ (by simp [okByte]; omega)
    · by_cases c2 : bt s i > 125
      · simp only [c1, c2, ↓reduceIte]
        exact Ev.some_ (by simp [okByte]; omega)
      · simp only [c1, c2, ↓reduceIte]
        have c3 : okByte (bt s i) = true := by simp [okByte]; omega
        rw [c3, Bool.true_and]
        exact ih
theorem impl_IsKey_ev (s : ByteArray) (hs : s.size ≤ 9223372036854775807) : Ev (fun k => impl_IsKey.f k s) (isKey s) := by
  have h := Ev.up (L := fun k i => impl_IsKey.l0 k s (s.size : Int) (i : Int)) (r := fun i => ((bytesOf s).drop i).all okByte && decide (1 ≤ (s.size : Int) ∧ (s.size : Int) ≤ 12)) s.size ?_ ?_ 0 (Nat.zero_le _)
  · exact h
  · refine Ev.succ ?_
    have h1 : ¬ ((s.size : Int) < (s.size : Int)) := by omega
    simp only [impl_IsKey.l0, h1, ↓reduceIte, impl_in_eq, Option.bind_some]
    exact Ev.some_ (by rw [List.drop_of_length_le (by rw [bytesOf_length]; exact Nat.le_refl _)]; simp)
  · intro i hi ih
    refine Ev.succ ?_
    have h1 : (i : Int) < (s.size : Int) := by omega
    have h2 : (0 : Int) ≤ (i : Int) := by omega
    have hw : wrap64 ((i : Int) + 1) = ((i + 1 : Nat) : Int) := by rw [w64 (by omega) (by omega)]; rfl
    have hb := bt_nat s i hi
    simp only [impl_IsKey.l0, h1, h2, ↓reduceIte, hw]
    rw [drop_cons _ _ (by rw [bytesOf_length]; exact hi), List.all_cons, ← hb]
    by_cases c1 : bt s i < 33
    · simp only [c1, ↓reduceIte]
      exact Ev.some_ (by simp [okByte]; omega)
    · by_cases c2 : bt s i > 125
      · simp only [c1, c2, ↓reduceIte]
        exact Ev.some_ (by simp [okByte]; omega)
      · simp only [c1, c2, ↓reduceIte]
        have c3 : okByte (bt s i) = true := by simp [okByte]; omega
        rw [c3, Bool.true_and]
        exact ih
def keyAt (l : List ByteArray) (i : Nat) : Bool := isKey (rdOf ByteArray.empty l (i : Int)) && (decide (i = 0) || Op.bytesLess (rdOf ByteArray.empty l ((i - 1 : Nat) : Int)).toList (rdOf ByteArray.empty l (i : Int)).toList)
def keysFrom (l : List ByteArray) (i : Nat) : Bool := (List.range' i (l.length - i)).all (keyAt l) && decide ((l.length : Int) ≤ 40)
def areKeys (l : List ByteArray) : Bool := keysFrom l 0
theorem keysFrom_end (l : List ByteArray) : keysFrom l l.length = decide ((l.length : Int) ≤ 40) := by simp [keysFrom]
theorem keysFrom_step (l : List ByteArray) (i : Nat) (h : i < l.length) : keysFrom l i = (keyAt l i && keysFrom l (i + 1)) := by
  unfold keysFrom
  rw [show l.length - i = (l.length - (i + 1)) + 1 from by omega, List.range'_succ, List.all_cons, Bool.and_assoc]
theorem areKeys_of {l : List ByteArray} (h : areKeys l = true) : l.length ≤ 40 ∧ ∀ s ∈ l, isKey s = true := by
  unfold areKeys keysFrom at h
  simp only [Bool.and_eq_true, decide_eq_true_eq, List.all_eq_true, List.mem_range'] at h
  refine ⟨by omega, fun s hs => ?_⟩
  obtain ⟨i, hi, rfl⟩ := List.getElem_of_mem hs
  have := h.1 i ⟨i, by omega, by omega⟩
  unfold keyAt at this
  simp only [Bool.and_eq_true] at this
  rw [rdOf_nat _ _ _ hi] at this
  exact this.1
theorem rdOf_size {l : List ByteArray} (h : ∀ s ∈ l, s.size ≤ 9223372036854775807) (i : Int) : (rdOf ByteArray.empty l i).size ≤ 9223372036854775807 := by
  unfold rdOf
  rw [List.getD_eq_getElem?_getD]
  cases e : l[i.toNat]? with
  | none => simp
  | some x => simpa using h x (List.mem_of_getElem? e)
theorem spec_biKeys_ev (l : List ByteArray) (hl : l.length ≤ 9223372036854775807) (hs : ∀ s ∈ l, s.size ≤ 9223372036854775807) : Ev (fun k => spec_biKeys.f k l) (areKeys l) := by
  refine Ev.up (L := fun k i => spec_biKeys.l0 k l l (l.length : Int) (i : Int)) (r := fun i => keysFrom l i) l.length ?_ ?_ 0 (Nat.zero_le _)
  · refine Ev.succ ?_
    have h1 : ¬ ((l.length : Int) < (l.length : Int)) := by omega
    simp only [spec_biKeys.l0, h1, ↓reduceIte, keysFrom_end]
    exact Ev.now _
  · intro i hi ih
    refine Ev.succ ?_
    have h1 : (i : Int) < (l.length : Int) := by omega
    have h2 : (0 : Int) ≤ (i : Int) := by omega
    have hw : wrap64 ((i : Int) + 1) = ((i + 1 : Nat) : Int) := by rw [w64 (by omega) (by omega)]; rfl
    simp only [spec_biKeys.l0, h1, h2, ↓reduceIte, hw]
    refine Ev.bind (spec_IsKey_ev _ (rdOf_size hs _)) ?_
    rw [keysFrom_step l i hi]
    unfold keyAt
    cases isKey (rdOf ByteArray.empty l (i : Int)) with
    | false => simp only [Bool.false_eq_true, ↓reduceIte, Bool.false_and]; exact Ev.now _
    | true =>
      simp only [↓reduceIte, Bool.true_and]
      by_cases c : i = 0
      · subst c
        simp only [Int.natCast_zero, decide_true, Bool.true_or, Bool.true_and, ↓reduceIte, gt_iff_lt, Int.lt_irrefl]
        exact ih
      · have h3 : (i : Int) > 0 := by omega
        have hw1 : wrap64 ((i : Int) - 1) = ((i - 1 : Nat) : Int) := by rw [w64 (by omega) (by omega)]; omega
        have h4 : (0 : Int) ≤ ((i - 1 : Nat) : Int) := by omega
        have h5 : ((i - 1 : Nat) : Int) < (l.length : Int) := by omega
        simp only [c, h3, hw1, h4, h5, ↓reduceIte, decide_false, Bool.false_or]
        cases Op.bytesLess (rdOf ByteArray.empty l ((i - 1 : Nat) : Int)).toList (rdOf ByteArray.empty l (i : Int)).toList with
        | false => simp only [Bool.false_eq_true, ↓reduceIte, Bool.false_and]; exact Ev.now _
        | true => simp only [↓reduceIte, Bool.true_and]; exact ih
theorem impl_AreKeys_ev (l : List ByteArray) (hl : l.length ≤ 9223372036854775807) (hs : ∀ s ∈ l, s.size ≤ 9223372036854775807) : Ev (fun k => impl_AreKeys.f k l) (areKeys l) := by
  refine Ev.up (L := fun k i => impl_AreKeys.l0 k l l (l.length : Int) (i : Int)) (r := fun i => keysFrom l i) l.length ?_ ?_ 0 (Nat.zero_le _)
  · refine Ev.succ ?_
    have h1 : ¬ ((l.length : Int) < (l.length : Int)) := by omega
    simp only [impl_AreKeys.l0, h1, ↓reduceIte, keysFrom_end]
    exact Ev.now _
  · intro i hi ih
    refine Ev.succ ?_
    have h1 : (i : Int) < (l.length : Int) := by omega
    have h2 : (0 : Int) ≤ (i : Int) := by omega
    have hw : wrap64 ((i : Int) + 1) = ((i + 1 : Nat) : Int) := by rw [w64 (by omega) (by omega)]; rfl
    simp only [impl_AreKeys.l0, h1, h2, ↓reduceIte, hw]
    refine Ev.bind (impl_IsKey_ev _ (rdOf_size hs _)) ?_
    rw [keysFrom_step l i hi]
    unfold keyAt
    cases isKey (rdOf ByteArray.empty l (i : Int)) with
    | false => simp only [Bool.false_eq_true, ↓reduceIte, Bool.false_and]; exact Ev.now _
    | true =>
      simp only [↓reduceIte, Bool.true_and]
      by_cases c : i = 0
      · subst c
        simp only [Int.natCast_zero, decide_true, Bool.true_or, Bool.true_and, ↓reduceIte, gt_iff_lt, Int.lt_irrefl]
        exact ih
      · have h3 : (i : Int) > 0 := by omega
        have hw1 : wrap64 ((i : Int) - 1) = ((i - 1 : Nat) : Int) := by rw [w64 (by omega) (by omega)]; omega
        have h4 : (0 : Int) ≤ ((i - 1 : Nat) : Int) := by omega
        have h5 : ((i - 1 : Nat) : Int) < (l.length : Int) := by omega
        simp only [c, h3, hw1, h4, h5, ↓reduceIte, decide_false, Bool.false_or]
        cases Op.bytesLess (rdOf ByteArray.empty l ((i - 1 : Nat) : Int)).toList (rdOf ByteArray.empty l (i : Int)).toList with
        | false => simp only [Bool.false_eq_true, ↓reduceIte, Bool.false_and]; exact Ev.now _
        | true => simp only [↓reduceIte, Bool.true_and]; exact ih

def diffFrom (a b : Int) (l : List Int) (a' b' : Int) (l' : List Int) (ks : List ByteArray) (i : Nat) : Int × Bool := match (ks.drop i).findIdx? (fun s => valueV a b l s != valueV a' b' l' s) with | some j => (((i + j : Nat) : Int), true) | none => (0, false)
theorem diff_end (a b : Int) (l : List Int) (a' b' : Int) (l' : List Int) (ks : List ByteArray) : diffFrom a b l a' b' l' ks ks.length = (0, false) := by simp [diffFrom]
theorem diff_step (a b : Int) (l : List Int) (a' b' : Int) (l' : List Int) (ks : List ByteArray) (i : Nat) (h : i < ks.length) : diffFrom a b l a' b' l' ks i = if valueV a b l ks[i] = valueV a' b' l' ks[i] then diffFrom a b l a' b' l' ks (i + 1) else ((i : Int), true) := by
  unfold diffFrom
  rw [drop_cons ks i h, List.findIdx?_cons]
  by_cases c : valueV a b l ks[i] = valueV a' b' l' ks[i]
  · simp only [c, bne_self_eq_false, Bool.false_eq_true, ↓reduceIte]
    cases (ks.drop (i + 1)).findIdx? (fun s => valueV a b l s != valueV a' b' l' s) with
    | none => rfl
    | some j =>
      simp
      omega
  · have : (valueV a b l ks[i] != valueV a' b' l' ks[i]) = true := by simpa using c
    simp [this, c]
def diffV (a b c : Int) (l : List Int) (a' b' c' : Int) (l' : List Int) (ks : List ByteArray) : Int × Bool := if goodTable a b c l && (goodTable a' b' c' l' && areKeys ks) then diffFrom a b l a' b' l' ks 0 else (0, false)
theorem spec_diff_l0 (a b c : Int) (l : List Int) (a' b' c' : Int) (l' : List Int) (ks : List ByteArray) (h : goodTable a b c l = true) (h' : goodTable a' b' c' l' = true) (hk : ks.length ≤ 40) (hs : ∀ s ∈ ks, s.size ≤ 9223372036854775807) : Ev (fun k => spec_FirstDifference.l0 k ks (ks.length : Int) ((0 : Nat) : Int) a b c l a' b' c' l') (diffFrom a b l a' b' l' ks 0) := by
  refine Ev.up (L := fun k i => spec_FirstDifference.l0 k ks (ks.length : Int) (i : Int) a b c l a' b' c' l') (r := fun i => diffFrom a b l a' b' l' ks i) ks.length ?_ ?_ 0 (Nat.zero_le _)
  · refine Ev.succ ?_
    have h1 : ¬ ((ks.length : Int) < (ks.length : Int)) := by omega
    simp only [spec_FirstDifference.l0, h1, ↓reduceIte, diff_end]
    exact Ev.now _
  · intro i hi ih
    refine Ev.succ ?_
    have h1 : (i : Int) < (ks.length : Int) := by omega
    have h2 : (0 : Int) ≤ (i : Int) := by omega
    have hw : wrap64 ((i : Int) + 1) = ((i + 1 : Nat) : Int) := by rw [w64 (by omega) (by omega)]; rfl
    have hz := hs _ (List.getElem_mem hi)
    simp only [spec_FirstDifference.l0, h1, h2, ↓reduceIte, hw, rdOf_nat ByteArray.empty ks i hi]
    refine Ev.bind (spec_reValue_ev a b c l _ hz h) ?_
    refine Ev.bind (spec_reValue_ev a' b' c' l' _ hz h') ?_
    rw [diff_step a b l a' b' l' ks i hi]
    by_cases e : valueV a b l ks[i] = valueV a' b' l' ks[i]
    · simp only [e, ↓reduceIte]; exact ih
    · simp only [e, ↓reduceIte]; exact Ev.now _
theorem impl_diff_l0 (a b c : Int) (l : List Int) (a' b' c' : Int) (l' : List Int) (ks : List ByteArray) (h : goodTable a b c l = true) (h' : goodTable a' b' c' l' = true) (hk : ks.length ≤ 40) (hs : ∀ s ∈ ks, s.size ≤ 9223372036854775807) : Ev (fun k => impl_FirstDifference.l0 k ks (ks.length : Int) ((0 : Nat) : Int) a b c l a' b' c' l') (diffFrom a b l a' b' l' ks 0) := by
  refine Ev.up (L := fun k i => impl_FirstDifference.l0 k ks (ks.length : Int) (i : Int) a b c l a' b' c' l') (r := fun i => diffFrom a b l a' b' l' ks i) ks.length ?_ ?_ 0 (Nat.zero_le _)
  · refine Ev.succ ?_
    have h1 : ¬ ((ks.length : Int) < (ks.length : Int)) := by omega
    simp only [impl_FirstDifference.l0, h1, ↓reduceIte, diff_end]
    exact Ev.now _
  · intro i hi ih
    refine Ev.succ ?_
    have h1 : (i : Int) < (ks.length : Int) := by omega
    have h2 : (0 : Int) ≤ (i : Int) := by omega
    have hw : wrap64 ((i : Int) + 1) = ((i + 1 : Nat) : Int) := by rw [w64 (by omega) (by omega)]; rfl
    have hz := hs _ (List.getElem_mem hi)
    simp only [impl_FirstDifference.l0, h1, h2, ↓reduceIte, hw, rdOf_nat ByteArray.empty ks i hi]
    refine Ev.bind (impl_Table_of_in39_0_ev a b c l _ hz h) ?_
    refine Ev.bind (impl_Table_of_in39_0_ev a' b' c' l' _ hz h') ?_
    rw [diff_step a b l a' b' l' ks i hi]
    by_cases e : valueV a b l ks[i] = valueV a' b' l' ks[i]
    · simp only [e, ↓reduceIte]; exact ih
    · simp only [e, ↓reduceIte]; exact Ev.now _
theorem spec_FirstDifference_ev (a b c : Int) (l : List Int) (a' b' c' : Int) (l' : List Int) (ks : List ByteArray) (hl : l.length ≤ 9223372036854775807) (hl' : l'.length ≤ 9223372036854775807) (hk : ks.length ≤ 9223372036854775807) (hs : ∀ s ∈ ks, s.size ≤ 9223372036854775807) : Ev (fun k => spec_FirstDifference.f k a b c l a' b' c' l' ks) (diffV a b c l a' b' c' l' ks) := by
  unfold spec_FirstDifference.f diffV
  refine Ev.bind (spec_reTable_ev a b c l hl) ?_
  cases h : goodTable a b c l with
  | false => simp only [Bool.false_eq_true, ↓reduceIte, Bool.false_and]; refine Ev.succ ?_; simp only [spec_FirstDifference.j0, ↓reduceIte]; exact Ev.now _
  | true =>
    simp only [↓reduceIte, Bool.true_and]
    refine Ev.bind (spec_reTable_ev a' b' c' l' hl') ?_
    cases h' : goodTable a' b' c' l' with
    | false => simp only [Bool.false_eq_true, ↓reduceIte, Bool.false_and]; refine Ev.succ ?_; simp only [spec_FirstDifference.j0, ↓reduceIte]; exact Ev.now _
    | true =>
      simp only [↓reduceIte, Bool.true_and]
      refine Ev.bind (spec_biKeys_ev ks hk hs) ?_
      refine Ev.succ ?_
      cases hks : areKeys ks with
      | false => simp only [spec_FirstDifference.j0, Bool.not_false, Bool.false_eq_true, ↓reduceIte]; exact Ev.now _
      | true =>
        simp only [spec_FirstDifference.j0, Bool.not_true, Bool.false_eq_true, ↓reduceIte]
        exact spec_diff_l0 a b c l a' b' c' l' ks h h' (areKeys_of hks).1 hs
theorem impl_FirstDifference_ev (a b c : Int) (l : List Int) (a' b' c' : Int) (l' : List Int) (ks : List ByteArray) (hl : l.length ≤ 9223372036854775807) (hl' : l'.length ≤ 9223372036854775807) (hk : ks.length ≤ 9223372036854775807) (hs : ∀ s ∈ ks, s.size ≤ 9223372036854775807) : Ev (fun k => impl_FirstDifference.f k a b c l a' b' c' l' ks) (diffV a b c l a' b' c' l' ks) := by
  unfold impl_FirstDifference.f diffV
  refine Ev.bind (impl_IsTable_ev a b c l hl) ?_
  cases h : goodTable a b c l with
  | false => simp only [Bool.false_eq_true, ↓reduceIte, Bool.false_and]; refine Ev.succ ?_; simp only [impl_FirstDifference.j0, ↓reduceIte]; exact Ev.now _
  | true =>
    simp only [↓reduceIte, Bool.true_and]
    refine Ev.bind (impl_IsTable_ev a' b' c' l' hl') ?_
    cases h' : goodTable a' b' c' l' with
    | false => simp only [Bool.false_eq_true, ↓reduceIte, Bool.false_and]; refine Ev.succ ?_; simp only [impl_FirstDifference.j0, ↓reduceIte]; exact Ev.now _
    | true =>
      simp only [↓reduceIte, Bool.true_and]
      refine Ev.bind (impl_AreKeys_ev ks hk hs) ?_
      refine Ev.succ ?_
      cases hks : areKeys ks with
      | false => simp only [impl_FirstDifference.j0, Bool.not_false, Bool.false_eq_true, ↓reduceIte]; exact Ev.now _
      | true =>
        simp only [impl_FirstDifference.j0, Bool.not_true, Bool.false_eq_true, ↓reduceIte]
        exact impl_diff_l0 a b c l a' b' c' l' ks h h' (areKeys_of hks).1 hs
theorem FnExactFirstDifference : ∀ (a0_0 : Int) (a0_1 : Int) (a0_2 : Int) (l0_3 : List Int) (a1_0 : Int) (a1_1 : Int) (a1_2 : Int) (l1_3 : List Int) (l2 : List ByteArray), ((Lit.int .i64 a0_0).wf = true) → ((Lit.int .i64 a0_1).wf = true) → ((Lit.int .i64 a0_2).wf = true) → (l0_3.length ≤ maxLen ∧ ∀ l0_3' ∈ l0_3, (Lit.int .i64 l0_3').wf = true) → ((Lit.int .i64 a1_0).wf = true) → ((Lit.int .i64 a1_1).wf = true) → ((Lit.int .i64 a1_2).wf = true) → (l1_3.length ≤ maxLen ∧ ∀ l1_3' ∈ l1_3, (Lit.int .i64 l1_3').wf = true) → (l2.length ≤ maxLen ∧ ∀ l2' ∈ l2, l2'.size ≤ maxLen) → ∃ k, laws_FnExactFirstDifference.f k a0_0 a0_1 a0_2 l0_3 a1_0 a1_1 a1_2 l1_3 l2 = some true := by
  intro a b c l a' b' c' l' ks h0 h1 h2 hl h0' h1' h2' hl' hk
  refine Ev.rounds ?_
  have hl1 : l.length ≤ 9223372036854775807 := by have := hl.1; unfold maxLen at this; exact this
  have hl2 : l'.length ≤ 9223372036854775807 := by have := hl'.1; unfold maxLen at this; exact this
  have hk1 : ks.length ≤ 9223372036854775807 := by have := hk.1; unfold maxLen at this; exact this
  have hk2 : ∀ s ∈ ks, s.size ≤ 9223372036854775807 := by have := hk.2; unfold maxLen at this; exact this
  unfold laws_FnExactFirstDifference.f
  simp only [laws_szTable_eq a b c l 1048576 (by decide) (by decide) hl1, Option.bind_some]
  by_cases e : (l.length : Int) ≤ 1048576
  · simp only [e, ↓reduceIte, show ¬ (1048576 - (l.length : Int) < 0) from by omega, laws_szTable_eq a' b' c' l' (1048576 - (l.length : Int)) (by omega) (by omega) hl2, Option.bind_some]
    by_cases e' : (l'.length : Int) ≤ 1048576 - (l.length : Int)
    · simp only [e', ↓reduceIte, show ¬ (1048576 - (l.length : Int) - (l'.length : Int) < 0) from by omega]
      refine Ev.bind (laws_szStringS_ev ks _ hk1 hk2 (by omega) (by omega)) ?_
      by_cases z : szTexts ks (1048576 - (l.length : Int) - (l'.length : Int)) < 0
      · simp only [z, ↓reduceIte]; exact Ev.now _
      · simp only [z, ↓reduceIte]
        have zz := szTexts_of z
        refine Ev.bind (laws_toTable_ev a b c l (by omega)) ?_
        refine Ev.bind (laws_toTable_ev a' b' c' l' (by omega)) ?_
        refine Ev.bind (laws_toStringS_ev ks (by omega)) ?_
        refine Ev.bind (spec_FirstDifference_ev a b c l a' b' c' l' ks hl1 hl2 hk1 hk2) ?_
        refine Ev.bind (laws_toTable_ev a b c l (by omega)) ?_
        refine Ev.bind (laws_toTable_ev a' b' c' l' (by omega)) ?_
        refine Ev.bind (laws_toStringS_ev ks (by omega)) ?_
        refine Ev.bind (impl_FirstDifference_ev a b c l a' b' c' l' ks hl1 hl2 hk1 hk2) ?_
        simp only [bne_self_eq_false, ↓reduceIte]
        refine Ev.succ ?_
        simp only [laws_FnExactFirstDifference.j0, Bool.false_eq_true, ↓reduceIte]
        refine Ev.bind (laws_toTable_ev a b c l (by omega)) ?_
        refine Ev.bind (laws_eqTable_self a b c l hl1) ?_
        simp only [↓reduceIte]
        refine Ev.bind (laws_toTable_ev a' b' c' l' (by omega)) ?_
        refine Ev.bind (laws_eqTable_self a' b' c' l' hl2) ?_
        simp only [↓reduceIte]
        refine Ev.bind (laws_toStringS_ev ks (by omega)) ?_
        refine Ev.bind (laws_eqStringS_self ks hk1) ?_
        simp only [↓reduceIte]
        exact Ev.now _
    · simp only [e', ↓reduceIte, show ((-1 : Int) < 0) from by decide]
      exact Ev.now _
  · simp only [e, ↓reduceIte, show ((-1 : Int) < 0) from by decide]
    exact Ev.now _

end Go.Proofs.Ytmiekfffaaagpaa.Pure
