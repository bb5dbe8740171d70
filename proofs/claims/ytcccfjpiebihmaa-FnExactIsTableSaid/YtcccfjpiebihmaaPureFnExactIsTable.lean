/- The program's IsTable returns what the reference's returns, for all arguments. -/
import Derived.Test.YtcccfjpiebihmaaPFnExactIsTablex4
import Derived.Test.YtcccfjpiebihmaaBase
namespace Go.Proofs.Ytcccfjpiebihmaa.Pure
open Go.RowKit Go.Proofs.Ytcccfjpiebihmaa.PFnExactIsTable Go.Proofs.YtcccfjpiebihmaaW.PrintWords Go.Proofs.YtcccfjpiebihmaaW.PrintLast Go.Proofs.Ytcccfjpiebihmaa.Base
set_option linter.unusedVariables false
set_option linter.unusedSimpArgs false

theorem laws_szIntS_eq (l : List Int) (a : Int) (h0 : 0 ≤ a) (h1 : a ≤ 1048576) (hl : l.length ≤ 9223372036854775807) : laws_szIntS.f l a = some (if (l.length : Int) ≤ a then a - l.length else -1) := by
  unfold laws_szIntS.f
  rw [w64 (by omega) (by omega)]
  by_cases c : (l.length : Int) ≤ a
  · rw [if_neg (by omega), if_pos c]
  · rw [if_pos (by omega), if_neg c]
theorem laws_toIntS_l0 (l : List Int) (hl : l.length ≤ 9223372036854775807) (d : Nat) : ∀ (i : Nat) (o : List Int), o.length = l.length → o.take i = l.take i → i + d = l.length → Ev (fun k => laws_toIntS.l0 k l o (i : Int)) l := by
  induction d with
  | zero =>
    intro i o ho ht hi
    refine Ev.succ ?_
    have h1 : ¬ ((i : Int) < (l.length : Int)) := by omega
    simp only [laws_toIntS.l0, h1, ↓reduceIte]
    rw [List.take_of_length_le (by omega), List.take_of_length_le (by omega)] at ht
    exact Ev.some_ ht
  | succ d ih =>
    intro i o ho ht hi
    refine Ev.succ ?_
    have h1 : (i : Int) < (l.length : Int) := by omega
    have h2 : (0 : Int) ≤ (i : Int) := by omega
    have h3 : (i : Int) < (o.length : Int) := by omega
    have hw : wrap64 ((i : Int) + 1) = ((i + 1 : Nat) : Int) := by rw [w64 (by omega) (by omega)]; rfl
    simp only [laws_toIntS.l0, h1, h2, h3, ↓reduceIte, hw, Int.toNat_natCast]
    exact ih (i + 1) _ (by simp [ho]) (by rw [take_set_succ _ _ _ (by omega), ht, rd_nat _ _ (by omega), List.take_succ_eq_append_getElem (by omega)]) (by omega)
theorem laws_toIntS_ev (l : List Int) (hl : l.length ≤ 35184372088832) : Ev (fun k => laws_toIntS.f k l) l := by
  have h1 : 0 ≤ (l.length : Int) := by omega
  have h2 : ((l.length : Int)).toNat ≤ 35184372088832 := by omega
  simp only [laws_toIntS.f, h1, h2, ↓reduceIte]
  exact laws_toIntS_l0 l (by omega) l.length 0 _ (by simp) (by simp) (by omega)
theorem laws_eqIntS_self (l : List Int) (hl : l.length ≤ 9223372036854775807) : Ev (fun k => laws_eqIntS.f k l l) true := by
  unfold laws_eqIntS.f
  simp only [↓reduceIte]
  refine Ev.up (L := fun k i => laws_eqIntS.l0 k l l (i : Int)) (r := fun _ => true) l.length ?_ ?_ 0 (Nat.zero_le _)
  · refine Ev.succ ?_
    have h1 : ¬ ((l.length : Int) < (l.length : Int)) := by omega
    simp only [laws_eqIntS.l0, h1, ↓reduceIte]
    exact Ev.now _
  · intro i hi ih
    refine Ev.succ ?_
    have h1 : (i : Int) < (l.length : Int) := by omega
    have h2 : (0 : Int) ≤ (i : Int) := by omega
    have hw : wrap64 ((i : Int) + 1) = ((i + 1 : Nat) : Int) := by rw [w64 (by omega) (by omega)]; rfl
    simp only [laws_eqIntS.l0, h1, h2, ↓reduceIte, hw]
    exact ih
theorem laws_szTable_eq (a b c : Int) (l : List Int) (m : Int) (h0 : 0 ≤ m) (h1 : m ≤ 1048576) (hl : l.length ≤ 9223372036854775807) : laws_szTable.f a b c l m = some (if (l.length : Int) ≤ m then m - l.length else -1) := by
  simp only [laws_szTable.f, laws_szIntS_eq l m h0 h1 hl, Option.bind_some]
  by_cases c : (l.length : Int) ≤ m
  · simp only [c, ↓reduceIte, show ¬ (m - (l.length : Int) < 0) from by omega]
  · simp only [c, ↓reduceIte, show ((-1 : Int) < 0) from by decide]
theorem laws_toTable_ev (a b c : Int) (l : List Int) (hl : l.length ≤ 1048576) : Ev (fun k => laws_toTable.f k a b c l) (a, b, c, l) := by
  unfold laws_toTable.f
  exact Ev.bind (laws_toIntS_ev l (by omega)) (Ev.now _)
theorem laws_eqTable_self (a b c : Int) (l : List Int) (hl : l.length ≤ 9223372036854775807) : Ev (fun k => laws_eqTable.f k a b c l a b c l) true := by
  simp only [laws_eqTable.f, ↓reduceIte]
  exact Ev.bind (laws_eqIntS_self l hl) (by simp only [↓reduceIte]; exact Ev.now _)
theorem impl_in_eq (a b c : Int) : impl_in.f a b c = some (decide (b ≤ a ∧ a ≤ c)) := by
  unfold impl_in.f
  by_cases h : b ≤ a <;> simp [h]
theorem top_range {c : Int} (h0 : 1 ≤ c) (h1 : c ≤ 8) : 2 ≤ (2 : Int) ^ c.toNat ∧ (2 : Int) ^ c.toNat ≤ 256 := by
  have a := pow_le_of (n := 1) (m := c.toNat) (by omega)
  have b := pow_le_of (n := c.toNat) (m := 8) (by omega)
  simp at a b
  exact ⟨a, b⟩
theorem impl_IsTablec1_eq (x a b c : Int) (l : List Int) (hc0 : 1 ≤ c) (hc1 : c ≤ 8) : impl_IsTablec1.f x a b c l = some (!inB 0 (2 ^ c.toNat - 1) x) := by
  have hr := top_range hc0 hc1
  unfold impl_IsTablec1.f
  rw [if_pos (by omega), shl_one (by omega) (by omega), w64 (by omega) (by omega)]
  simp only [impl_in_eq, Option.bind_some, inB]
theorem slices_IndexFunc_int_int_impl_IsTablec1_ev (xs : List Int) (a b c : Int) (l : List Int) (hx : xs.length ≤ 9223372036854775807) (hc0 : 1 ≤ c) (hc1 : c ≤ 8) : Ev (fun k => slices_IndexFunc_int_int_impl_IsTablec1.f k xs a b c l) (idxV (fun x => !inB 0 (2 ^ c.toNat - 1) x) xs 0) := by
  refine Ev.up (L := fun k i => slices_IndexFunc_int_int_impl_IsTablec1.l0 k xs (xs.length : Int) (i : Int) a b c l) (r := fun i => idxV (fun x => !inB 0 (2 ^ c.toNat - 1) x) xs i) xs.length ?_ ?_ 0 (Nat.zero_le _)
  · refine Ev.succ ?_
    have h1 : ¬ ((xs.length : Int) < (xs.length : Int)) := by omega
    simp only [slices_IndexFunc_int_int_impl_IsTablec1.l0, h1, ↓reduceIte]
    exact Ev.some_ (idxV_end _ _).symm
  · intro i hi ih
    refine Ev.succ ?_
    have h1 : (i : Int) < (xs.length : Int) := by omega
    have h2 : (0 : Int) ≤ (i : Int) := by omega
    have hw : wrap64 ((i : Int) + 1) = ((i + 1 : Nat) : Int) := by rw [w64 (by omega) (by omega)]; rfl
    have e := rd_nat xs i hi
    simp only [slices_IndexFunc_int_int_impl_IsTablec1.l0, h1, h2, ↓reduceIte, hw]
    simp only [impl_IsTablec1_eq (rd xs (i : Int)) a b c l hc0 hc1, Option.bind_some]
    cases hp : (!inB 0 (2 ^ c.toNat - 1) (rd xs (i : Int))) with
    | true =>
      simp only [↓reduceIte]
      exact Ev.some_ (idxV_hit hi (by rw [← e]; exact hp)).symm
    | false =>
      simp only [Bool.false_eq_true, ↓reduceIte]
      rw [idxV_miss hi (by rw [← e]; exact hp)]
      exact ih
theorem slices_ContainsFunc_int_int_impl_IsTablec1_ev (xs : List Int) (a b c : Int) (l : List Int) (hx : xs.length ≤ 9223372036854775807) (hc0 : 1 ≤ c) (hc1 : c ≤ 8) : Ev (fun k => slices_ContainsFunc_int_int_impl_IsTablec1.f k xs a b c l) (xs.any (fun x => !inB 0 (2 ^ c.toNat - 1) x)) := by
  unfold slices_ContainsFunc_int_int_impl_IsTablec1.f
  refine Ev.bind (slices_IndexFunc_int_int_impl_IsTablec1_ev xs a b c l hx hc0 hc1) ?_
  rw [idxV_ge]
  exact Ev.now _
theorem spec_l1In_eq (a b c : Int) : spec_l1In.f a b c = some (decide (b ≤ a ∧ a ≤ c)) := by
  unfold spec_l1In.f
  by_cases h : b ≤ a <;> simp [h]
theorem spec_l1All_ev (l : List Int) (a b : Int) (hl : l.length ≤ 9223372036854775807) : Ev (fun k => spec_l1All.f k l a b) (l.all (inB a b)) := by
  have h := Ev.up (L := fun k i => spec_l1All.l0 k a b l (l.length : Int) (i : Int)) (r := fun i => (l.drop i).all (inB a b)) l.length ?_ ?_ 0 (Nat.zero_le _)
  · exact h
  · refine Ev.succ ?_
    have h1 : ¬ ((l.length : Int) < (l.length : Int)) := by omega
    simp only [spec_l1All.l0, h1, ↓reduceIte]
    exact Ev.some_ (by simp)
  · intro i hi ih
    refine Ev.succ ?_
    have h1 : (i : Int) < (l.length : Int) := by omega
    have h2 : (0 : Int) ≤ (i : Int) := by omega
    have hw : wrap64 ((i : Int) + 1) = ((i + 1 : Nat) : Int) := by rw [w64 (by omega) (by omega)]; rfl
    simp only [spec_l1All.l0, h1, h2, ↓reduceIte, hw, spec_l1In_eq, Option.bind_some]
    rw [drop_cons _ _ hi, List.all_cons, ← rd_nat _ _ hi]
    by_cases c : a ≤ rd l (i : Int) ∧ rd l (i : Int) ≤ b
    · have c2 : inB a b (rd l (i : Int)) = true := by simp [inB, c]
      simp only [c, and_self, decide_true, ↓reduceIte, c2, Bool.true_and]
      exact ih
    · have c2 : inB a b (rd l (i : Int)) = false := by simp [inB]; omega
      simp only [c, decide_false, Bool.false_eq_true, ↓reduceIte, c2, Bool.false_and]
      exact Ev.now _
theorem spec_reWidth_eq (a : Int) : spec_reWidth.f a = some (decide (1 ≤ a ∧ a ≤ 8)) := by
  simp only [spec_reWidth.f, spec_l1In_eq, Option.bind_some]
theorem spec_reTop_eq (a : Int) (h0 : 0 ≤ a) (h1 : a ≤ 62) : spec_reTop.f a = some (2 ^ a.toNat) := by
  unfold spec_reTop.f
  rw [if_pos h0, shl_one h0 h1]
theorem impl_segmentOk_eq (a : Int) : impl_segmentOk.f a = some (decide (1 ≤ a ∧ a ≤ 24)) := by
  simp only [impl_segmentOk.f, impl_in_eq, Option.bind_some]
theorem impl_widthOk_eq (a : Int) : impl_widthOk.f a = some (decide (1 ≤ a ∧ a ≤ 8)) := by
  simp only [impl_widthOk.f, impl_in_eq, Option.bind_some]
theorem impl_isSeed_eq (a : Int) : impl_isSeed.f a = some (decide (0 ≤ a ∧ a ≤ 9999)) := by
  simp only [impl_isSeed.f, impl_in_eq, Option.bind_some]
def goodTable (a b c : Int) (l : List Int) : Bool := decide ((0 ≤ a ∧ a ≤ 9999) ∧ (1 ≤ b ∧ b ≤ 24) ∧ (1 ≤ c ∧ c ≤ 8) ∧ (l.length : Int) = 3 * b) && l.all (inB 0 (2 ^ c.toNat - 1))
theorem goodTable_of {a b c : Int} {l : List Int} (h : goodTable a b c l = true) : (0 ≤ a ∧ a ≤ 9999) ∧ (1 ≤ b ∧ b ≤ 24) ∧ (1 ≤ c ∧ c ≤ 8) ∧ (l.length : Int) = 3 * b ∧ ∀ x ∈ l, 0 ≤ x ∧ x ≤ 2 ^ c.toNat - 1 := by
  unfold goodTable inB at h
  simp only [Bool.and_eq_true, decide_eq_true_eq, List.all_eq_true] at h
  exact ⟨h.1.1, h.1.2.1, h.1.2.2.1, h.1.2.2.2, h.2⟩
theorem any_not_all' {α : Type} (p : α → Bool) (l : List α) : l.any (fun x => !p x) = !l.all p := by
  induction l with
  | nil => rfl
  | cons x l ih => simp only [List.any_cons, List.all_cons, ih, Bool.not_and]
theorem spec_reTable_ev (a b c : Int) (l : List Int) (hl : l.length ≤ 9223372036854775807) : Ev (fun k => spec_reTable.f k a b c l) (goodTable a b c l) := by
  unfold goodTable
  by_cases ha : 0 ≤ a ∧ a ≤ 9999
  · by_cases hb : 1 ≤ b ∧ b ≤ 24
    · by_cases hc : 1 ≤ c ∧ c ≤ 8
      · have hr := top_range hc.1 hc.2
        have e : wrap64 (3 * b) = 3 * b := w64 (by omega) (by omega)
        have e2 : wrap64 ((2 : Int) ^ c.toNat - 1) = 2 ^ c.toNat - 1 := w64 (by omega) (by omega)
        by_cases hd : (l.length : Int) = 3 * b
        · simp only [spec_reTable.f, spec_l1In_eq, spec_reWidth_eq, ha, hb, hc, hd, and_self, decide_true, Option.bind_some, ↓reduceIte, Bool.true_and, e, spec_reTop_eq c (by omega) (by omega), e2]
          exact Ev.bind (spec_l1All_ev l 0 _ hl) (Ev.now _)
        · simp only [spec_reTable.f, spec_l1In_eq, spec_reWidth_eq, ha, hb, hc, hd, and_self, and_false, decide_true, decide_false, Option.bind_some, ↓reduceIte, Bool.false_and, e]
          exact Ev.now _
      · simp only [spec_reTable.f, spec_l1In_eq, spec_reWidth_eq, ha, hb, hc, and_self, false_and, and_false, decide_true, decide_false, Option.bind_some, ↓reduceIte, Bool.false_and, Bool.false_eq_true]
        exact Ev.now _
    · simp only [spec_reTable.f, spec_l1In_eq, ha, hb, and_self, false_and, and_false, decide_true, decide_false, Option.bind_some, ↓reduceIte, Bool.false_and, Bool.false_eq_true]
      exact Ev.now _
  · simp only [spec_reTable.f, spec_l1In_eq, ha, false_and, decide_false, Option.bind_some, ↓reduceIte, Bool.false_and, Bool.false_eq_true]
    exact Ev.now _
theorem impl_IsTable_ev (a b c : Int) (l : List Int) (hl : l.length ≤ 9223372036854775807) : Ev (fun k => impl_IsTable.f k a b c l) (goodTable a b c l) := by
  unfold goodTable
  by_cases ha : 0 ≤ a ∧ a ≤ 9999
  · by_cases hb : 1 ≤ b ∧ b ≤ 24
    · by_cases hc : 1 ≤ c ∧ c ≤ 8
      · have e : wrap64 (3 * b) = 3 * b := w64 (by omega) (by omega)
        by_cases hd : (l.length : Int) = 3 * b
        · simp only [impl_IsTable.f, impl_isSeed_eq, impl_segmentOk_eq, impl_widthOk_eq, ha, hb, hc, hd, and_self, decide_true, Option.bind_some, ↓reduceIte, Bool.true_and, e]
          refine Ev.bind (slices_ContainsFunc_int_int_impl_IsTablec1_ev l a b c l hl hc.1 hc.2) ?_
          rw [any_not_all', Bool.not_not]
          exact Ev.now _
        · simp only [impl_IsTable.f, impl_isSeed_eq, impl_segmentOk_eq, impl_widthOk_eq, ha, hb, hc, hd, and_self, and_false, decide_true, decide_false, Option.bind_some, ↓reduceIte, Bool.false_and, e]
          exact Ev.now _
      · simp only [impl_IsTable.f, impl_isSeed_eq, impl_segmentOk_eq, impl_widthOk_eq, ha, hb, hc, and_self, false_and, and_false, decide_true, decide_false, Option.bind_some, ↓reduceIte, Bool.false_and, Bool.false_eq_true]
        exact Ev.now _
    · simp only [impl_IsTable.f, impl_isSeed_eq, impl_segmentOk_eq, ha, hb, and_self, false_and, and_false, decide_true, decide_false, Option.bind_some, ↓reduceIte, Bool.false_and, Bool.false_eq_true]
      exact Ev.now _
  · simp only [impl_IsTable.f, impl_isSeed_eq, ha, false_and, decide_false, Option.bind_some, ↓reduceIte, Bool.false_and, Bool.false_eq_true]
    exact Ev.now _

theorem FnExactIsTable : ∀ (a0_0 : Int) (a0_1 : Int) (a0_2 : Int) (l0_3 : List Int), ((Lit.int .i64 a0_0).wf = true) → ((Lit.int .i64 a0_1).wf = true) → ((Lit.int .i64 a0_2).wf = true) → (l0_3.length ≤ maxLen ∧ ∀ l0_3' ∈ l0_3, (Lit.int .i64 l0_3').wf = true) → ∃ k, laws_FnExactIsTable.f k a0_0 a0_1 a0_2 l0_3 = some true := by
  intro a b c l h0 h1 h2 hl
  refine Ev.rounds ?_
  have hl1 : l.length ≤ 9223372036854775807 := by have := hl.1; unfold maxLen at this; exact this
  unfold laws_FnExactIsTable.f
  simp only [laws_szTable_eq a b c l 1048576 (by decide) (by decide) hl1, Option.bind_some]
  by_cases e : (l.length : Int) ≤ 1048576
  · simp only [e, ↓reduceIte, show ¬ (1048576 - (l.length : Int) < 0) from by omega]
    refine Ev.bind (laws_toTable_ev a b c l (by omega)) ?_
    unfold spec_IsTable.f
    refine Ev.bind (a := goodTable a b c l) (Ev.bind (spec_reTable_ev a b c l hl1) (Ev.now _)) ?_
    refine Ev.bind (laws_toTable_ev a b c l (by omega)) ?_
    refine Ev.bind (impl_IsTable_ev a b c l hl1) ?_
    simp only [bne_self_eq_false, Bool.false_eq_true, ↓reduceIte]
    refine Ev.bind (laws_toTable_ev a b c l (by omega)) ?_
    refine Ev.bind (laws_eqTable_self a b c l hl1) ?_
    simp only [↓reduceIte]
    exact Ev.now _
  · simp only [e, ↓reduceIte, show ((-1 : Int) < 0) from by decide]
    exact Ev.now _

end Go.Proofs.Ytcccfjpiebihmaa.Pure
