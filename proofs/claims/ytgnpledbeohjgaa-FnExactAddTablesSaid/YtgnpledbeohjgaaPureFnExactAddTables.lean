/- The program's AddTables returns what the reference's returns, for all arguments. -/
import Derived.Test.YtgnpledbeohjgaaPFnExactAddTablesx7
import Derived.Test.YtgnpledbeohjgaaBase
namespace Go.Proofs.Ytgnpledbeohjgaa.Pure
open Go.RowKit Go.Proofs.Ytgnpledbeohjgaa.PFnExactAddTables Go.Proofs.YtgnpledbeohjgaaW.PrintWords Go.Proofs.YtgnpledbeohjgaaW.PrintLast Go.Proofs.Ytgnpledbeohjgaa.Base
set_option linter.unusedVariables false
set_option linter.unusedSimpArgs false

theorem impl_in_eq (a b c : Int) : impl_in.f a b c = some (decide (b ≤ a ∧ a ≤ c)) := by
  unfold impl_in.f
  by_cases h : b ≤ a <;> simp [h]
theorem top_range {c : Int} (h0 : 1 ≤ c) (h1 : c ≤ 8) : 2 ≤ (2 : Int) ^ c.toNat ∧ (2 : Int) ^ c.toNat ≤ 256 := by
  have a := pow_le_of (n := 1) (m := c.toNat) (by omega)
  have b := pow_le_of (n := c.toNat) (m := 8) (by omega)
  simp at a b
  exact ⟨a, b⟩
theorem impl_IsTablec1_eq (x a b c : Int) (l : List Int) (hc0 : 1 ≤ c) (hc1 : c ≤ 8) : impl_IsTablec1.f x a b c l = some (!inB 0 (2 ^ c.toNat - 1) x) := by
  have hr := top_range hc0 hc1
  unfold impl_IsTablec1.f
  rw [if_pos (by omega), shl_one (by omega) (by omega), w64 (by omega) (by omega)]
  simp only [impl_in_eq, Option.bind_some, inB]
theorem slices_IndexFunc_int_int_impl_IsTablec1_ev (xs : List Int) (a b c : Int) (l : List Int) (hx : xs.length ≤ 9223372036854775807) (hc0 : 1 ≤ c) (hc1 : c ≤ 8) : Ev (fun k => slices_IndexFunc_int_int_impl_IsTablec1.f k xs a b c l) (idxV (fun x => !inB 0 (2 ^ c.toNat - 1) x) xs 0) := by
  refine Ev.up (L := fun k i => slices_IndexFunc_int_int_impl_IsTablec1.l0 k xs (xs.length : Int) (i : Int) a b c l) (r := fun i => idxV (fun x => !inB 0 (2 ^ c.toNat - 1) x) xs i) xs.length ?_ ?_ 0 (Nat.zero_le _)
  · refine Ev.succ ?_
    have h1 : ¬ ((xs.length : Int) < (xs.length : Int)) := by omega
    simp only [slices_IndexFunc_int_int_impl_IsTablec1.l0, h1, ↓reduceIte]
    exact Ev.some_ (idxV_end _ _).symm
  · intro i hi ih
    refine Ev.succ ?_
    have h1 : (i : Int) < (xs.length : Int) := by omega
    have h2 : (0 : Int) ≤ (i : Int) := by omega
    have hw : wrap64 ((i : Int) + 1) = ((i + 1 : Nat) : Int) := by rw [w64 (by omega) (by omega)]; rfl
    have e := rd_nat xs i hi
    simp only [slices_IndexFunc_int_int_impl_IsTablec1.l0, h1, h2, ↓reduceIte, hw]
    simp only [impl_IsTablec1_eq (rd xs (i : Int)) a b c l hc0 hc1, Option.bind_some]
    cases hp : (!inB 0 (2 ^ c.toNat - 1) (rd xs (i : Int))) with
    | true =>
      simp only [↓reduceIte]
      exact Ev.some_ (idxV_hit hi (by rw [← e]; exact hp)).symm
    | false =>
      simp only [Bool.false_eq_true, ↓reduceIte]
      rw [idxV_miss hi (by rw [← e]; exact hp)]
      exact ih
theorem slices_ContainsFunc_int_int_impl_IsTablec1_ev (xs : List Int) (a b c : Int) (l : List Int) (hx : xs.length ≤ 9223372036854775807) (hc0 : 1 ≤ c) (hc1 : c ≤ 8) : Ev (fun k => slices_ContainsFunc_int_int_impl_IsTablec1.f k xs a b c l) (xs.any (fun x => !inB 0 (2 ^ c.toNat - 1) x)) := by
  unfold slices_ContainsFunc_int_int_impl_IsTablec1.f
  refine Ev.bind (slices_IndexFunc_int_int_impl_IsTablec1_ev xs a b c l hx hc0 hc1) ?_
  rw [idxV_ge]
  exact Ev.now _
theorem spec_l1In_eq (a b c : Int) : spec_l1In.f a b c = some (decide (b ≤ a ∧ a ≤ c)) := by
  unfold spec_l1In.f
  by_cases h : b ≤ a <;> simp [h]
theorem spec_l1All_ev (l : List Int) (a b : Int) (hl : l.length ≤ 9223372036854775807) : Ev (fun k => spec_l1All.f k l a b) (l.all (inB a b)) := by
  have h := Ev.up (L := fun k i => spec_l1All.l0 k a b l (l.length : Int) (i : Int)) (r := fun i => (l.drop i).all (inB a b)) l.length ?_ ?_ 0 (Nat.zero_le _)
  · exact h
  · refine Ev.succ ?_
    have h1 : ¬ ((l.length : Int) < (l.length : Int)) := by omega
    simp only [spec_l1All.l0, h1, ↓reduceIte]
    exact Ev.some_ (by simp)
  · intro i hi ih
    refine Ev.succ ?_
    have h1 : (i : Int) < (l.length : Int) := by omega
    have h2 : (0 : Int) ≤ (i : Int) := by omega
    have hw : wrap64 ((i : Int) + 1) = ((i + 1 : Nat) : Int) := by rw [w64 (by omega) (by omega)]; rfl
    simp only [spec_l1All.l0, h1, h2, ↓reduceIte, hw, spec_l1In_eq, Option.bind_some]
    rw [drop_cons _ _ hi, List.all_cons, ← rd_nat _ _ hi]
    by_cases c : a ≤ rd l (i : Int) ∧ rd l (i : Int) ≤ b
    · have c2 : inB a b (rd l (i : Int)) = true := by simp [inB, c]
      simp only [c, and_self, decide_true, ↓reduceIte, c2, Bool.true_and]
      exact ih
    · have c2 : inB a b (rd l (i : Int)) = false := by simp [inB]; omega
      simp only [c, decide_false, Bool.false_eq_true, ↓reduceIte, c2, Bool.false_and]
      exact Ev.now _
theorem spec_reWidth_eq (a : Int) : spec_reWidth.f a = some (decide (1 ≤ a ∧ a ≤ 8)) := by
  simp only [spec_reWidth.f, spec_l1In_eq, Option.bind_some]
theorem spec_reTop_eq (a : Int) (h0 : 0 ≤ a) (h1 : a ≤ 62) : spec_reTop.f a = some (2 ^ a.toNat) := by
  unfold spec_reTop.f
  rw [if_pos h0, shl_one h0 h1]
theorem impl_segmentOk_eq (a : Int) : impl_segmentOk.f a = some (decide (1 ≤ a ∧ a ≤ 24)) := by
  simp only [impl_segmentOk.f, impl_in_eq, Option.bind_some]
theorem impl_widthOk_eq (a : Int) : impl_widthOk.f a = some (decide (1 ≤ a ∧ a ≤ 8)) := by
  simp only [impl_widthOk.f, impl_in_eq, Option.bind_some]
theorem impl_isSeed_eq (a : Int) : impl_isSeed.f a = some (decide (0 ≤ a ∧ a ≤ 9999)) := by
  simp only [impl_isSeed.f, impl_in_eq, Option.bind_some]
def goodTable (a b c : Int) (l : List Int) : Bool := decide ((0 ≤ a ∧ a ≤ 9999) ∧ (1 ≤ b ∧ b ≤ 24) ∧ (1 ≤ c ∧ c ≤ 8) ∧ (l.length : Int) = 3 * b) && l.all (inB 0 (2 ^ c.toNat - 1))
theorem goodTable_of {a b c : Int} {l : List Int} (h : goodTable a b c l = true) : (0 ≤ a ∧ a ≤ 9999) ∧ (1 ≤ b ∧ b ≤ 24) ∧ (1 ≤ c ∧ c ≤ 8) ∧ (l.length : Int) = 3 * b ∧ ∀ x ∈ l, 0 ≤ x ∧ x ≤ 2 ^ c.toNat - 1 := by
  unfold goodTable inB at h
  simp only [Bool.and_eq_true, decide_eq_true_eq, List.all_eq_true] at h
  exact ⟨h.1.1, h.1.2.1, h.1.2.2.1, h.1.2.2.2, h.2⟩
theorem any_not_all' {α : Type} (p : α → Bool) (l : List α) : l.any (fun x => !p x) = !l.all p := by
  induction l with
  | nil => rfl
  | cons x l ih => simp only [List.any_cons, List.all_cons, ih, Bool.not_and]
theorem spec_reTable_ev (a b c : Int) (l : List Int) (hl : l.length ≤ 9223372036854775807) : Ev (fun k => spec_reTable.f k a b c l) (goodTable a b c l) := by
  unfold goodTable
  by_cases ha : 0 ≤ a ∧ a ≤ 9999
  · by_cases hb : 1 ≤ b ∧ b ≤ 24
    · by_cases hc : 1 ≤ c ∧ c ≤ 8
      · have hr := top_range hc.1 hc.2
        have e : wrap64 (3 * b) = 3 * b := w64 (by omega) (by omega)
        have e2 : wrap64 ((2 : Int) ^ c.toNat - 1) = 2 ^ c.toNat - 1 := w64 (by omega) (by omega)
        by_cases hd : (l.length : Int) = 3 * b
        · simp only [spec_reTable.f, spec_l1In_eq, spec_reWidth_eq, ha, hb, hc, hd, and_self, decide_true, Option.bind_some, ↓reduceIte, Bool.true_and, e, spec_reTop_eq c (by omega) (by omega), e2]
          exact Ev.bind (spec_l1All_ev l 0 _ hl) (Ev.now _)
        · simp only [spec_reTable.f, spec_l1In_eq, spec_reWidth_eq, ha, hb, hc, hd, and_self, and_false, decide_true, decide_false, Option.bind_some, ↓reduceIte, Bool.false_and, e]
          exact Ev.now _
      · simp only [spec_reTable.f, spec_l1In_eq, spec_reWidth_eq, ha, hb, hc, and_self, false_and, and_false, decide_true, decide_false, Option.bind_some, ↓reduceIte, Bool.false_and, Bool.false_eq_true]
        exact Ev.now _
    · simp only [spec_reTable.f, spec_l1In_eq, ha, hb, and_self, false_and, and_false, decide_true, decide_false, Option.bind_some, ↓reduceIte, Bool.false_and, Bool.false_eq_true]
      exact Ev.now _
  · simp only [spec_reTable.f, spec_l1In_eq, ha, false_and, decide_false, Option.bind_some, ↓reduceIte, Bool.false_and, Bool.false_eq_true]
    exact Ev.now _
theorem impl_IsTable_ev (a b c : Int) (l : List Int) (hl : l.length ≤ 9223372036854775807) : Ev (fun k => impl_IsTable.f k a b c l) (goodTable a b c l) := by
  unfold goodTable
  by_cases ha : 0 ≤ a ∧ a ≤ 9999
  · by_cases hb : 1 ≤ b ∧ b ≤ 24
    · by_cases hc : 1 ≤ c ∧ c ≤ 8
      · have e : wrap64 (3 * b) = 3 * b := w64 (by omega) (by omega)
        by_cases hd : (l.length : Int) = 3 * b
        · simp only [impl_IsTable.f, impl_isSeed_eq, impl_segmentOk_eq, impl_widthOk_eq, ha, hb, hc, hd, and_self, decide_true, Option.bind_some, ↓reduceIte, Bool.true_and, e]
          refine Ev.bind (slices_ContainsFunc_int_int_impl_IsTablec1_ev l a b c l hl hc.1 hc.2) ?_
          rw [any_not_all', Bool.not_not]
          exact Ev.now _
        · simp only [impl_IsTable.f, impl_isSeed_eq, impl_segmentOk_eq, impl_widthOk_eq, ha, hb, hc, hd, and_self, and_false, decide_true, decide_false, Option.bind_some, ↓reduceIte, Bool.false_and, e]
          exact Ev.now _
      · simp only [impl_IsTable.f, impl_isSeed_eq, impl_segmentOk_eq, impl_widthOk_eq, ha, hb, hc, and_self, false_and, and_false, decide_true, decide_false, Option.bind_some, ↓reduceIte, Bool.false_and, Bool.false_eq_true]
        exact Ev.now _
    · simp only [impl_IsTable.f, impl_isSeed_eq, impl_segmentOk_eq, ha, hb, and_self, false_and, and_false, decide_true, decide_false, Option.bind_some, ↓reduceIte, Bool.false_and, Bool.false_eq_true]
      exact Ev.now _
  · simp only [impl_IsTable.f, impl_isSeed_eq, ha, false_and, decide_false, Option.bind_some, ↓reduceIte, Bool.false_and, Bool.false_eq_true]
    exact Ev.now _
theorem laws_szIntS_eq (l : List Int) (a : Int) (h0 : 0 ≤ a) (h1 : a ≤ 1048576) (hl : l.length ≤ 9223372036854775807) : laws_szIntS.f l a = some (if (l.length : Int) ≤ a then a - l.length else -1) := by
  unfold laws_szIntS.f
  rw [w64 (by omega) (by omega)]
  by_cases c : (l.length : Int) ≤ a
  · rw [if_neg (by omega), if_pos c]
  · rw [if_pos (by omega), if_neg c]
theorem laws_toIntS_l0 (l : List Int) (hl : l.length ≤ 9223372036854775807) (d : Nat) : ∀ (i : Nat) (o : List Int), o.length = l.length → o.take i = l.take i → i + d = l.length → Ev (fun k => laws_toIntS.l0 k l o (i : Int)) l := by
  induction d with
  | zero =>
    intro i o ho ht hi
    refine Ev.succ ?_
    have h1 : ¬ ((i : Int) < (l.length : Int)) := by omega
    simp only [laws_toIntS.l0, h1, ↓reduceIte]
    rw [List.take_of_length_le (by omega), List.take_of_length_le (by omega)] at ht
    exact Ev.some_ ht
  | succ d ih =>
    intro i o ho ht hi
    refine Ev.succ ?_
    have h1 : (i : Int) < (l.length : Int) := by omega
    have h2 : (0 : Int) ≤ (i : Int) := by omega
    have h3 : (i : Int) < (o.length : Int) := by omega
    have hw : wrap64 ((i : Int) + 1) = ((i + 1 : Nat) : Int) := by rw [w64 (by omega) (by omega)]; rfl
    simp only [laws_toIntS.l0, h1, h2, h3, ↓reduceIte, hw, Int.toNat_natCast]
    exact ih (i + 1) _ (by simp [ho]) (by rw [take_set_succ _ _ _ (by omega), ht, rd_nat _ _ (by omega), List.take_succ_eq_append_getElem (by omega)]) (by omega)
theorem laws_toIntS_ev (l : List Int) (hl : l.length ≤ 35184372088832) : Ev (fun k => laws_toIntS.f k l) l := by
  have h1 : 0 ≤ (l.length : Int) := by omega
  have h2 : ((l.length : Int)).toNat ≤ 35184372088832 := by omega
  simp only [laws_toIntS.f, h1, h2, ↓reduceIte]
  exact laws_toIntS_l0 l (by omega) l.length 0 _ (by simp) (by simp) (by omega)
theorem laws_eqIntS_self (l : List Int) (hl : l.length ≤ 9223372036854775807) : Ev (fun k => laws_eqIntS.f k l l) true := by
  unfold laws_eqIntS.f
  simp only [↓reduceIte]
  refine Ev.up (L := fun k i => laws_eqIntS.l0 k l l (i : Int)) (r := fun _ => true) l.length ?_ ?_ 0 (Nat.zero_le _)
  · refine Ev.succ ?_
    have h1 : ¬ ((l.length : Int) < (l.length : Int)) := by omega
    simp only [laws_eqIntS.l0, h1, ↓reduceIte]
    exact Ev.now _
  · intro i hi ih
    refine Ev.succ ?_
    have h1 : (i : Int) < (l.length : Int) := by omega
    have h2 : (0 : Int) ≤ (i : Int) := by omega
    have hw : wrap64 ((i : Int) + 1) = ((i + 1 : Nat) : Int) := by rw [w64 (by omega) (by omega)]; rfl
    simp only [laws_eqIntS.l0, h1, h2, ↓reduceIte, hw]
    exact ih
theorem laws_szTable_eq (a b c : Int) (l : List Int) (m : Int) (h0 : 0 ≤ m) (h1 : m ≤ 1048576) (hl : l.length ≤ 9223372036854775807) : laws_szTable.f a b c l m = some (if (l.length : Int) ≤ m then m - l.length else -1) := by
  simp only [laws_szTable.f, laws_szIntS_eq l m h0 h1 hl, Option.bind_some]
  by_cases c : (l.length : Int) ≤ m
  · simp only [c, ↓reduceIte, show ¬ (m - (l.length : Int) < 0) from by omega]
  · simp only [c, ↓reduceIte, show ((-1 : Int) < 0) from by decide]
theorem laws_toTable_ev (a b c : Int) (l : List Int) (hl : l.length ≤ 1048576) : Ev (fun k => laws_toTable.f k a b c l) (a, b, c, l) := by
  unfold laws_toTable.f
  exact Ev.bind (laws_toIntS_ev l (by omega)) (Ev.now _)
theorem laws_eqTable_self (a b c : Int) (l : List Int) (hl : l.length ≤ 9223372036854775807) : Ev (fun k => laws_eqTable.f k a b c l a b c l) true := by
  simp only [laws_eqTable.f, ↓reduceIte]
  exact Ev.bind (laws_eqIntS_self l hl) (by simp only [↓reduceIte]; exact Ev.now _)
theorem laws_markIntS_l0 (m : Int) (n : Nat) (h0 : 0 ≤ m) (hm : m + n ≤ 4611686018427387904) (d : Nat) : ∀ (i : Nat) (l : List Int), l.length = n → l.take i = marks m i → i + d = n → Ev (fun k => laws_markIntS.l0 k l (m + i) (i : Int)) (m + n, marks m n) := by
  induction d with
  | zero =>
    intro i l hl ht hi
    obtain rfl : i = n := by omega
    refine Ev.succ ?_
    have h1 : ¬ ((i : Int) < (l.length : Int)) := by omega
    simp only [laws_markIntS.l0, h1, ↓reduceIte]
    rw [List.take_of_length_le (by omega)] at ht
    exact Ev.some_ (by rw [ht])
  | succ d ih =>
    intro i l hl ht hi
    refine Ev.succ ?_
    have h1 : (i : Int) < (l.length : Int) := by omega
    have h2 : (0 : Int) ≤ (i : Int) := by omega
    have hw : wrap64 ((i : Int) + 1) = ((i + 1 : Nat) : Int) := by rw [w64 (by omega) (by omega)]; rfl
    have hw2 : wrap64 (m + (i : Int) + 1) = m + ((i + 1 : Nat) : Int) := by rw [w64 (by omega) (by omega)]; omega
    simp only [laws_markIntS.l0, h1, h2, ↓reduceIte, hw, hw2, Int.toNat_natCast]
    exact ih (i + 1) (l.set i (m + i)) (by simp [hl]) (by rw [take_set_succ _ _ _ (by omega), ht, marks_succ]) (by omega)
theorem laws_markIntS_ev (l : List Int) (m : Int) (h0 : 0 ≤ m) (hm : m + l.length ≤ 4611686018427387904) : Ev (fun k => laws_markIntS.f k l m) (m + l.length, marks m l.length) := by
  have h := laws_markIntS_l0 m l.length h0 hm l.length 0 l rfl (by simp [marks]) (by omega)
  simpa [laws_markIntS.f] using h
theorem laws_heldIntS_ev (m : Int) (n : Nat) (h0 : 0 ≤ m) (hm : m + n ≤ 4611686018427387904) : Ev (fun k => laws_heldIntS.f k (marks m n) m) (m + n) := by
  have h := Ev.up (L := fun k i => laws_heldIntS.l0 k (marks m n) (m + (i : Int)) (i : Int)) (r := fun _ => m + n) n ?_ ?_ 0 (Nat.zero_le _)
  · simpa [laws_heldIntS.f] using h
  · refine Ev.succ ?_
    have h1 : ¬ ((n : Int) < ((marks m n).length : Int)) := by rw [marks_length]; omega
    simp only [laws_heldIntS.l0, h1, ↓reduceIte]
    exact Ev.now _
  · intro i hi ih
    refine Ev.succ ?_
    have h1 : (i : Int) < ((marks m n).length : Int) := by rw [marks_length]; omega
    have h2 : (0 : Int) ≤ (i : Int) := by omega
    have h3 : rd (marks m n) (i : Int) = m + i := by rw [rd_nat _ _ (by rw [marks_length]; exact hi)]; simp [marks]
    have hw : wrap64 ((i : Int) + 1) = ((i + 1 : Nat) : Int) := by rw [w64 (by omega) (by omega)]; rfl
    have hw2 : wrap64 (m + (i : Int) + 1) = m + ((i + 1 : Nat) : Int) := by rw [w64 (by omega) (by omega)]; omega
    simp only [laws_heldIntS.l0, h1, h2, h3, ↓reduceIte, hw, hw2]
    exact ih

def xorL (l m : List Int) : List Int := List.zipWith (fun p q => Go.bits .xor .i64 p q) l m
theorem xorL_cons (p q : Int) (l m : List Int) : xorL (p :: l) (q :: m) = Go.bits .xor .i64 p q :: xorL l m := rfl
def sameT (a b c : Int) (l : List Int) (a' b' c' : Int) (m : List Int) : Prop := goodTable a b c l = true ∧ goodTable a' b' c' m = true ∧ a = a' ∧ b = b' ∧ c = c'
open Classical in
noncomputable def addT (a b c : Int) (l : List Int) (a' b' c' : Int) (m : List Int) : Int × Int × Int × List Int × Bool := if sameT a b c l a' b' c' m then (a, b, c, xorL l m, true) else (0, 0, 0, [], false)
theorem spec_AddTables_l0 (l m : List Int) (a b c x y z : Int) (h : m.length = l.length) (hb : l.length ≤ 1000000) (d : Nat) : ∀ (i : Nat) (o : List Int), i + d = l.length → o.length + d ≤ 10000000 → Ev (fun k => spec_AddTables.l0 k l (l.length : Int) (i : Int) a b c m x y z o) (x, y, z, o ++ xorL (l.drop i) (m.drop i), true) := by
  induction d with
  | zero =>
    intro i o hi ho
    refine Ev.succ ?_
    have h1 : ¬ ((i : Int) < (l.length : Int)) := by omega
    simp only [spec_AddTables.l0, h1, ↓reduceIte]
    exact Ev.some_ (by rw [List.drop_eq_nil_of_le (by omega)]; simp [xorL])
  | succ d ih =>
    intro i o hi ho
    refine Ev.succ ?_
    have h0 : i < l.length := by omega
    have h1 : (i : Int) < (l.length : Int) := by omega
    have h2 : (0 : Int) ≤ (i : Int) := by omega
    have h3 : (i : Int) < (m.length : Int) := by omega
    have h4 : o.length < 17592186044416 := by omega
    have hw : wrap64 ((i : Int) + 1) = ((i + 1 : Nat) : Int) := by rw [w64 (by omega) (by omega)]; rfl
    simp only [spec_AddTables.l0, h1, h2, h3, h4, ↓reduceIte, hw]
    have g := ih (i + 1) (o ++ [Go.bits .xor .i64 (rd l (i : Int)) (rd m (i : Int))]) (by omega) (by rw [List.length_append, List.length_singleton]; omega)
    rw [drop_cons l i h0, drop_cons m i (by omega), xorL_cons, ← rd_nat l i h0, ← rd_nat m i (by omega)]
    rw [List.append_assoc, List.singleton_append] at g
    exact g
theorem impl_AddTables_l0 (m : List Int) (x y z : Int) (hb : m.length ≤ 1000000) (d : Nat) : ∀ (i : Nat) (cs : List Int), i + d = m.length → cs.length = m.length → Ev (fun k => impl_AddTables.l0 k m (m.length : Int) (i : Int) x y z cs) (x, y, z, cs.take i ++ xorL (cs.drop i) (m.drop i), true) := by
  induction d with
  | zero =>
    intro i cs hi hc
    refine Ev.succ ?_
    have h1 : ¬ ((i : Int) < (m.length : Int)) := by omega
    simp only [impl_AddTables.l0, h1, ↓reduceIte]
    exact Ev.some_ (by rw [List.drop_eq_nil_of_le (by omega), List.take_of_length_le (by omega)]; simp [xorL])
  | succ d ih =>
    intro i cs hi hc
    refine Ev.succ ?_
    have h0 : i < cs.length := by omega
    have h1 : (i : Int) < (m.length : Int) := by omega
    have h2 : (0 : Int) ≤ (i : Int) := by omega
    have h3 : (i : Int) < (cs.length : Int) := by omega
    have hw : wrap64 ((i : Int) + 1) = ((i + 1 : Nat) : Int) := by rw [w64 (by omega) (by omega)]; rfl
    simp only [impl_AddTables.l0, h1, h2, h3, ↓reduceIte, hw, Int.toNat_natCast]
    have g := ih (i + 1) (cs.set i (Go.bits .xor .i64 (rd cs (i : Int)) (rd m (i : Int)))) (by omega) (by rw [List.length_set]; omega)
    rw [take_set_succ _ _ _ h0, List.drop_set, if_pos (by omega), List.append_assoc, List.singleton_append] at g
    rw [drop_cons cs i h0, drop_cons m i (by omega), xorL_cons, ← rd_nat cs i h0, ← rd_nat m i (by omega)]
    exact g
theorem spec_AddTables_ev (a b c : Int) (l : List Int) (a' b' c' : Int) (m : List Int) (hl : l.length ≤ 1048576) (hm : m.length ≤ 1048576) : Ev (fun k => spec_AddTables.f k a b c l a' b' c' m) (addT a b c l a' b' c' m) := by
  unfold spec_AddTables.f addT
  refine Ev.bind (spec_reTable_ev a b c l (by omega)) ?_
  by_cases c1 : goodTable a b c l = true
  · simp only [c1, ↓reduceIte]
    refine Ev.bind (spec_reTable_ev a' b' c' m (by omega)) ?_
    by_cases c2 : goodTable a' b' c' m = true
    · simp only [c2, ↓reduceIte]
      by_cases c3 : a = a'
      · by_cases c4 : b = b'
        · by_cases c5 : c = c'
          · have e : sameT a b c l a' b' c' m := ⟨c1, c2, c3, c4, c5⟩
            have hlen : m.length = l.length := by have := (goodTable_of c1).2.2.2.1; have := (goodTable_of c2).2.2.2.1; omega
            have hl3 : l.length ≤ 1000000 := by have := (goodTable_of c1).2.2.2.1; have := (goodTable_of c1).2.1; omega
            rw [if_pos e]
            subst c3 c4 c5
            simp only [↓reduceIte, bne_self_eq_false]
            refine Ev.succ ?_
            simp only [spec_AddTables.j0, Bool.false_eq_true, ↓reduceIte]
            exact spec_AddTables_l0 l m a b c a b c hlen hl3 l.length 0 [] (by omega) (by rw [List.length_nil]; omega)
          · have e : ¬ sameT a b c l a' b' c' m := fun h => c5 h.2.2.2.2
            have e2 : (c != c') = true := by simp [c5]
            rw [if_neg e]
            simp only [c3, c4, e2, ↓reduceIte]
            refine Ev.succ ?_
            simp only [spec_AddTables.j0, ↓reduceIte]
            exact Ev.now _
        · have e : ¬ sameT a b c l a' b' c' m := fun h => c4 h.2.2.2.1
          rw [if_neg e]
          simp only [c3, c4, ↓reduceIte]
          refine Ev.succ ?_
          simp only [spec_AddTables.j0, ↓reduceIte]
          exact Ev.now _
      · have e : ¬ sameT a b c l a' b' c' m := fun h => c3 h.2.2.1
        rw [if_neg e]
        simp only [c3, ↓reduceIte]
        refine Ev.succ ?_
        simp only [spec_AddTables.j0, ↓reduceIte]
        exact Ev.now _
    · have e : ¬ sameT a b c l a' b' c' m := fun h => c2 h.2.1
      rw [if_neg e]
      simp only [c2, Bool.false_eq_true, ↓reduceIte]
      refine Ev.succ ?_
      simp only [spec_AddTables.j0, ↓reduceIte]
      exact Ev.now _
  · have e : ¬ sameT a b c l a' b' c' m := fun h => c1 h.1
    rw [if_neg e]
    simp only [c1, Bool.false_eq_true, ↓reduceIte]
    refine Ev.succ ?_
    simp only [spec_AddTables.j0, ↓reduceIte]
    exact Ev.now _
theorem impl_AddTables_ev (a b c : Int) (l : List Int) (a' b' c' : Int) (m : List Int) (hl : l.length ≤ 1048576) (hm : m.length ≤ 1048576) : Ev (fun k => impl_AddTables.f k a b c l a' b' c' m) (addT a b c l a' b' c' m) := by
  unfold impl_AddTables.f addT
  refine Ev.bind (impl_IsTable_ev a b c l (by omega)) ?_
  by_cases c1 : goodTable a b c l = true
  · simp only [c1, ↓reduceIte]
    refine Ev.bind (impl_IsTable_ev a' b' c' m (by omega)) ?_
    by_cases c2 : goodTable a' b' c' m = true
    · simp only [c2, ↓reduceIte]
      by_cases c3 : a = a'
      · by_cases c4 : b = b'
        · by_cases c5 : c = c'
          · have e : sameT a b c l a' b' c' m := ⟨c1, c2, c3, c4, c5⟩
            have hlen : l.length = m.length := by have := (goodTable_of c1).2.2.2.1; have := (goodTable_of c2).2.2.2.1; omega
            have hl3 : m.length ≤ 1000000 := by have := (goodTable_of c2).2.2.2.1; have := (goodTable_of c2).2.1; omega
            rw [if_pos e]
            subst c3 c4 c5
            have h4 : l.length < 17592186044416 := by omega
            simp only [↓reduceIte, bne_self_eq_false]
            refine Ev.succ ?_
            simp only [impl_AddTables.j0, Bool.false_eq_true, ↓reduceIte, slices_Clone_int_int.f, h4, Option.bind_some]
            exact impl_AddTables_l0 m a b c hl3 m.length 0 l (by omega) hlen
          · have e : ¬ sameT a b c l a' b' c' m := fun h => c5 h.2.2.2.2
            have e2 : (c != c') = true := by simp [c5]
            rw [if_neg e]
            simp only [c3, c4, e2, ↓reduceIte]
            refine Ev.succ ?_
            simp only [impl_AddTables.j0, ↓reduceIte]
            exact Ev.now _
        · have e : ¬ sameT a b c l a' b' c' m := fun h => c4 h.2.2.2.1
          rw [if_neg e]
          simp only [c3, c4, ↓reduceIte]
          refine Ev.succ ?_
          simp only [impl_AddTables.j0, ↓reduceIte]
          exact Ev.now _
      · have e : ¬ sameT a b c l a' b' c' m := fun h => c3 h.2.2.1
        rw [if_neg e]
        simp only [c3, ↓reduceIte]
        refine Ev.succ ?_
        simp only [impl_AddTables.j0, ↓reduceIte]
        exact Ev.now _
    · have e : ¬ sameT a b c l a' b' c' m := fun h => c2 h.2.1
      rw [if_neg e]
      simp only [c2, Bool.false_eq_true, ↓reduceIte]
      refine Ev.succ ?_
      simp only [impl_AddTables.j0, ↓reduceIte]
      exact Ev.now _
  · have e : ¬ sameT a b c l a' b' c' m := fun h => c1 h.1
    rw [if_neg e]
    simp only [c1, Bool.false_eq_true, ↓reduceIte]
    refine Ev.succ ?_
    simp only [impl_AddTables.j0, ↓reduceIte]
    exact Ev.now _
theorem addT_length (a b c : Int) (l : List Int) (a' b' c' : Int) (m : List Int) (hl : l.length ≤ 1048576) : (addT a b c l a' b' c' m).2.2.2.1.length ≤ 1048576 := by
  unfold addT
  by_cases e : sameT a b c l a' b' c' m
  · rw [if_pos e]
    simp only [xorL, List.length_zipWith]
    omega
  · rw [if_neg e]
    simp
theorem laws_markTable_ev (a b c : Int) (l : List Int) (k0 : Int) (h0 : 0 ≤ k0) (h1 : k0 ≤ 10000000) (hl : l.length ≤ 1048576) : Ev (fun k => laws_markTable.f k a b c l k0) (k0 + l.length, marks k0 l.length) := by
  unfold laws_markTable.f
  exact Ev.bind (laws_markIntS_ev l k0 h0 (by omega)) (Ev.now _)
theorem laws_heldTable_ev (a b c : Int) (m : Nat) (hm : m ≤ 1048576) : Ev (fun k => laws_heldTable.f k a b c (marks 1 m) 1) (1 + m) := by
  unfold laws_heldTable.f
  refine Ev.bind (laws_heldIntS_ev 1 m (by omega) (by omega)) ?_
  simp only [show ¬ ((1 : Int) + (m : Int) < 0) from by omega, ↓reduceIte]
  exact Ev.now _
theorem FnExactAddTables : ∀ (a0_0 : Int) (a0_1 : Int) (a0_2 : Int) (l0_3 : List Int) (a1_0 : Int) (a1_1 : Int) (a1_2 : Int) (l1_3 : List Int), ((Lit.int .i64 a0_0).wf = true) → ((Lit.int .i64 a0_1).wf = true) → ((Lit.int .i64 a0_2).wf = true) → (l0_3.length ≤ maxLen ∧ ∀ l0_3' ∈ l0_3, (Lit.int .i64 l0_3').wf = true) → ((Lit.int .i64 a1_0).wf = true) → ((Lit.int .i64 a1_1).wf = true) → ((Lit.int .i64 a1_2).wf = true) → (l1_3.length ≤ maxLen ∧ ∀ l1_3' ∈ l1_3, (Lit.int .i64 l1_3').wf = true) → ∃ k, laws_FnExactAddTables.f k a0_0 a0_1 a0_2 l0_3 a1_0 a1_1 a1_2 l1_3 = some true := by
  intro a b c l a' b' c' l' h0 h1 h2 hl h3 h4 h5 hl'
  refine Ev.rounds ?_
  have hl1 : l.length ≤ 9223372036854775807 := by have := hl.1; unfold maxLen at this; exact this
  have hl1' : l'.length ≤ 9223372036854775807 := by have := hl'.1; unfold maxLen at this; exact this
  unfold laws_FnExactAddTables.f
  simp only [laws_szTable_eq a b c l 1048576 (by decide) (by decide) hl1, Option.bind_some]
  by_cases e : (l.length : Int) ≤ 1048576
  · simp only [e, ↓reduceIte, show ¬ (1048576 - (l.length : Int) < 0) from by omega]
    rw [laws_szTable_eq a' b' c' l' (1048576 - (l.length : Int)) (by omega) (by omega) hl1']
    simp only [Option.bind_some]
    by_cases e' : (l'.length : Int) ≤ 1048576 - (l.length : Int)
    · simp only [e', ↓reduceIte, show ¬ (1048576 - (l.length : Int) - (l'.length : Int) < 0) from by omega]
      have hl2 : l.length ≤ 1048576 := by omega
      have hl2' : l'.length ≤ 1048576 := by omega
      have hg := addT_length a b c l a' b' c' l' hl2
      have hi := impl_AddTables_ev a b c l a' b' c' l' hl2 hl2'
      refine Ev.bind (laws_toTable_ev a b c l hl2) ?_
      refine Ev.bind (laws_toTable_ev a' b' c' l' hl2') ?_
      refine Ev.bind (spec_AddTables_ev a b c l a' b' c' l' hl2 hl2') ?_
      refine Ev.bind (laws_toTable_ev a b c l hl2) ?_
      refine Ev.bind (laws_toTable_ev a' b' c' l' hl2') ?_
      refine Ev.bind hi ?_
      generalize addT a b c l a' b' c' l' = v at *
      obtain ⟨x, y, z, cs, o⟩ := v
      simp only at hg
      refine Ev.bind (laws_eqTable_self x y z cs (by omega)) ?_
      simp only [↓reduceIte, bne_self_eq_false]
      refine Ev.succ ?_
      simp only [laws_FnExactAddTables.j0, Bool.false_eq_true, ↓reduceIte]
      refine Ev.bind (laws_toTable_ev a b c l hl2) ?_
      refine Ev.bind (laws_eqTable_self a b c l hl1) ?_
      simp only [↓reduceIte]
      refine Ev.bind (laws_toTable_ev a' b' c' l' hl2') ?_
      refine Ev.bind (laws_eqTable_self a' b' c' l' hl1') ?_
      simp only [↓reduceIte]
      refine Ev.bind (laws_markTable_ev a b c l 1 (by decide) (by decide) hl2) ?_
      refine Ev.bind (laws_markTable_ev a' b' c' l' (1 + (l.length : Int)) (by omega) (by omega) hl2') ?_
      simp only [show ¬ ((1 : Int) + (l.length : Int) + (l'.length : Int) < 0) from by omega, ↓reduceIte]
      refine Ev.bind (laws_eqTable_self x y z cs (by omega)) ?_
      simp only [↓reduceIte, bne_self_eq_false]
      refine Ev.succ ?_
      simp only [laws_FnExactAddTables.j1, Bool.false_eq_true, ↓reduceIte]
      refine Ev.bind (laws_markTable_ev x y z cs 1 (by decide) (by decide) (by omega)) ?_
      refine Ev.bind (laws_heldTable_ev x y z cs.length (by omega)) ?_
      simp only [show ¬ ((1 : Int) + (cs.length : Int) < 0) from by omega, ↓reduceIte]
      refine Ev.bind (laws_toTable_ev a b c l hl2) ?_
      refine Ev.bind (laws_toTable_ev a' b' c' l' hl2') ?_
      refine Ev.bind hi ?_
      refine Ev.bind (laws_eqTable_self x y z cs (by omega)) ?_
      simp only [↓reduceIte, bne_self_eq_false]
      refine Ev.succ ?_
      simp only [laws_FnExactAddTables.j2, Bool.false_eq_true, ↓reduceIte]
      refine Ev.bind (laws_heldTable_ev x y z cs.length (by omega)) ?_
      simp only [show ¬ ((1 : Int) + (cs.length : Int) < 0) from by omega, ↓reduceIte]
      exact Ev.now _
    · simp only [e', ↓reduceIte, show ((-1 : Int) < 0) from by decide]
      exact Ev.now _
  · simp only [e, ↓reduceIte, show ((-1 : Int) < 0) from by decide]
    exact Ev.now _

end Go.Proofs.Ytgnpledbeohjgaa.Pure
