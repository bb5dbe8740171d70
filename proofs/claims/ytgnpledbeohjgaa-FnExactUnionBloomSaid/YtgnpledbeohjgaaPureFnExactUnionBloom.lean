/- The program's UnionBloom returns what the reference's returns, for all arguments. -/
import Derived.Test.YtgnpledbeohjgaaPFnExactUnionBloomx7
import Derived.Test.YtgnpledbeohjgaaBase
namespace Go.Proofs.Ytgnpledbeohjgaa.Pure
open Go.RowKit Go.Proofs.Ytgnpledbeohjgaa.PFnExactUnionBloom Go.Proofs.YtgnpledbeohjgaaW.PrintWords Go.Proofs.YtgnpledbeohjgaaW.PrintLast Go.Proofs.Ytgnpledbeohjgaa.Base
set_option linter.unusedVariables false
set_option linter.unusedSimpArgs false

theorem spec_l1In_eq (a b c : Int) : spec_l1In.f a b c = some (decide (b ≤ a ∧ a ≤ c)) := by
  unfold spec_l1In.f
  by_cases h : b ≤ a <;> simp [h]
theorem spec_l1All_ev (l : List Int) (a b : Int) (hl : l.length ≤ 9223372036854775807) : Ev (fun k => spec_l1All.f k l a b) (l.all (inB a b)) := by
  have h := Ev.up (L := fun k i => spec_l1All.l0 k a b l (l.length : Int) (i : Int)) (r := fun i => (l.drop i).all (inB a b)) l.length ?_ ?_ 0 (Nat.zero_le _)
  · exact h
  · refine Ev.succ ?_
    have h1 : ¬ ((l.length : Int) < (l.length : Int)) := by omega
    simp only [spec_l1All.l0, h1, ↓reduceIte]
    exact Ev.some_ (by simp)
  · intro i hi ih
    refine Ev.succ ?_
    have h1 : (i : Int) < (l.length : Int) := by omega
    have h2 : (0 : Int) ≤ (i : Int) := by omega
    have hw : wrap64 ((i : Int) + 1) = ((i + 1 : Nat) : Int) := by rw [w64 (by omega) (by omega)]; rfl
    simp only [spec_l1All.l0, h1, h2, ↓reduceIte, hw, spec_l1In_eq, Option.bind_some]
    rw [drop_cons _ _ hi, List.all_cons, ← rd_nat _ _ hi]
    by_cases c : a ≤ rd l (i : Int) ∧ rd l (i : Int) ≤ b
    · have c2 : inB a b (rd l (i : Int)) = true := by simp [inB, c]
      simp only [c, and_self, decide_true, ↓reduceIte, c2, Bool.true_and]
      exact ih
    · have c2 : inB a b (rd l (i : Int)) = false := by simp [inB]; omega
      simp only [c, decide_false, Bool.false_eq_true, ↓reduceIte, c2, Bool.false_and]
      exact Ev.now _
theorem spec_biGood_ev (n : Int) (l : List Int) (hl : l.length ≤ 9223372036854775807) : Ev (fun k => spec_biGood.f k n l) (goodBits n l) := by
  unfold goodBits
  by_cases h0 : 0 ≤ n ∧ n ≤ 4096
  · have e0 : inB 0 4096 n = true := by simp [inB, h0]
    have e1 : wrap64 (Int.tdiv (wrap64 (n + 15)) 16) = (n + 15) / 16 := by rw [w64 (n := n + 15) (by omega) (by omega), tdiv_pos (by omega), w64 (by omega) (by omega)]
    simp only [spec_biGood.f, spec_l1In_eq, h0, and_self, decide_true, Option.bind_some, ↓reduceIte, e0, e1, Bool.true_and]
    by_cases h1 : (l.length : Int) = (n + 15) / 16
    · simp only [h1, ↓reduceIte, decide_true, Bool.true_and]
      refine Ev.bind (spec_l1All_ev l 0 65535 hl) ?_
      cases l.all (inB 0 65535) with
      | false =>
        simp only [Bool.false_eq_true, ↓reduceIte, Bool.false_and]
        exact Ev.now _
      | true =>
        simp only [↓reduceIte, Bool.true_and, lastOk, tmod_pos h0.1, h1]
        by_cases h2 : n % 16 = 0
        · simp only [h2, ↓reduceIte, decide_true, Bool.true_or]
          exact Ev.now _
        · have e2 : wrap64 ((n + 15) / 16 - 1) = (n + 15) / 16 - 1 := w64 (by omega) (by omega)
          simp only [h2, ↓reduceIte, decide_false, Bool.false_or, e2, show 0 ≤ (n + 15) / 16 - 1 from by omega, show (n + 15) / 16 - 1 < (n + 15) / 16 from by omega, show 0 ≤ n % 16 from by omega]
          exact Ev.now _
    · simp only [h1, ↓reduceIte, decide_false, Bool.false_and]
      exact Ev.now _
  · have e0 : inB 0 4096 n = false := by simp [inB]; omega
    simp only [spec_biGood.f, spec_l1In_eq, h0, decide_false, Option.bind_some, ↓reduceIte, e0, Bool.false_and, Bool.false_eq_true]
    exact Ev.now _
theorem impl_in_eq (a b c : Int) : impl_in.f a b c = some (decide (b ≤ a ∧ a ≤ c)) := by
  unfold impl_in.f
  by_cases h : b ≤ a <;> simp [h]
theorem impl_words_eq (n : Int) (h0 : 0 ≤ n) (h1 : n ≤ 1000000) : impl_words.f n = some ((n + 15) / 16) := by
  unfold impl_words.f
  rw [w64 (n := n + 16) (by omega) (by omega), w64 (n := n + 16 - 1) (by omega) (by omega), tdiv_pos (by omega), w64 (by omega) (by omega), show n + 16 - 1 = n + 15 from by omega]
theorem impl_IsBits_l0 (n : Int) (l : List Int) (hn0 : 0 ≤ n) (hn1 : n ≤ 4096) (hl : (l.length : Int) = (n + 15) / 16) : Ev (fun k => impl_IsBits.l0 k l (l.length : Int) 0 n l) (l.all (inB 0 65535) && lastOk n l) := by
  have h := Ev.up (L := fun k i => impl_IsBits.l0 k l (l.length : Int) (i : Int) n l) (r := fun i => (l.drop i).all (inB 0 65535) && lastOk n l) l.length ?_ ?_ 0 (Nat.zero_le _)
  · exact h
  · refine Ev.succ ?_
    have h1 : ¬ ((l.length : Int) < (l.length : Int)) := by omega
    simp only [impl_IsBits.l0, h1, ↓reduceIte, List.drop_length, List.all_nil, Bool.true_and, lastOk, tmod_pos hn0]
    by_cases h2 : n % 16 = 0
    · simp only [h2, ↓reduceIte, decide_true, Bool.true_or]
      exact Ev.now _
    · have e2 : wrap64 ((l.length : Int) - 1) = (l.length : Int) - 1 := w64 (by omega) (by omega)
      simp only [h2, ↓reduceIte, decide_false, Bool.false_or, e2, show 0 ≤ (l.length : Int) - 1 from by omega, show (l.length : Int) - 1 < (l.length : Int) from by omega, show 0 ≤ n % 16 from by omega]
      exact Ev.now _
  · intro i hi ih
    refine Ev.succ ?_
    have h1 : (i : Int) < (l.length : Int) := by omega
    have h2 : (0 : Int) ≤ (i : Int) := by omega
    have hw : wrap64 ((i : Int) + 1) = ((i + 1 : Nat) : Int) := by rw [w64 (by omega) (by omega)]; rfl
    simp only [impl_IsBits.l0, h1, h2, ↓reduceIte, hw, impl_in_eq, Option.bind_some]
    rw [drop_cons _ _ hi, List.all_cons, ← rd_nat _ _ hi]
    by_cases c : 0 ≤ rd l (i : Int) ∧ rd l (i : Int) ≤ 65535
    · have c2 : inB 0 65535 (rd l (i : Int)) = true := by simp [inB, c]
      simp only [c, and_self, decide_true, ↓reduceIte, c2, Bool.true_and]
      exact ih
    · have c2 : inB 0 65535 (rd l (i : Int)) = false := by simp [inB]; omega
      simp only [c, decide_false, Bool.false_eq_true, ↓reduceIte, c2, Bool.false_and]
      exact Ev.now _
theorem impl_IsBits_ev (n : Int) (l : List Int) (hl : l.length ≤ 9223372036854775807) : Ev (fun k => impl_IsBits.f k n l) (goodBits n l) := by
  unfold goodBits
  by_cases h0 : 0 ≤ n ∧ n ≤ 4096
  · have e0 : inB 0 4096 n = true := by simp [inB, h0]
    simp only [impl_IsBits.f, impl_in_eq, h0, and_self, decide_true, Option.bind_some, ↓reduceIte, e0, Bool.true_and, impl_words_eq n h0.1 (by omega)]
    refine Ev.succ ?_
    by_cases h1 : (l.length : Int) = (n + 15) / 16
    · simp only [impl_IsBits.j0, h1, bne_self_eq_false, Bool.false_eq_true, ↓reduceIte, decide_true, Bool.true_and]
      rw [← h1]
      exact impl_IsBits_l0 n l h0.1 h0.2 h1
    · have e2 : ((l.length : Int) != (n + 15) / 16) = true := by simp [h1]
      simp only [impl_IsBits.j0, e2, ↓reduceIte, h1, decide_false, Bool.false_and]
      exact Ev.now _
  · have e0 : inB 0 4096 n = false := by simp [inB]; omega
    simp only [impl_IsBits.f, impl_in_eq, h0, decide_false, Option.bind_some, ↓reduceIte, e0, Bool.false_and, Bool.false_eq_true]
    refine Ev.succ ?_
    simp only [impl_IsBits.j0, ↓reduceIte]
    exact Ev.now _
theorem spec_fiSize_eq (a b c : Int) : spec_fiSize.f a b c = some (decide ((0 ≤ a ∧ a ≤ 9999) ∧ (1 ≤ b ∧ b ≤ 8) ∧ 1 ≤ c ∧ c ≤ 512)) := by
  by_cases h : 0 ≤ a ∧ a ≤ 9999 <;> by_cases h2 : 1 ≤ b ∧ b ≤ 8 <;> simp [spec_fiSize.f, spec_l1In_eq, h, h2]
theorem impl_isSeed_eq (a : Int) : impl_isSeed.f a = some (decide (0 ≤ a ∧ a ≤ 9999)) := by
  simp only [impl_isSeed.f, impl_in_eq, Option.bind_some]
theorem impl_sizesOk_eq (a b c : Int) : impl_sizesOk.f a b c = some (decide ((0 ≤ a ∧ a ≤ 9999) ∧ (1 ≤ b ∧ b ≤ 8) ∧ 1 ≤ c ∧ c ≤ 512)) := by
  by_cases h : 0 ≤ a ∧ a ≤ 9999 <;> by_cases h2 : 1 ≤ b ∧ b ≤ 8 <;> simp [impl_sizesOk.f, impl_isSeed_eq, impl_in_eq, h, h2]
def goodSizes (a b n : Int) : Bool := decide ((0 ≤ a ∧ a ≤ 9999) ∧ (1 ≤ b ∧ b ≤ 8) ∧ 1 ≤ n ∧ n ≤ 512)
def goodBloom (a b n : Int) (l : List Int) : Bool := goodBits n l && goodSizes a b n
theorem spec_fiGood_ev (a b n : Int) (l : List Int) (hl : l.length ≤ 9223372036854775807) : Ev (fun k => spec_fiGood.f k a b n l) (goodBloom a b n l) := by
  unfold spec_fiGood.f goodBloom
  refine Ev.bind (spec_biGood_ev n l hl) ?_
  cases goodBits n l with
  | false => simp only [Bool.false_eq_true, ↓reduceIte, Bool.false_and]; exact Ev.now _
  | true => simp only [↓reduceIte, spec_fiSize_eq, Option.bind_some, Bool.true_and]; exact Ev.now _
theorem impl_IsBloom_ev (a b n : Int) (l : List Int) (hl : l.length ≤ 9223372036854775807) : Ev (fun k => impl_IsBloom.f k a b n l) (goodBloom a b n l) := by
  unfold impl_IsBloom.f goodBloom
  simp only [impl_sizesOk_eq, Option.bind_some]
  by_cases h : goodSizes a b n = true
  · have h' : decide ((0 ≤ a ∧ a ≤ 9999) ∧ (1 ≤ b ∧ b ≤ 8) ∧ 1 ≤ n ∧ n ≤ 512) = true := h
    simp only [h', h, ↓reduceIte, Bool.and_true]
    exact Ev.bind (impl_IsBits_ev n l hl) (Ev.now _)
  · have h2 : goodSizes a b n = false := by simpa using h
    have h' : decide ((0 ≤ a ∧ a ≤ 9999) ∧ (1 ≤ b ∧ b ≤ 8) ∧ 1 ≤ n ∧ n ≤ 512) = false := h2
    simp only [h', h2, Bool.false_eq_true, ↓reduceIte, Bool.and_false]
    exact Ev.now _
theorem laws_szIntS_eq (l : List Int) (a : Int) (h0 : 0 ≤ a) (h1 : a ≤ 1048576) (hl : l.length ≤ 9223372036854775807) : laws_szIntS.f l a = some (if (l.length : Int) ≤ a then a - l.length else -1) := by
  unfold laws_szIntS.f
  rw [w64 (by omega) (by omega)]
  by_cases c : (l.length : Int) ≤ a
  · rw [if_neg (by omega), if_pos c]
  · rw [if_pos (by omega), if_neg c]
theorem laws_toIntS_l0 (l : List Int) (hl : l.length ≤ 9223372036854775807) (d : Nat) : ∀ (i : Nat) (o : List Int), o.length = l.length → o.take i = l.take i → i + d = l.length → Ev (fun k => laws_toIntS.l0 k l o (i : Int)) l := by
  induction d with
  | zero =>
    intro i o ho ht hi
    refine Ev.succ ?_
    have h1 : ¬ ((i : Int) < (l.length : Int)) := by omega
    simp only [laws_toIntS.l0, h1, ↓reduceIte]
    rw [List.take_of_length_le (by omega), List.take_of_length_le (by omega)] at ht
    exact Ev.some_ ht
  | succ d ih =>
    intro i o ho ht hi
    refine Ev.succ ?_
    have h1 : (i : Int) < (l.length : Int) := by omega
    have h2 : (0 : Int) ≤ (i : Int) := by omega
    have h3 : (i : Int) < (o.length : Int) := by omega
    have hw : wrap64 ((i : Int) + 1) = ((i + 1 : Nat) : Int) := by rw [w64 (by omega) (by omega)]; rfl
    simp only [laws_toIntS.l0, h1, h2, h3, ↓reduceIte, hw, Int.toNat_natCast]
    exact ih (i + 1) _ (by simp [ho]) (by rw [take_set_succ _ _ _ (by omega), ht, rd_nat _ _ (by omega), List.take_succ_eq_append_getElem (by omega)]) (by omega)
theorem laws_toIntS_ev (l : List Int) (hl : l.length ≤ 35184372088832) : Ev (fun k => laws_toIntS.f k l) l := by
  have h1 : 0 ≤ (l.length : Int) := by omega
  have h2 : ((l.length : Int)).toNat ≤ 35184372088832 := by omega
  simp only [laws_toIntS.f, h1, h2, ↓reduceIte]
  exact laws_toIntS_l0 l (by omega) l.length 0 _ (by simp) (by simp) (by omega)
theorem laws_eqIntS_self (l : List Int) (hl : l.length ≤ 9223372036854775807) : Ev (fun k => laws_eqIntS.f k l l) true := by
  unfold laws_eqIntS.f
  simp only [↓reduceIte]
  refine Ev.up (L := fun k i => laws_eqIntS.l0 k l l (i : Int)) (r := fun _ => true) l.length ?_ ?_ 0 (Nat.zero_le _)
  · refine Ev.succ ?_
    have h1 : ¬ ((l.length : Int) < (l.length : Int)) := by omega
    simp only [laws_eqIntS.l0, h1, ↓reduceIte]
    exact Ev.now _
  · intro i hi ih
    refine Ev.succ ?_
    have h1 : (i : Int) < (l.length : Int) := by omega
    have h2 : (0 : Int) ≤ (i : Int) := by omega
    have hw : wrap64 ((i : Int) + 1) = ((i + 1 : Nat) : Int) := by rw [w64 (by omega) (by omega)]; rfl
    simp only [laws_eqIntS.l0, h1, h2, ↓reduceIte, hw]
    exact ih
theorem laws_szBloom_eq (a b n : Int) (l : List Int) (m : Int) (h0 : 0 ≤ m) (h1 : m ≤ 1048576) (hl : l.length ≤ 9223372036854775807) : laws_szBloom.f a b n l m = some (if (l.length : Int) ≤ m then m - l.length else -1) := by
  simp only [laws_szBloom.f, laws_szBits.f, laws_szIntS_eq l m h0 h1 hl, Option.bind_some]
  by_cases c : (l.length : Int) ≤ m
  · simp only [c, ↓reduceIte, show ¬ (m - (l.length : Int) < 0) from by omega, Option.bind_some]
  · simp only [c, ↓reduceIte, show ((-1 : Int) < 0) from by decide, Option.bind_some]
theorem laws_toBloom_ev (a b n : Int) (l : List Int) (hl : l.length ≤ 1048576) : Ev (fun k => laws_toBloom.f k a b n l) (a, b, n, l) := by
  unfold laws_toBloom.f laws_toBits.f
  refine Ev.bind (a := (n, l)) ?_ (Ev.now _)
  exact Ev.bind (laws_toIntS_ev l (by omega)) (Ev.now _)
theorem laws_eqBloom_self (a b n : Int) (l : List Int) (hl : l.length ≤ 9223372036854775807) : Ev (fun k => laws_eqBloom.f k a b n l a b n l) true := by
  simp only [laws_eqBloom.f, laws_eqBits.f, ↓reduceIte]
  refine Ev.bind (a := true) ?_ (by simp only [↓reduceIte]; exact Ev.now _)
  exact Ev.bind (laws_eqIntS_self l hl) (by simp only [↓reduceIte]; exact Ev.now _)
theorem laws_markIntS_l0 (m : Int) (n : Nat) (h0 : 0 ≤ m) (hm : m + n ≤ 4611686018427387904) (d : Nat) : ∀ (i : Nat) (l : List Int), l.length = n → l.take i = marks m i → i + d = n → Ev (fun k => laws_markIntS.l0 k l (m + i) (i : Int)) (m + n, marks m n) := by
  induction d with
  | zero =>
    intro i l hl ht hi
    obtain rfl : i = n := by omega
    refine Ev.succ ?_
    have h1 : ¬ ((i : Int) < (l.length : Int)) := by omega
    simp only [laws_markIntS.l0, h1, ↓reduceIte]
    rw [List.take_of_length_le (by omega)] at ht
    exact Ev.some_ (by rw [ht])
  | succ d ih =>
    intro i l hl ht hi
    refine Ev.succ ?_
    have h1 : (i : Int) < (l.length : Int) := by omega
    have h2 : (0 : Int) ≤ (i : Int) := by omega
    have hw : wrap64 ((i : Int) + 1) = ((i + 1 : Nat) : Int) := by rw [w64 (by omega) (by omega)]; rfl
    have hw2 : wrap64 (m + (i : Int) + 1) = m + ((i + 1 : Nat) : Int) := by rw [w64 (by omega) (by omega)]; omega
    simp only [laws_markIntS.l0, h1, h2, ↓reduceIte, hw, hw2, Int.toNat_natCast]
    exact ih (i + 1) (l.set i (m + i)) (by simp [hl]) (by rw [take_set_succ _ _ _ (by omega), ht, marks_succ]) (by omega)
theorem laws_markIntS_ev (l : List Int) (m : Int) (h0 : 0 ≤ m) (hm : m + l.length ≤ 4611686018427387904) : Ev (fun k => laws_markIntS.f k l m) (m + l.length, marks m l.length) := by
  have h := laws_markIntS_l0 m l.length h0 hm l.length 0 l rfl (by simp [marks]) (by omega)
  simpa [laws_markIntS.f] using h
theorem laws_heldIntS_ev (m : Int) (n : Nat) (h0 : 0 ≤ m) (hm : m + n ≤ 4611686018427387904) : Ev (fun k => laws_heldIntS.f k (marks m n) m) (m + n) := by
  have h := Ev.up (L := fun k i => laws_heldIntS.l0 k (marks m n) (m + (i : Int)) (i : Int)) (r := fun _ => m + n) n ?_ ?_ 0 (Nat.zero_le _)
  · simpa [laws_heldIntS.f] using h
  · refine Ev.succ ?_
    have h1 : ¬ ((n : Int) < ((marks m n).length : Int)) := by rw [marks_length]; omega
    simp only [laws_heldIntS.l0, h1, ↓reduceIte]
    exact Ev.now _
  · intro i hi ih
    refine Ev.succ ?_
    have h1 : (i : Int) < ((marks m n).length : Int) := by rw [marks_length]; omega
    have h2 : (0 : Int) ≤ (i : Int) := by omega
    have h3 : rd (marks m n) (i : Int) = m + i := by rw [rd_nat _ _ (by rw [marks_length]; exact hi)]; simp [marks]
    have hw : wrap64 ((i : Int) + 1) = ((i + 1 : Nat) : Int) := by rw [w64 (by omega) (by omega)]; rfl
    have hw2 : wrap64 (m + (i : Int) + 1) = m + ((i + 1 : Nat) : Int) := by rw [w64 (by omega) (by omega)]; omega
    simp only [laws_heldIntS.l0, h1, h2, h3, ↓reduceIte, hw, hw2]
    exact ih
theorem laws_markBloom_ev (a b n : Int) (l : List Int) (hl : l.length ≤ 1048576) : Ev (fun k => laws_markBloom.f k a b n l 1) (1 + l.length, marks 1 l.length) := by
  unfold laws_markBloom.f laws_markBits.f
  refine Ev.bind (a := (1 + (l.length : Int), marks 1 l.length)) ?_ (Ev.now _)
  exact Ev.bind (laws_markIntS_ev l 1 (by decide) (by omega)) (Ev.now _)
theorem laws_heldBloom_ev (a b n : Int) (m : Nat) (hm : m ≤ 1048576) : Ev (fun k => laws_heldBloom.f k a b n (marks 1 m) 1) (1 + m) := by
  have c : ¬ ((1 : Int) + (m : Int) < 0) := by omega
  unfold laws_heldBloom.f laws_heldBits.f
  refine Ev.bind (a := (1 + (m : Int))) ?_ (by simp only [c, ↓reduceIte]; exact Ev.now _)
  exact Ev.bind (laws_heldIntS_ev 1 m (by decide) (by omega)) (by simp only [c, ↓reduceIte]; exact Ev.now _)
theorem spec_biAt_eq (n : Int) (l : List Int) (hl : ∀ x ∈ l, 0 ≤ x ∧ x ≤ 65535) (i : Nat) (hi : i / 16 < l.length) (hi2 : i ≤ 1000000) : spec_biAt.f n l (i : Int) = some (bitV l i) := by
  unfold spec_biAt.f
  have e1 : Int.tdiv (i : Int) 16 = ((i / 16 : Nat) : Int) := by rw [tdiv_pos (by omega)]; rfl
  have e2 : Int.tmod (i : Int) 16 = ((i % 16 : Nat) : Int) := by rw [tmod_pos (by omega)]; rfl
  rw [e1, e2, w64 (n := ((i / 16 : Nat) : Int)) (by omega) (by omega), if_pos (by omega), if_pos (by omega), if_pos (by omega)]
  have hr := rd_range hl ((i / 16 : Nat) : Int)
  rw [and_one_bit hr.1 hr.2 (by omega) (by omega), Int.toNat_natCast]
  rfl
def covers (la lb : List Int) (n : Nat) (i : Nat) : Bool := (List.range' i (n - i)).all fun j => !bitV lb j || bitV la j
theorem covers_end (la lb : List Int) (n : Nat) : covers la lb n n = true := by simp [covers]
theorem covers_step (la lb : List Int) (n i : Nat) (h : i < n) : covers la lb n i = ((!bitV lb i || bitV la i) && covers la lb n (i + 1)) := by
  unfold covers
  rw [show n - i = (n - (i + 1)) + 1 from by omega, List.range'_succ, List.all_cons]
theorem covers_iff (la lb : List Int) (n : Nat) : covers la lb n 0 = true ↔ ∀ j, j < n → bitV lb j = true → bitV la j = true := by
  unfold covers
  simp only [List.all_eq_true, Bool.or_eq_true, Bool.not_eq_true', List.mem_range']
  constructor
  · intro h j hj hb
    rcases h j ⟨j, by omega, by omega⟩ with h1 | h1
    · rw [hb] at h1; cases h1
    · exact h1
  · rintro h j ⟨t, ht, rfl⟩
    cases hb : bitV lb (0 + 1 * t) with
    | false => exact .inl rfl
    | true => exact .inr (h _ (by omega) hb)
def alikeV (a b n : Int) (la : List Int) (a' b' n' : Int) (lb : List Int) : Bool := goodBloom a b n la && (goodBloom a' b' n' lb && (decide (a = a') && (decide (b = b') && (n == n'))))
theorem spec_fiAlike_ev (a b n : Int) (la : List Int) (a' b' n' : Int) (lb : List Int) (ha : la.length ≤ 9223372036854775807) (hb : lb.length ≤ 9223372036854775807) : Ev (fun k => spec_fiAlike.f k a b n la a' b' n' lb) (alikeV a b n la a' b' n' lb) := by
  unfold spec_fiAlike.f alikeV
  refine Ev.bind (spec_fiGood_ev a b n la ha) ?_
  cases goodBloom a b n la with
  | false => simp only [Bool.false_eq_true, ↓reduceIte, Bool.false_and]; exact Ev.now _
  | true =>
    simp only [↓reduceIte, Bool.true_and]
    refine Ev.bind (spec_fiGood_ev a' b' n' lb hb) ?_
    cases goodBloom a' b' n' lb with
    | false => simp only [Bool.false_eq_true, ↓reduceIte, Bool.false_and]; exact Ev.now _
    | true =>
      simp only [↓reduceIte, Bool.true_and]
      by_cases c1 : a = a' <;> by_cases c2 : b = b' <;> simp only [c1, c2, ↓reduceIte, decide_true, decide_false, Bool.true_and, Bool.false_and] <;> exact Ev.now _
theorem impl_alike_ev (a b n : Int) (la : List Int) (a' b' n' : Int) (lb : List Int) (ha : la.length ≤ 9223372036854775807) (hb : lb.length ≤ 9223372036854775807) : Ev (fun k => impl_alike.f k a b n la a' b' n' lb) (alikeV a b n la a' b' n' lb) := by
  unfold impl_alike.f alikeV
  refine Ev.bind (impl_IsBloom_ev a b n la ha) ?_
  cases goodBloom a b n la with
  | false => simp only [Bool.false_eq_true, ↓reduceIte, Bool.false_and]; exact Ev.now _
  | true =>
    simp only [↓reduceIte, Bool.true_and]
    refine Ev.bind (impl_IsBloom_ev a' b' n' lb hb) ?_
    cases goodBloom a' b' n' lb with
    | false => simp only [Bool.false_eq_true, ↓reduceIte, Bool.false_and]; exact Ev.now _
    | true =>
      simp only [↓reduceIte, Bool.true_and]
      by_cases c1 : a = a' <;> by_cases c2 : b = b' <;> simp only [c1, c2, ↓reduceIte, decide_true, decide_false, Bool.true_and, Bool.false_and] <;> exact Ev.now _
def coversV (a b n : Int) (la : List Int) (a' b' n' : Int) (lb : List Int) : Bool × Bool := if alikeV a b n la a' b' n' lb = true then (covers la lb n.toNat 0, true) else (false, false)
theorem alikeV_of {a b n : Int} {la : List Int} {a' b' n' : Int} {lb : List Int} (h : alikeV a b n la a' b' n' lb = true) : goodBits n la = true ∧ goodBits n lb = true ∧ n = n' := by
  unfold alikeV goodBloom at h
  simp only [Bool.and_eq_true, decide_eq_true_eq, beq_iff_eq] at h
  obtain ⟨⟨h1, _⟩, ⟨h2, _⟩, _, _, rfl⟩ := h
  exact ⟨h1, h2, rfl⟩
/-- All words of b from one on are covered. -/
def coversW (la lb : List Int) (i : Nat) : Bool := (List.range' i (lb.length - i)).all fun j => decide (Go.bits .andNot .i64 (rd lb (j : Int)) (rd la (j : Int)) = 0)
theorem coversW_eq {n : Int} {la lb : List Int} (ga : goodBits n la = true) (gb : goodBits n lb = true) : coversW la lb 0 = covers la lb n.toNat 0 := by
  have s1 := goodBits_size ga
  have s2 := goodBits_size gb
  rw [Bool.eq_iff_iff, covers_iff]
  unfold coversW
  simp only [List.all_eq_true, decide_eq_true_eq, List.mem_range']
  constructor
  · intro h j hj hb
    have hw := h (j / 16) ⟨j / 16, by omega, by omega⟩
    have r1 := rd_range s1.2.2.2 ((j / 16 : Nat) : Int)
    have r2 := rd_range s2.2.2.2 ((j / 16 : Nat) : Int)
    exact (andNot_zero r2.1 r2.2 r1.1 r1.2).1 hw (j % 16) hb
  · rintro h j ⟨t, ht, rfl⟩
    have r1 := rd_range s1.2.2.2 ((0 + 1 * t : Nat) : Int)
    have r2 := rd_range s2.2.2.2 ((0 + 1 * t : Nat) : Int)
    refine (andNot_zero r2.1 r2.2 r1.1 r1.2).2 (fun j hb => ?_)
    by_cases c : j < 16
    · have e1 : (16 * t + j) / 16 = 0 + 1 * t := by omega
      have e2 : (16 * t + j) % 16 = j := by omega
      have hb' : bitV lb (16 * t + j) = true := by unfold bitV; rw [e1, e2]; exact hb
      have hlt : 16 * t + j < n.toNat := by
        rcases Nat.lt_or_ge (16 * t + j) n.toNat with h3 | h3
        · exact h3
        · have h4 := bitV_behind gb (i := 16 * t + j) (by omega)
          rw [hb'] at h4
          cases h4
      have h5 := h _ hlt hb'
      unfold bitV at h5
      rw [e1, e2] at h5
      exact h5
    · rw [bitI_high r2.1 r2.2 (by omega)] at hb
      cases hb
theorem spec_biNew_eq (n : Int) (h0 : 0 ≤ n) (h1 : n ≤ 1000000) : spec_biNew.f n = some (n, List.replicate ((n + 15) / 16).toNat 0) := by
  unfold spec_biNew.f
  rw [w64 (n := n + 15) (by omega) (by omega), tdiv_pos (by omega), w64 (by omega) (by omega), if_pos (by omega), if_pos (by omega)]
theorem impl_blank_eq (n : Int) (h0 : 0 ≤ n) (h1 : n ≤ 1000000) : impl_blank.f n = some (n, List.replicate ((n + 15) / 16).toNat 0) := by
  unfold impl_blank.f
  rw [impl_words_eq n h0 h1]
  simp only [Option.bind_some]
  rw [if_pos (by omega), if_pos (by omega)]

theorem pow15 {t : Nat} (ht : t ≤ 15) : (2 : Nat) ^ t ≤ 32768 := Nat.le_trans (Nat.pow_le_pow_right (by decide) ht) (by decide)
theorem pow_cast (t : Nat) : (2 : Int) ^ t = ((2 ^ t : Nat) : Int) := by
  rw [Int.natCast_pow]
  rfl
theorem not_bits (b : Nat) (hb : b ≤ 32768) (j : Nat) : (18446744073709551615 - b).testBit j = (decide (j < 64) && !b.testBit j) := by
  have h := Nat.testBit_two_pow_sub_succ (x := b) (n := 64) (by omega) j
  rw [show 2 ^ 64 - (b + 1) = 18446744073709551615 - b from by omega] at h
  exact h
theorem andNot_off {x : Int} {t : Nat} (x0 : 0 ≤ x) (x1 : x ≤ 65535) (ht : t ≤ 15) (h : bitI x t = false) : Go.bits .andNot .i64 x (2 ^ t) = x := by
  obtain ⟨a, rfl⟩ := Int.eq_ofNat_of_zero_le x0
  have p := pow15 ht
  rw [pow_cast, (bits_nat64 a (2 ^ t) (by omega) (by omega)).2.2.2]
  have e : a &&& (18446744073709551615 - 2 ^ t) = a := by
    apply Nat.eq_of_testBit_eq
    intro j
    rw [Nat.testBit_and, not_bits (2 ^ t) p, Nat.testBit_two_pow]
    unfold bitI at h
    rw [Int.toNat_natCast] at h
    by_cases c : t = j
    · subst c
      rw [h]
      rfl
    · by_cases c2 : j < 64
      · simp [c, c2]
      · have h3 : a.testBit j = false := Nat.testBit_lt_two_pow (Nat.lt_of_lt_of_le (show a < 2 ^ 64 by omega) (Nat.pow_le_pow_right (by decide) (by omega)))
        rw [h3]
        rfl
  rw [e]
theorem and_le16 (a b : Nat) (ha : a ≤ 65535) (hb : b ≤ 32768) : a ||| b < 65536 := Nat.or_lt_two_pow (n := 16) (by omega) (by omega)
theorem or_bit {x : Int} {t : Nat} (x0 : 0 ≤ x) (x1 : x ≤ 65535) (ht : t ≤ 15) : 0 ≤ Go.bits .or .i64 x (2 ^ t) ∧ Go.bits .or .i64 x (2 ^ t) ≤ 65535 ∧ ∀ j, bitI (Go.bits .or .i64 x (2 ^ t)) j = (bitI x j || decide (t = j)) := by
  obtain ⟨a, rfl⟩ := Int.eq_ofNat_of_zero_le x0
  have p := pow15 ht
  rw [pow_cast, (bits_nat64 a (2 ^ t) (by omega) (by omega)).2.1]
  have hlt : a ||| 2 ^ t < 65536 := and_le16 a (2 ^ t) (by omega) p
  refine ⟨Int.natCast_nonneg _, Int.ofNat_le.2 (Nat.le_of_lt_succ hlt), fun j => ?_⟩
  unfold bitI
  rw [Int.toNat_natCast, Int.toNat_natCast, Nat.testBit_or, Nat.testBit_two_pow]
theorem rd_set_nat (ws : List Int) (k j : Nat) (y : Int) (hk : k < ws.length) : rd (ws.set k y) (j : Int) = if k = j then y else rd ws (j : Int) := by
  unfold rd
  rw [Int.toNat_natCast, List.getD_eq_getElem?_getD, List.getD_eq_getElem?_getD, List.getElem?_set]
  by_cases c : k = j
  · subst c
    simp [hk]
  · simp [c]
theorem set_rd (ws : List Int) (k : Nat) (hk : k < ws.length) : ws.set k (rd ws (k : Int)) = ws := by
  rw [rd_nat ws k hk]
  exact List.set_getElem_self hk
def setW (ws : List Int) (i : Nat) : List Int := ws.set (i / 16) (Go.bits .or .i64 (rd ws ((i / 16 : Nat) : Int)) (2 ^ (i % 16)))
def Low (ws : List Int) (i : Nat) : Prop := (∀ x ∈ ws, 0 ≤ x ∧ x ≤ 65535) ∧ ∀ p, i ≤ p → bitV ws p = false
theorem Low.next {ws : List Int} {i : Nat} (h : Low ws i) : Low ws (i + 1) := ⟨h.1, fun p hp => h.2 p (by omega)⟩
theorem Low.set {ws : List Int} {i : Nat} (h : Low ws i) (hi : i / 16 < ws.length) : Low (setW ws i) (i + 1) := by
  have r := rd_range h.1 ((i / 16 : Nat) : Int)
  have o := or_bit (t := i % 16) r.1 r.2 (by omega)
  refine ⟨fun x hx => ?_, fun p hp => ?_⟩
  · rcases List.mem_or_eq_of_mem_set hx with h1 | rfl
    · exact h.1 x h1
    · exact ⟨o.1, o.2.1⟩
  · unfold bitV setW
    rw [rd_set_nat _ _ _ _ hi]
    by_cases c : i / 16 = p / 16
    · have h2 := h.2 p (by omega)
      unfold bitV at h2
      rw [if_pos c, o.2.2, c, h2, Bool.false_or, decide_eq_false_iff_not]
      omega
    · rw [if_neg c]
      exact h.2 p (by omega)
theorem shl_bit (i : Nat) : shl .i64 1 ((i % 16 : Nat) : Int) = 2 ^ (i % 16) := by
  rw [shl_one (by omega) (by omega), Int.toNat_natCast]
theorem impl_Bits_set_in38_0_eq (n : Int) (ws : List Int) (i : Nat) (v : Bool) (h : Low ws i) (hi : i / 16 < ws.length) (hi2 : i ≤ 1000000) : impl_Bits_set_in38_0.f n ws (i : Int) v = some (if v = true then setW ws i else ws) := by
  unfold impl_Bits_set_in38_0.f
  have e1 : Int.tdiv (i : Int) 16 = ((i / 16 : Nat) : Int) := by rw [tdiv_pos (by omega)]; rfl
  have e2 : Int.tmod (i : Int) 16 = ((i % 16 : Nat) : Int) := by rw [tmod_pos (by omega)]; rfl
  have r := rd_range h.1 ((i / 16 : Nat) : Int)
  have hb : bitI (rd ws ((i / 16 : Nat) : Int)) (i % 16) = false := h.2 i (Nat.le_refl _)
  rw [e1, e2, w64 (n := ((i / 16 : Nat) : Int)) (by omega) (by omega), if_pos (by omega), if_pos (by omega), if_pos (by omega), shl_bit, andNot_off r.1 r.2 (by omega) hb, Int.toNat_natCast, set_rd ws _ hi]
  simp only [Option.bind_some]
  cases v <;> rfl
theorem spec_biSet_eq (n : Int) (ws : List Int) (i : Nat) (hi : i / 16 < ws.length) (hi2 : i ≤ 1000000) : spec_biSet.f n ws (i : Int) = some (setW ws i) := by
  unfold spec_biSet.f
  have e1 : Int.tdiv (i : Int) 16 = ((i / 16 : Nat) : Int) := by rw [tdiv_pos (by omega)]; rfl
  have e2 : Int.tmod (i : Int) 16 = ((i % 16 : Nat) : Int) := by rw [tmod_pos (by omega)]; rfl
  rw [e1, e2, w64 (n := ((i / 16 : Nat) : Int)) (by omega) (by omega), if_pos (by omega), if_pos (by omega), if_pos (by omega), shl_bit, Int.toNat_natCast]
  rfl
theorem impl_Bits_at_in40_2_eq (a b n : Int) (l : List Int) (hl : ∀ x ∈ l, 0 ≤ x ∧ x ≤ 65535) (i : Nat) (hi : i / 16 < l.length) (hi2 : i ≤ 1000000) : impl_Bits_at_in40_2.f a b n l (i : Int) = some (bitV l i) := by
  unfold impl_Bits_at_in40_2.f
  have e1 : Int.tdiv (i : Int) 16 = ((i / 16 : Nat) : Int) := by rw [tdiv_pos (by omega)]; rfl
  have e2 : Int.tmod (i : Int) 16 = ((i % 16 : Nat) : Int) := by rw [tmod_pos (by omega)]; rfl
  rw [e1, e2, w64 (n := ((i / 16 : Nat) : Int)) (by omega) (by omega), if_pos (by omega), if_pos (by omega), if_pos (by omega)]
  have hr := rd_range hl ((i / 16 : Nat) : Int)
  rw [and_one_bit hr.1 hr.2 (by omega) (by omega), Int.toNat_natCast]
  rfl
/-- The vector that has the ones of both, from place i on. -/
def unionW (la lb : List Int) : Nat → Nat → List Int → List Int
  | _, 0, ws => ws
  | i, d + 1, ws => unionW la lb (i + 1) d (if bitV la i = true ∨ bitV lb i = true then setW ws i else ws)
theorem unionW_length (la lb : List Int) (d : Nat) : ∀ i ws, (unionW la lb i d ws).length = ws.length := by
  induction d with
  | zero => intro i ws; rfl
  | succ d ih =>
    intro i ws
    rw [unionW, ih]
    by_cases c : bitV la i = true ∨ bitV lb i = true
    · rw [if_pos c, setW, List.length_set]
    · rw [if_neg c]
theorem spec_UnionBloom_l0 (la lb : List Int) (a b a' b' n' x y z : Int) (q : Nat) (ha : ∀ v ∈ la, 0 ≤ v ∧ v ≤ 65535) (hb : ∀ v ∈ lb, 0 ≤ v ∧ v ≤ 65535) (h1 : q ≤ 16 * la.length) (h2 : q ≤ 16 * lb.length) (hq : q ≤ 5000) (d : Nat) :
    ∀ (i : Nat) (ws : List Int), i + d = q → q ≤ 16 * ws.length → Ev (fun k => spec_UnionBloom.l0 k (i : Int) a b (q : Int) la a' b' n' lb x y z ws) (x, y, z, unionW la lb i d ws, true) := by
  induction d with
  | zero =>
    intro i ws hi hw
    refine Ev.succ ?_
    have c1 : ¬ ((i : Int) < (q : Int)) := by omega
    simp only [spec_UnionBloom.l0, c1, ↓reduceIte, unionW]
    exact Ev.now _
  | succ d ih =>
    intro i ws hi hw
    refine Ev.succ ?_
    have c1 : (i : Int) < (q : Int) := by omega
    have hwr : wrap64 ((i : Int) + 1) = ((i + 1 : Nat) : Int) := by rw [w64 (by omega) (by omega)]; rfl
    have e1 := spec_biAt_eq (q : Int) la ha i (by omega) (by omega)
    have e2 := spec_biAt_eq n' lb hb i (by omega) (by omega)
    have e3 := spec_biSet_eq z ws i (by omega) (by omega)
    have hs : (setW ws i).length = ws.length := by rw [setW, List.length_set]
    rw [unionW]
    simp only [spec_UnionBloom.l0, c1, ↓reduceIte, e1, e2, e3, Option.bind_some, hwr]
    by_cases ca : bitV la i = true
    · rw [if_pos (Or.inl ca)]
      simp only [ca, ↓reduceIte]
      exact ih (i + 1) (setW ws i) (by omega) (by omega)
    · by_cases cb : bitV lb i = true
      · rw [if_pos (Or.inr cb)]
        simp only [ca, cb, Bool.false_eq_true, ↓reduceIte]
        exact ih (i + 1) (setW ws i) (by omega) (by omega)
      · rw [if_neg (fun h => h.elim ca cb)]
        simp only [ca, cb, Bool.false_eq_true, ↓reduceIte]
        exact ih (i + 1) ws (by omega) hw
theorem impl_UnionBloomc1_eq (la lb : List Int) (a b n a' b' n' : Int) (ha : ∀ v ∈ la, 0 ≤ v ∧ v ≤ 65535) (hb : ∀ v ∈ lb, 0 ≤ v ∧ v ≤ 65535) (i : Nat) (h1 : i / 16 < la.length) (h2 : i / 16 < lb.length) (h3 : i ≤ 1000000) : impl_UnionBloomc1.f (i : Int) a b n la a' b' n' lb = some (bitV la i || bitV lb i) := by
  have e1 := impl_Bits_at_in40_2_eq a b n la ha i h1 h3
  have e2 := impl_Bits_at_in40_2_eq a' b' n' lb hb i h2 h3
  unfold impl_UnionBloomc1.f
  rw [e1, e2]
  cases bitV la i <;> cases bitV lb i <;> rfl
theorem union_if (la lb ws : List Int) (i : Nat) : (if (bitV la i || bitV lb i) = true then setW ws i else ws) = (if bitV la i = true ∨ bitV lb i = true then setW ws i else ws) := by
  cases bitV la i <;> cases bitV lb i <;> simp
theorem low_if (la lb ws : List Int) (i : Nat) (h : Low ws i) (hi : i / 16 < ws.length) : Low (if bitV la i = true ∨ bitV lb i = true then setW ws i else ws) (i + 1) := by
  by_cases c : bitV la i = true ∨ bitV lb i = true
  · rw [if_pos c]; exact h.set hi
  · rw [if_neg c]; exact h.next
theorem length_if (la lb ws : List Int) (i : Nat) : (if bitV la i = true ∨ bitV lb i = true then setW ws i else ws).length = ws.length := by
  by_cases c : bitV la i = true ∨ bitV lb i = true
  · rw [if_pos c, setW, List.length_set]
  · rw [if_neg c]
theorem sixteen {i q m : Nat} (h : i < q) (h2 : q ≤ 16 * m) : i / 16 < m := by omega
theorem wrap_succ {i q : Nat} (h : i < q) (h2 : q ≤ 5000) : wrap64 ((i : Int) + 1) = ((i + 1 : Nat) : Int) := by rw [w64 (by omega) (by omega)]; rfl
theorem made_step (la lb ws us : List Int) (a b n a' b' n' z x y y2 : Int) (v : Bool) (k : Nat) (c1 : y < x) (e4 : impl_UnionBloomc1.f y a b n la a' b' n' lb = some v) (e5 : impl_Bits_set_in38_0.f z ws y v = some us) (hw : wrap64 (y + 1) = y2) :
    impl_madeBits_impl_UnionBloomc1.l0 (k + 1) x y a b n la a' b' n' lb z ws = impl_madeBits_impl_UnionBloomc1.l0 k x y2 a b n la a' b' n' lb z us := by
  rw [impl_madeBits_impl_UnionBloomc1.l0, if_pos c1, e4, Option.bind_some, e5, Option.bind_some, hw]
theorem impl_made_l0 (la lb : List Int) (a b n a' b' n' z : Int) (q : Nat) (ha : ∀ v ∈ la, 0 ≤ v ∧ v ≤ 65535) (hb : ∀ v ∈ lb, 0 ≤ v ∧ v ≤ 65535) (h1 : q ≤ 16 * la.length) (h2 : q ≤ 16 * lb.length) (hq : q ≤ 5000) (d : Nat) :
    ∀ (i : Nat) (ws : List Int), i + d = q → q ≤ 16 * ws.length → Low ws i → Ev (fun k => impl_madeBits_impl_UnionBloomc1.l0 k (q : Int) (i : Int) a b n la a' b' n' lb z ws) (z, unionW la lb i d ws) := by
  induction d with
  | zero =>
    intro i ws hi hw hl
    refine Ev.succ ?_
    have c1 : ¬ ((i : Int) < (q : Int)) := by omega
    simp only [impl_madeBits_impl_UnionBloomc1.l0, c1, ↓reduceIte, unionW]
    exact Ev.now _
  | succ d ih =>
    intro i ws hi hw hl
    have hiq : i < q := by omega
    have c1 : (i : Int) < (q : Int) := by omega
    have h3 : i ≤ 1000000 := by omega
    have hwr := wrap_succ hiq hq
    have e4 := impl_UnionBloomc1_eq la lb a b n a' b' n' ha hb i (sixteen hiq h1) (sixteen hiq h2) h3
    have e5 := impl_Bits_set_in38_0_eq z ws i (bitV la i || bitV lb i) hl (sixteen hiq hw) h3
    have h := ih (i + 1) (if bitV la i = true ∨ bitV lb i = true then setW ws i else ws) (by omega) (by rw [length_if]; exact hw) (low_if la lb ws i hl (sixteen hiq hw))
    have e6 := e5.trans (congrArg some (union_if la lb ws i))
    have hu : unionW la lb i (d + 1) ws = unionW la lb (i + 1) d (if bitV la i = true ∨ bitV lb i = true then setW ws i else ws) := by rw [unionW]
    rw [hu]
    generalize (if bitV la i = true ∨ bitV lb i = true then setW ws i else ws) = us at h e6 ⊢
    exact Ev.step (fun k => made_step la lb ws us a b n a' b' n' z (q : Int) (i : Int) _ _ k c1 e4 e6 hwr) h
theorem low_zero (m : Nat) : Low (List.replicate m 0) 0 := by
  refine ⟨fun x hx => ?_, fun p _ => ?_⟩
  · have := List.eq_of_mem_replicate hx
    omega
  · unfold bitV
    have e : rd (List.replicate m 0) ((p / 16 : Nat) : Int) = 0 := by
      unfold rd
      rw [List.getD_eq_getElem?_getD, List.getElem?_replicate]
      split <;> rfl
    rw [e, bitI_zero]
def blankW (n : Int) : List Int := List.replicate ((n + 15) / 16).toNat 0
def unionB (a b n : Int) (la : List Int) (a' b' n' : Int) (lb : List Int) : Int × Int × Int × List Int × Bool := if alikeV a b n la a' b' n' lb = true then (a, b, n, unionW la lb 0 n.toNat (blankW n), true) else (0, 0, 0, [], false)
theorem unionB_length (a b n : Int) (la : List Int) (a' b' n' : Int) (lb : List Int) : (unionB a b n la a' b' n' lb).2.2.2.1.length ≤ 1048576 := by
  unfold unionB
  by_cases c : alikeV a b n la a' b' n' lb = true
  · have g := goodBits_size (alikeV_of c).1
    rw [if_pos c]
    simp only [unionW_length, blankW, List.length_replicate]
    omega
  · rw [if_neg c]
    simp
theorem spec_UnionBloom_ev (a b n : Int) (la : List Int) (a' b' n' : Int) (lb : List Int) (ha : la.length ≤ 9223372036854775807) (hb : lb.length ≤ 9223372036854775807) : Ev (fun k => spec_UnionBloom.f k a b n la a' b' n' lb) (unionB a b n la a' b' n' lb) := by
  unfold spec_UnionBloom.f unionB
  refine Ev.bind (spec_fiAlike_ev a b n la a' b' n' lb ha hb) ?_
  by_cases c : alikeV a b n la a' b' n' lb = true
  · obtain ⟨ga, gb, rfl⟩ := alikeV_of c
    have sa := goodBits_size ga
    have sb := goodBits_size gb
    simp only [c, ↓reduceIte, spec_fiNew.f, spec_biNew_eq n sa.1 (by omega), Option.bind_some]
    have h := spec_UnionBloom_l0 la lb a b a' b' n a b n n.toNat sa.2.2.2 sb.2.2.2 (by omega) (by omega) (by omega) n.toNat 0 (blankW n) (by omega) (by rw [blankW, List.length_replicate]; omega)
    rw [show ((n.toNat : Nat) : Int) = n from by omega] at h
    exact h
  · simp only [c, Bool.false_eq_true, ↓reduceIte]
    exact Ev.now _
theorem impl_UnionBloom_ev (a b n : Int) (la : List Int) (a' b' n' : Int) (lb : List Int) (ha : la.length ≤ 9223372036854775807) (hb : lb.length ≤ 9223372036854775807) : Ev (fun k => impl_UnionBloom.f k a b n la a' b' n' lb) (unionB a b n la a' b' n' lb) := by
  unfold impl_UnionBloom.f unionB
  refine Ev.bind (impl_alike_ev a b n la a' b' n' lb ha hb) ?_
  by_cases c : alikeV a b n la a' b' n' lb = true
  · obtain ⟨ga, gb, rfl⟩ := alikeV_of c
    have sa := goodBits_size ga
    have sb := goodBits_size gb
    simp only [c, ↓reduceIte, impl_madeBits_impl_UnionBloomc1.f, impl_blank_eq n sa.1 (by omega), Option.bind_some]
    have h := impl_made_l0 la lb a b n a' b' n n n.toNat sa.2.2.2 sb.2.2.2 (by omega) (by omega) (by omega) n.toNat 0 (blankW n) (by omega) (by rw [blankW, List.length_replicate]; omega) (low_zero _)
    rw [show ((n.toNat : Nat) : Int) = n from by omega] at h
    exact Ev.bind h (Ev.now _)
  · simp only [c, Bool.false_eq_true, ↓reduceIte]
    exact Ev.now _
theorem laws_markBloomK_ev (a b n : Int) (l : List Int) (k0 : Int) (h0 : 0 ≤ k0) (h1 : k0 ≤ 10000000) (hl : l.length ≤ 1048576) : Ev (fun k => laws_markBloom.f k a b n l k0) (k0 + l.length, marks k0 l.length) := by
  unfold laws_markBloom.f laws_markBits.f
  refine Ev.bind (a := (k0 + (l.length : Int), marks k0 l.length)) ?_ (Ev.now _)
  exact Ev.bind (laws_markIntS_ev l k0 h0 (by omega)) (Ev.now _)
theorem FnExactUnionBloom : ∀ (a0_0 : Int) (a0_1 : Int) (a0_2 : Int) (l0_3 : List Int) (a1_0 : Int) (a1_1 : Int) (a1_2 : Int) (l1_3 : List Int), ((Lit.int .i64 a0_0).wf = true) → ((Lit.int .i64 a0_1).wf = true) → ((Lit.int .i64 a0_2).wf = true) → (l0_3.length ≤ maxLen ∧ ∀ l0_3' ∈ l0_3, (Lit.int .i64 l0_3').wf = true) → ((Lit.int .i64 a1_0).wf = true) → ((Lit.int .i64 a1_1).wf = true) → ((Lit.int .i64 a1_2).wf = true) → (l1_3.length ≤ maxLen ∧ ∀ l1_3' ∈ l1_3, (Lit.int .i64 l1_3').wf = true) → ∃ k, laws_FnExactUnionBloom.f k a0_0 a0_1 a0_2 l0_3 a1_0 a1_1 a1_2 l1_3 = some true := by
  intro a b c l a' b' c' l' h0 h1 h2 hl h3 h4 h5 hl'
  refine Ev.rounds ?_
  have hl1 : l.length ≤ 9223372036854775807 := by have := hl.1; unfold maxLen at this; exact this
  have hl1' : l'.length ≤ 9223372036854775807 := by have := hl'.1; unfold maxLen at this; exact this
  unfold laws_FnExactUnionBloom.f
  simp only [laws_szBloom_eq a b c l 1048576 (by decide) (by decide) hl1, Option.bind_some]
  by_cases e : (l.length : Int) ≤ 1048576
  · simp only [e, ↓reduceIte, show ¬ (1048576 - (l.length : Int) < 0) from by omega]
    rw [laws_szBloom_eq a' b' c' l' (1048576 - (l.length : Int)) (by omega) (by omega) hl1']
    simp only [Option.bind_some]
    by_cases e' : (l'.length : Int) ≤ 1048576 - (l.length : Int)
    · simp only [e', ↓reduceIte, show ¬ (1048576 - (l.length : Int) - (l'.length : Int) < 0) from by omega]
      have hl2 : l.length ≤ 1048576 := by omega
      have hl2' : l'.length ≤ 1048576 := by omega
      have hg := unionB_length a b c l a' b' c' l'
      have hi := impl_UnionBloom_ev a b c l a' b' c' l' hl1 hl1'
      refine Ev.bind (laws_toBloom_ev a b c l hl2) ?_
      refine Ev.bind (laws_toBloom_ev a' b' c' l' hl2') ?_
      refine Ev.bind (spec_UnionBloom_ev a b c l a' b' c' l' hl1 hl1') ?_
      refine Ev.bind (laws_toBloom_ev a b c l hl2) ?_
      refine Ev.bind (laws_toBloom_ev a' b' c' l' hl2') ?_
      refine Ev.bind hi ?_
      generalize unionB a b c l a' b' c' l' = v at *
      obtain ⟨x, y, z, cs, o⟩ := v
      simp only at hg
      refine Ev.bind (laws_eqBloom_self x y z cs (by omega)) ?_
      simp only [↓reduceIte, bne_self_eq_false]
      refine Ev.succ ?_
      simp only [laws_FnExactUnionBloom.j0, Bool.false_eq_true, ↓reduceIte]
      refine Ev.bind (laws_toBloom_ev a b c l hl2) ?_
      refine Ev.bind (laws_eqBloom_self a b c l hl1) ?_
      simp only [↓reduceIte]
      refine Ev.bind (laws_toBloom_ev a' b' c' l' hl2') ?_
      refine Ev.bind (laws_eqBloom_self a' b' c' l' hl1') ?_
      simp only [↓reduceIte]
      refine Ev.bind (laws_markBloomK_ev a b c l 1 (by decide) (by decide) hl2) ?_
      refine Ev.bind (laws_markBloomK_ev a' b' c' l' (1 + (l.length : Int)) (by omega) (by omega) hl2') ?_
      simp only [show ¬ ((1 : Int) + (l.length : Int) + (l'.length : Int) < 0) from by omega, ↓reduceIte]
      refine Ev.bind (laws_eqBloom_self x y z cs (by omega)) ?_
      simp only [↓reduceIte, bne_self_eq_false]
      refine Ev.succ ?_
      simp only [laws_FnExactUnionBloom.j1, Bool.false_eq_true, ↓reduceIte]
      refine Ev.bind (laws_markBloomK_ev x y z cs 1 (by decide) (by decide) (by omega)) ?_
      refine Ev.bind (laws_heldBloom_ev x y z cs.length (by omega)) ?_
      simp only [show ¬ ((1 : Int) + (cs.length : Int) < 0) from by omega, ↓reduceIte]
      refine Ev.bind (laws_toBloom_ev a b c l hl2) ?_
      refine Ev.bind (laws_toBloom_ev a' b' c' l' hl2') ?_
      refine Ev.bind hi ?_
      refine Ev.bind (laws_eqBloom_self x y z cs (by omega)) ?_
      simp only [↓reduceIte, bne_self_eq_false]
      refine Ev.succ ?_
      simp only [laws_FnExactUnionBloom.j2, Bool.false_eq_true, ↓reduceIte]
      refine Ev.bind (laws_heldBloom_ev x y z cs.length (by omega)) ?_
      simp only [show ¬ ((1 : Int) + (cs.length : Int) < 0) from by omega, ↓reduceIte]
      exact Ev.now _
    · simp only [e', ↓reduceIte, show ((-1 : Int) < 0) from by decide]
      exact Ev.now _
  · simp only [e, ↓reduceIte, show ((-1 : Int) < 0) from by decide]
    exact Ev.now _

end Go.Proofs.Ytgnpledbeohjgaa.Pure
