/- The program's NewBloom returns what the reference's returns, for all arguments. -/
import Derived.Test.YtcccfjpiebihmaaPFnExactNewBloomx2
import Derived.Test.YtcccfjpiebihmaaBase
namespace Go.Proofs.Ytcccfjpiebihmaa.Pure
open Go.RowKit Go.Proofs.Ytcccfjpiebihmaa.PFnExactNewBloom Go.Proofs.YtcccfjpiebihmaaW.PrintWords Go.Proofs.YtcccfjpiebihmaaW.PrintLast Go.Proofs.Ytcccfjpiebihmaa.Base
set_option linter.unusedVariables false
set_option linter.unusedSimpArgs false

theorem laws_eqIntS_self (l : List Int) (hl : l.length ≤ 9223372036854775807) : Ev (fun k => laws_eqIntS.f k l l) true := by
  unfold laws_eqIntS.f
  simp only [↓reduceIte]
  refine Ev.up (L := fun k i => laws_eqIntS.l0 k l l (i : Int)) (r := fun _ => true) l.length ?_ ?_ 0 (Nat.zero_le _)
  · refine Ev.succ ?_
    have h1 : ¬ ((l.length : Int) < (l.length : Int)) := by omega
    simp only [laws_eqIntS.l0, h1, ↓reduceIte]
    exact Ev.now _
  · intro i hi ih
    refine Ev.succ ?_
    have h1 : (i : Int) < (l.length : Int) := by omega
    have h2 : (0 : Int) ≤ (i : Int) := by omega
    have hw : wrap64 ((i : Int) + 1) = ((i + 1 : Nat) : Int) := by rw [w64 (by omega) (by omega)]; rfl
    simp only [laws_eqIntS.l0, h1, h2, ↓reduceIte, hw]
    exact ih
theorem laws_eqBloom_self (a b n : Int) (l : List Int) (hl : l.length ≤ 9223372036854775807) : Ev (fun k => laws_eqBloom.f k a b n l a b n l) true := by
  simp only [laws_eqBloom.f, laws_eqBits.f, ↓reduceIte]
  refine Ev.bind (a := true) ?_ (by simp only [↓reduceIte]; exact Ev.now _)
  exact Ev.bind (laws_eqIntS_self l hl) (by simp only [↓reduceIte]; exact Ev.now _)
theorem laws_markIntS_l0 (m : Int) (n : Nat) (h0 : 0 ≤ m) (hm : m + n ≤ 4611686018427387904) (d : Nat) : ∀ (i : Nat) (l : List Int), l.length = n → l.take i = marks m i → i + d = n → Ev (fun k => laws_markIntS.l0 k l (m + i) (i : Int)) (m + n, marks m n) := by
  induction d with
  | zero =>
    intro i l hl ht hi
    obtain rfl : i = n := by omega
    refine Ev.succ ?_
    have h1 : ¬ ((i : Int) < (l.length : Int)) := by omega
    simp only [laws_markIntS.l0, h1, ↓reduceIte]
    rw [List.take_of_length_le (by omega)] at ht
    exact Ev.some_ (by rw [ht])
  | succ d ih =>
    intro i l hl ht hi
    refine Ev.succ ?_
    have h1 : (i : Int) < (l.length : Int) := by omega
    have h2 : (0 : Int) ≤ (i : Int) := by omega
    have hw : wrap64 ((i : Int) + 1) = ((i + 1 : Nat) : Int) := by rw [w64 (by omega) (by omega)]; rfl
    have hw2 : wrap64 (m + (i : Int) + 1) = m + ((i + 1 : Nat) : Int) := by rw [w64 (by omega) (by omega)]; omega
    simp only [laws_markIntS.l0, h1, h2, ↓reduceIte, hw, hw2, Int.toNat_natCast]
    exact ih (i + 1) (l.set i (m + i)) (by simp [hl]) (by rw [take_set_succ _ _ _ (by omega), ht, marks_succ]) (by omega)
theorem laws_markIntS_ev (l : List Int) (m : Int) (h0 : 0 ≤ m) (hm : m + l.length ≤ 4611686018427387904) : Ev (fun k => laws_markIntS.f k l m) (m + l.length, marks m l.length) := by
  have h := laws_markIntS_l0 m l.length h0 hm l.length 0 l rfl (by simp [marks]) (by omega)
  simpa [laws_markIntS.f] using h
theorem laws_heldIntS_ev (m : Int) (n : Nat) (h0 : 0 ≤ m) (hm : m + n ≤ 4611686018427387904) : Ev (fun k => laws_heldIntS.f k (marks m n) m) (m + n) := by
  have h := Ev.up (L := fun k i => laws_heldIntS.l0 k (marks m n) (m + (i : Int)) (i : Int)) (r := fun _ => m + n) n ?_ ?_ 0 (Nat.zero_le _)
  · simpa [laws_heldIntS.f] using h
  · refine Ev.succ ?_
    have h1 : ¬ ((n : Int) < ((marks m n).length : Int)) := by rw [marks_length]; omega
    simp only [laws_heldIntS.l0, h1, ↓reduceIte]
    exact Ev.now _
  · intro i hi ih
    refine Ev.succ ?_
    have h1 : (i : Int) < ((marks m n).length : Int) := by rw [marks_length]; omega
    have h2 : (0 : Int) ≤ (i : Int) := by omega
    have h3 : rd (marks m n) (i : Int) = m + i := by rw [rd_nat _ _ (by rw [marks_length]; exact hi)]; simp [marks]
    have hw : wrap64 ((i : Int) + 1) = ((i + 1 : Nat) : Int) := by rw [w64 (by omega) (by omega)]; rfl
    have hw2 : wrap64 (m + (i : Int) + 1) = m + ((i + 1 : Nat) : Int) := by rw [w64 (by omega) (by omega)]; omega
    simp only [laws_heldIntS.l0, h1, h2, h3, ↓reduceIte, hw, hw2]
    exact ih
theorem laws_markBloom_ev (a b n : Int) (l : List Int) (hl : l.length ≤ 1048576) : Ev (fun k => laws_markBloom.f k a b n l 1) (1 + l.length, marks 1 l.length) := by
  unfold laws_markBloom.f laws_markBits.f
  refine Ev.bind (a := (1 + (l.length : Int), marks 1 l.length)) ?_ (Ev.now _)
  exact Ev.bind (laws_markIntS_ev l 1 (by decide) (by omega)) (Ev.now _)
theorem laws_heldBloom_ev (a b n : Int) (m : Nat) (hm : m ≤ 1048576) : Ev (fun k => laws_heldBloom.f k a b n (marks 1 m) 1) (1 + m) := by
  have c : ¬ ((1 : Int) + (m : Int) < 0) := by omega
  unfold laws_heldBloom.f laws_heldBits.f
  refine Ev.bind (a := (1 + (m : Int))) ?_ (by simp only [c, ↓reduceIte]; exact Ev.now _)
  exact Ev.bind (laws_heldIntS_ev 1 m (by decide) (by omega)) (by simp only [c, ↓reduceIte]; exact Ev.now _)
theorem spec_biNew_eq (n : Int) (h0 : 0 ≤ n) (h1 : n ≤ 1000000) : spec_biNew.f n = some (n, List.replicate ((n + 15) / 16).toNat 0) := by
  unfold spec_biNew.f
  rw [w64 (n := n + 15) (by omega) (by omega), tdiv_pos (by omega), w64 (by omega) (by omega), if_pos (by omega), if_pos (by omega)]
theorem impl_words_eq (n : Int) (h0 : 0 ≤ n) (h1 : n ≤ 1000000) : impl_words.f n = some ((n + 15) / 16) := by
  unfold impl_words.f
  rw [w64 (n := n + 16) (by omega) (by omega), w64 (n := n + 16 - 1) (by omega) (by omega), tdiv_pos (by omega), w64 (by omega) (by omega), show n + 16 - 1 = n + 15 from by omega]
theorem impl_blank_eq (n : Int) (h0 : 0 ≤ n) (h1 : n ≤ 1000000) : impl_blank.f n = some (n, List.replicate ((n + 15) / 16).toNat 0) := by
  unfold impl_blank.f
  rw [impl_words_eq n h0 h1]
  simp only [Option.bind_some]
  rw [if_pos (by omega), if_pos (by omega)]
theorem spec_l1In_eq (a b c : Int) : spec_l1In.f a b c = some (decide (b ≤ a ∧ a ≤ c)) := by
  unfold spec_l1In.f
  by_cases h : b ≤ a <;> simp [h]
theorem spec_fiSize_eq (a b c : Int) : spec_fiSize.f a b c = some (decide ((0 ≤ a ∧ a ≤ 9999) ∧ (1 ≤ b ∧ b ≤ 8) ∧ 1 ≤ c ∧ c ≤ 512)) := by
  by_cases h : 0 ≤ a ∧ a ≤ 9999 <;> by_cases h2 : 1 ≤ b ∧ b ≤ 8 <;> simp [spec_fiSize.f, spec_l1In_eq, h, h2]
theorem impl_in_eq (a b c : Int) : impl_in.f a b c = some (decide (b ≤ a ∧ a ≤ c)) := by
  unfold impl_in.f
  by_cases h : b ≤ a <;> simp [h]
theorem impl_isSeed_eq (a : Int) : impl_isSeed.f a = some (decide (0 ≤ a ∧ a ≤ 9999)) := by
  simp only [impl_isSeed.f, impl_in_eq, Option.bind_some]
theorem impl_sizesOk_eq (a b c : Int) : impl_sizesOk.f a b c = some (decide ((0 ≤ a ∧ a ≤ 9999) ∧ (1 ≤ b ∧ b ≤ 8) ∧ 1 ≤ c ∧ c ≤ 512)) := by
  by_cases h : 0 ≤ a ∧ a ≤ 9999 <;> by_cases h2 : 1 ≤ b ∧ b ≤ 8 <;> simp [impl_sizesOk.f, impl_isSeed_eq, impl_in_eq, h, h2]

def valueOf (a b n : Int) : Int × Int × Int × List Int × Bool := if (0 ≤ a ∧ a ≤ 9999) ∧ (1 ≤ b ∧ b ≤ 8) ∧ 1 ≤ n ∧ n ≤ 512 then (a, b, n, List.replicate ((n + 15) / 16).toNat 0, true) else (0, 0, 0, [], false)
theorem valueOf_length (a b n : Int) : (valueOf a b n).2.2.2.1.length ≤ 64 := by
  unfold valueOf
  split
  · simp
    omega
  · simp
theorem spec_NewBloom_eq (a b n : Int) : spec_NewBloom.f a b n = some (valueOf a b n) := by
  unfold valueOf
  by_cases h : (0 ≤ a ∧ a ≤ 9999) ∧ (1 ≤ b ∧ b ≤ 8) ∧ 1 ≤ n ∧ n ≤ 512
  · simp only [spec_NewBloom.f, spec_fiNew.f, spec_fiSize_eq, h, and_self, decide_true, Option.bind_some, ↓reduceIte, spec_biNew_eq n (by omega) (by omega)]
  · simp only [spec_NewBloom.f, spec_fiSize_eq, h, decide_false, Option.bind_some, ↓reduceIte, Bool.false_eq_true]
theorem impl_NewBloom_eq (a b n : Int) : impl_NewBloom.f a b n = some (valueOf a b n) := by
  unfold valueOf
  by_cases h : (0 ≤ a ∧ a ≤ 9999) ∧ (1 ≤ b ∧ b ≤ 8) ∧ 1 ≤ n ∧ n ≤ 512
  · simp only [impl_NewBloom.f, impl_sizesOk_eq, h, and_self, decide_true, Option.bind_some, ↓reduceIte, impl_blank_eq n (by omega) (by omega)]
  · simp only [impl_NewBloom.f, impl_sizesOk_eq, h, decide_false, Option.bind_some, ↓reduceIte, Bool.false_eq_true]
theorem FnExactNewBloom : laws_FnExactNewBloom.Pure := by
  intro a b n h0 h1 h2
  refine Ev.rounds ?_
  have hl := valueOf_length a b n
  simp only [laws_FnExactNewBloom.f, spec_NewBloom_eq, impl_NewBloom_eq, Option.bind_some]
  have hi := impl_NewBloom_eq a b n
  generalize valueOf a b n = v at *
  obtain ⟨s, p, z, l, o⟩ := v
  simp only at hl
  refine Ev.bind (laws_eqBloom_self s p z l (by omega)) ?_
  simp only [↓reduceIte, bne_self_eq_false]
  refine Ev.succ ?_
  simp only [laws_FnExactNewBloom.j0, Bool.false_eq_true, ↓reduceIte, hi, Option.bind_some]
  refine Ev.bind (laws_markBloom_ev s p z l (by omega)) ?_
  refine Ev.bind (laws_heldBloom_ev s p z l.length (by omega)) ?_
  simp only [show ¬ ((1 : Int) + (l.length : Int) < 0) from by omega, ↓reduceIte]
  refine Ev.bind (laws_eqBloom_self s p z l (by omega)) ?_
  simp only [↓reduceIte, bne_self_eq_false]
  refine Ev.succ ?_
  simp only [laws_FnExactNewBloom.j1, Bool.false_eq_true, ↓reduceIte]
  refine Ev.bind (laws_heldBloom_ev s p z l.length (by omega)) ?_
  simp only [show ¬ ((1 : Int) + (l.length : Int) < 0) from by omega, ↓reduceIte]
  exact Ev.now _

end Go.Proofs.Ytcccfjpiebihmaa.Pure
