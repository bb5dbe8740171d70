/- The program's NewCuckoo returns what the reference's returns, for all arguments. -/
import Derived.Test.YtcccfjpiebihmaaPFnExactNewCuckoox3
import Derived.Test.YtcccfjpiebihmaaBase
namespace Go.Proofs.Ytcccfjpiebihmaa.Pure
open Go.RowKit Go.Proofs.Ytcccfjpiebihmaa.PFnExactNewCuckoo Go.Proofs.YtcccfjpiebihmaaW.PrintWords Go.Proofs.YtcccfjpiebihmaaW.PrintLast Go.Proofs.Ytcccfjpiebihmaa.Base
set_option linter.unusedVariables false
set_option linter.unusedSimpArgs false

theorem spec_l1In_eq (a b c : Int) : spec_l1In.f a b c = some (decide (b ≤ a ∧ a ≤ c)) := by
  unfold spec_l1In.f
  by_cases h : b ≤ a <;> simp [h]
theorem spec_cuSize_eq (a b : Int) : spec_cuSize.f a b = some (decide ((0 ≤ a ∧ a ≤ 9999) ∧ 1 ≤ b ∧ b ≤ 64)) := by
  by_cases h : 0 ≤ a ∧ a ≤ 9999 <;> simp [spec_cuSize.f, spec_l1In_eq, h]
theorem impl_in_eq (a b c : Int) : impl_in.f a b c = some (decide (b ≤ a ∧ a ≤ c)) := by
  unfold impl_in.f
  by_cases h : b ≤ a <;> simp [h]
theorem impl_isSeed_eq (a : Int) : impl_isSeed.f a = some (decide (0 ≤ a ∧ a ≤ 9999)) := by
  simp only [impl_isSeed.f, impl_in_eq, Option.bind_some]
theorem impl_cellsOk_eq (a : Int) : impl_cellsOk.f a = some (decide (1 ≤ a ∧ a ≤ 64)) := by
  simp only [impl_cellsOk.f, impl_in_eq, Option.bind_some]
theorem laws_eqStringS_self (l : List ByteArray) (hl : l.length ≤ 9223372036854775807) : Ev (fun k => laws_eqStringS.f k l l) true := by
  unfold laws_eqStringS.f
  simp only [↓reduceIte]
  refine Ev.up (L := fun k i => laws_eqStringS.l0 k l l (i : Int)) (r := fun _ => true) l.length ?_ ?_ 0 (Nat.zero_le _)
  · refine Ev.succ ?_
    have h1 : ¬ ((l.length : Int) < (l.length : Int)) := by omega
    simp only [laws_eqStringS.l0, h1, ↓reduceIte]
    exact Ev.now _
  · intro i hi ih
    refine Ev.succ ?_
    have h1 : (i : Int) < (l.length : Int) := by omega
    have h2 : (0 : Int) ≤ (i : Int) := by omega
    have hw : wrap64 ((i : Int) + 1) = ((i + 1 : Nat) : Int) := by rw [w64 (by omega) (by omega)]; rfl
    simp only [laws_eqStringS.l0, h1, h2, ↓reduceIte, hw]
    exact ih
theorem strOfNums_one (x : Int) : (strOfNums [x]).size = 1 := by
  simp [strOfNums, ByteArray.size]
theorem laws_markText_l0 (f : Nat) : ∀ (n : Int) (acc : ByteArray), 0 ≤ n → n < 2 ^ f → n ≤ 4611686018427387904 → acc.size + f ≤ 1000 → ∃ r, Ev (fun k => laws_markText.l0 k n acc) r := by
  induction f with
  | zero =>
    intro n acc h0 h1 hn hs
    refine ⟨(⟨#[109]⟩ : ByteArray) ++ acc, Ev.succ ?_⟩
    have c1 : ¬ (n > 0) := by simp at h1; omega
    have c2 : 1 + acc.size ≤ 9223372036854775807 := by omega
    simp only [laws_markText.l0, c1, c2, ↓reduceIte]
    exact Ev.now _
  | succ f ih =>
    intro n acc h0 h1 hn hs
    by_cases c1 : n > 0
    · have e2 : (2 : Int) ^ (f + 1) = 2 * 2 ^ f := by rw [Int.pow_succ, Int.mul_comm]
      have e : wrap64 (Int.tdiv n 10) = n / 10 := by rw [tdiv_pos h0, w64 (by omega) (by omega)]
      have e3 := strOfNums_one ((wrap64 (48 + (Int.tmod n 10))) % 256)
      obtain ⟨r, hr⟩ := ih (n / 10) (strOfNums [(wrap64 (48 + (Int.tmod n 10))) % 256] ++ acc) (by omega) (by omega) (by omega) (by rw [ByteArray.size_append, e3]; omega)
      refine ⟨r, Ev.succ ?_⟩
      have c3 : (strOfNums [(wrap64 (48 + (Int.tmod n 10))) % 256]).size + acc.size ≤ 9223372036854775807 := by rw [e3]; omega
      simp only [laws_markText.l0, c1, ↓reduceIte, Option.bind_some, c3, e]
      exact hr
    · refine ⟨(⟨#[109]⟩ : ByteArray) ++ acc, Ev.succ ?_⟩
      have c2 : 1 + acc.size ≤ 9223372036854775807 := by omega
      simp only [laws_markText.l0, c1, c2, ↓reduceIte]
      exact Ev.now _
theorem laws_markText_some (n : Int) (h0 : 0 ≤ n) (hn : n ≤ 4611686018427387904) : ∃ r, Ev (fun k => laws_markText.f k n) r := by
  unfold laws_markText.f
  by_cases c : n ≤ 0
  · simp only [c, ↓reduceIte]
    exact ⟨_, Ev.now _⟩
  · simp only [c, ↓reduceIte]
    exact laws_markText_l0 63 n ⟨#[]⟩ h0 (by omega) hn (by decide)
theorem laws_markText_fn : ∃ f : Int → ByteArray, ∀ n : Int, 0 ≤ n → n ≤ 4611686018427387904 → Ev (fun k => laws_markText.f k n) (f n) :=
  ⟨fun n => if h : 0 ≤ n ∧ n ≤ 4611686018427387904 then Classical.choose (laws_markText_some n h.1 h.2) else ⟨#[]⟩, fun n h0 hn => by
    have e : (if h : 0 ≤ n ∧ n ≤ 4611686018427387904 then Classical.choose (laws_markText_some n h.1 h.2) else (⟨#[]⟩ : ByteArray)) = Classical.choose (laws_markText_some n h0 hn) := dif_pos ⟨h0, hn⟩
    show Ev _ (if h : 0 ≤ n ∧ n ≤ 4611686018427387904 then Classical.choose (laws_markText_some n h.1 h.2) else (⟨#[]⟩ : ByteArray))
    rw [e]
    exact Classical.choose_spec (laws_markText_some n h0 hn)⟩
theorem laws_markStringS_l0 (f : Int → ByteArray) (hf : ∀ n : Int, 0 ≤ n → n ≤ 4611686018427387904 → Ev (fun k => laws_markText.f k n) (f n)) (m : Int) (n : Nat) (h0 : 0 ≤ m) (hm : m + n ≤ 4611686018427387904) (d : Nat) : ∀ (i : Nat) (l : List ByteArray), l.length = n → l.take i = marksOf f m i → i + d = n → Ev (fun k => laws_markStringS.l0 k l (m + i) (i : Int)) (m + n, marksOf f m n) := by
  induction d with
  | zero =>
    intro i l hl ht hi
    obtain rfl : i = n := by omega
    refine Ev.succ ?_
    have h1 : ¬ ((i : Int) < (l.length : Int)) := by omega
    simp only [laws_markStringS.l0, h1, ↓reduceIte]
    rw [List.take_of_length_le (by omega)] at ht
    exact Ev.some_ (by rw [ht])
  | succ d ih =>
    intro i l hl ht hi
    refine Ev.succ ?_
    have h1 : (i : Int) < (l.length : Int) := by omega
    have h2 : (0 : Int) ≤ (i : Int) := by omega
    have hw : wrap64 ((i : Int) + 1) = ((i + 1 : Nat) : Int) := by rw [w64 (by omega) (by omega)]; rfl
    have hw2 : wrap64 (m + (i : Int) + 1) = m + ((i + 1 : Nat) : Int) := by rw [w64 (by omega) (by omega)]; omega
    simp only [laws_markStringS.l0, h1, h2, ↓reduceIte, hw, hw2, Int.toNat_natCast]
    refine Ev.bind (hf (m + i) (by omega) (by omega)) ?_
    exact ih (i + 1) (l.set i (f (m + i))) (by simp [hl]) (by rw [take_set_succ _ _ _ (by omega), ht, marksOf_succ]) (by omega)
theorem laws_markStringS_ev (f : Int → ByteArray) (hf : ∀ n : Int, 0 ≤ n → n ≤ 4611686018427387904 → Ev (fun k => laws_markText.f k n) (f n)) (l : List ByteArray) (m : Int) (h0 : 0 ≤ m) (hm : m + l.length ≤ 4611686018427387904) : Ev (fun k => laws_markStringS.f k l m) (m + l.length, marksOf f m l.length) := by
  have h := laws_markStringS_l0 f hf m l.length h0 hm l.length 0 l rfl (by simp [marksOf]) (by omega)
  simpa [laws_markStringS.f] using h
theorem laws_heldStringS_ev (f : Int → ByteArray) (hf : ∀ n : Int, 0 ≤ n → n ≤ 4611686018427387904 → Ev (fun k => laws_markText.f k n) (f n)) (m : Int) (n : Nat) (h0 : 0 ≤ m) (hm : m + n ≤ 4611686018427387904) : Ev (fun k => laws_heldStringS.f k (marksOf f m n) m) (m + n) := by
  have h := Ev.up (L := fun k i => laws_heldStringS.l0 k (marksOf f m n) (m + (i : Int)) (i : Int)) (r := fun _ => m + n) n ?_ ?_ 0 (Nat.zero_le _)
  · simpa [laws_heldStringS.f] using h
  · refine Ev.succ ?_
    have h1 : ¬ ((n : Int) < ((marksOf f m n).length : Int)) := by rw [marksOf_length]; omega
    simp only [laws_heldStringS.l0, h1, ↓reduceIte]
    exact Ev.now _
  · intro i hi ih
    refine Ev.succ ?_
    have h1 : (i : Int) < ((marksOf f m n).length : Int) := by rw [marksOf_length]; omega
    have h2 : (0 : Int) ≤ (i : Int) := by omega
    have h3 : rdOf ByteArray.empty (marksOf f m n) (i : Int) = f (m + i) := by rw [rdOf_nat _ _ _ (by rw [marksOf_length]; exact hi)]; simp [marksOf]
    have hw : wrap64 ((i : Int) + 1) = ((i + 1 : Nat) : Int) := by rw [w64 (by omega) (by omega)]; rfl
    have hw2 : wrap64 (m + (i : Int) + 1) = m + ((i + 1 : Nat) : Int) := by rw [w64 (by omega) (by omega)]; omega
    simp only [laws_heldStringS.l0, h1, h2, h3, ↓reduceIte, hw, hw2]
    refine Ev.bind (hf (m + i) (by omega) (by omega)) ?_
    simp only [↓reduceIte]
    exact ih

def valueOf (a c : Int) : Int × List ByteArray × List ByteArray × Bool := if (0 ≤ a ∧ a ≤ 9999) ∧ 1 ≤ c ∧ c ≤ 64 then (a, List.replicate c.toNat (⟨#[]⟩ : ByteArray), [], true) else (0, [], [], false)
theorem spec_NewCuckoo_eq (a c : Int) : spec_NewCuckoo.f a c = some (valueOf a c) := by
  unfold valueOf
  by_cases h : (0 ≤ a ∧ a ≤ 9999) ∧ 1 ≤ c ∧ c ≤ 64
  · simp only [spec_NewCuckoo.f, spec_cuSize_eq, h, and_self, decide_true, Option.bind_some, ↓reduceIte, show 0 ≤ c from by omega, show c.toNat ≤ 17592186044416 from by omega]
  · simp only [spec_NewCuckoo.f, spec_cuSize_eq, h, decide_false, Option.bind_some, ↓reduceIte, Bool.false_eq_true]
theorem impl_NewCuckoo_eq (a c : Int) : impl_NewCuckoo.f a c = some (valueOf a c) := by
  unfold valueOf
  by_cases h1 : 0 ≤ a ∧ a ≤ 9999
  · by_cases h2 : 1 ≤ c ∧ c ≤ 64
    · simp only [impl_NewCuckoo.f, impl_isSeed_eq, impl_cellsOk_eq, h1, h2, and_self, decide_true, Option.bind_some, ↓reduceIte, show 0 ≤ c from by omega, show c.toNat ≤ 17592186044416 from by omega]
    · simp only [impl_NewCuckoo.f, impl_isSeed_eq, impl_cellsOk_eq, h1, h2, and_self, decide_true, decide_false, Option.bind_some, ↓reduceIte, Bool.false_eq_true, and_false]
  · simp only [impl_NewCuckoo.f, impl_isSeed_eq, h1, decide_false, Option.bind_some, ↓reduceIte, Bool.false_eq_true, false_and]
theorem valueOf_length (a c : Int) : (valueOf a c).2.1.length ≤ 64 ∧ (valueOf a c).2.2.1.length ≤ 64 := by
  unfold valueOf
  split
  · rename_i h
    simp
    omega
  · simp
theorem laws_eqCuckoo_self (a : Int) (l m : List ByteArray) (hl : l.length ≤ 9223372036854775807) (hm : m.length ≤ 9223372036854775807) : Ev (fun k => laws_eqCuckoo.f k a l m a l m) true := by
  simp only [laws_eqCuckoo.f, ↓reduceIte]
  refine Ev.bind (laws_eqStringS_self l hl) ?_
  simp only [↓reduceIte]
  refine Ev.bind (laws_eqStringS_self m hm) ?_
  simp only [↓reduceIte]
  exact Ev.now _
theorem laws_markCuckoo_ev (f : Int → ByteArray) (hf : ∀ n : Int, 0 ≤ n → n ≤ 4611686018427387904 → Ev (fun k => laws_markText.f k n) (f n)) (a : Int) (l m : List ByteArray) (hl : l.length ≤ 1048576) (hm : m.length ≤ 1048576) : Ev (fun k => laws_markCuckoo.f k a l m 1) (1 + l.length + m.length, marksOf f 1 l.length, marksOf f (1 + l.length) m.length) := by
  unfold laws_markCuckoo.f
  refine Ev.bind (laws_markStringS_ev f hf l 1 (by decide) (by omega)) ?_
  exact Ev.bind (laws_markStringS_ev f hf m (1 + l.length) (by omega) (by omega)) (Ev.now _)
theorem laws_heldCuckoo_ev (f : Int → ByteArray) (hf : ∀ n : Int, 0 ≤ n → n ≤ 4611686018427387904 → Ev (fun k => laws_markText.f k n) (f n)) (a : Int) (n m : Nat) (hn : n ≤ 1048576) (hm : m ≤ 1048576) : Ev (fun k => laws_heldCuckoo.f k a (marksOf f 1 n) (marksOf f (1 + n) m) 1) (1 + n + m) := by
  unfold laws_heldCuckoo.f
  refine Ev.bind (laws_heldStringS_ev f hf 1 n (by decide) (by omega)) ?_
  simp only [show ¬ ((1 : Int) + (n : Int) < 0) from by omega, ↓reduceIte]
  refine Ev.bind (laws_heldStringS_ev f hf (1 + n) m (by omega) (by omega)) ?_
  simp only [show ¬ ((1 : Int) + (n : Int) + (m : Int) < 0) from by omega, ↓reduceIte]
  exact Ev.now _
theorem FnExactNewCuckoo : laws_FnExactNewCuckoo.Pure := by
  intro a c h0 h1
  refine Ev.rounds ?_
  obtain ⟨f, hf⟩ := laws_markText_fn
  have hl := valueOf_length a c
  simp only [laws_FnExactNewCuckoo.f, spec_NewCuckoo_eq, impl_NewCuckoo_eq, Option.bind_some]
  have hi := impl_NewCuckoo_eq a c
  generalize valueOf a c = v at *
  obtain ⟨s, l, m, o⟩ := v
  simp only at hl
  refine Ev.bind (laws_eqCuckoo_self s l m (by omega) (by omega)) ?_
  simp only [↓reduceIte, bne_self_eq_false]
  refine Ev.succ ?_
  simp only [laws_FnExactNewCuckoo.j0, Bool.false_eq_true, ↓reduceIte, hi, Option.bind_some]
  refine Ev.bind (laws_markCuckoo_ev f hf s l m (by omega) (by omega)) ?_
  refine Ev.bind (laws_heldCuckoo_ev f hf s l.length m.length (by omega) (by omega)) ?_
  simp only [show ¬ ((1 : Int) + (l.length : Int) + (m.length : Int) < 0) from by omega, ↓reduceIte]
  refine Ev.bind (laws_eqCuckoo_self s l m (by omega) (by omega)) ?_
  simp only [↓reduceIte, bne_self_eq_false]
  refine Ev.succ ?_
  simp only [laws_FnExactNewCuckoo.j1, Bool.false_eq_true, ↓reduceIte]
  refine Ev.bind (laws_heldCuckoo_ev f hf s l.length m.length (by omega) (by omega)) ?_
  simp only [show ¬ ((1 : Int) + (l.length : Int) + (m.length : Int) < 0) from by omega, ↓reduceIte]
  exact Ev.now _

end Go.Proofs.Ytcccfjpiebihmaa.Pure
