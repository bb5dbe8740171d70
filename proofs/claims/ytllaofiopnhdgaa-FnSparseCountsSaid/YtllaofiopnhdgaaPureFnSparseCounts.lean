/- Numbers below another one, at most it and at least it are told by each other. -/
import Derived.Test.YtllaofiopnhdgaaPFnSparseCountsx16
import Derived.Test.YtllaofiopnhdgaaTBase
namespace Go.Proofs.Ytllaofiopnhdgaa.Pure
open Go.RowKit Go.Proofs.Ytllaofiopnhdgaa.PFnSparseCounts Go.Proofs.YtllaofiopnhdgaaW.PrintWords Go.Proofs.YtllaofiopnhdgaaW.PrintLast Go.Proofs.Ytllaofiopnhdgaa.Base Go.Proofs.Ytllaofiopnhdgaa.Base
set_option linter.unusedVariables false
set_option linter.unusedSimpArgs false

theorem spec_l1In_eq (a b c : Int) : spec_l1In.f a b c = some (decide (b ≤ a ∧ a ≤ c)) := by
  unfold spec_l1In.f
  by_cases h : b ≤ a <;> simp [h]
theorem impl_in_eq (a b c : Int) : impl_in.f a b c = some (decide (b ≤ a ∧ a ≤ c)) := by
  unfold impl_in.f
  by_cases h : b ≤ a <;> simp [h]
/-! ### shifts of small numbers -/
theorem shl_nat (a w : Nat) (ha : a ≤ 100000) (hw : w ≤ 30) : shl .i64 (a : Int) (w : Int) = ((a * 2 ^ w : Nat) : Int) := by
  have h1 : 2 ^ w ≤ 2 ^ 30 := Nat.pow_le_pow_right (by decide) hw
  have h2 : a * 2 ^ w ≤ 100000 * 2 ^ 30 := Nat.mul_le_mul ha h1
  have e30 : (2 : Nat) ^ 30 = 1073741824 := by decide
  unfold shl
  rw [show min ((w : Int).toNat) (IntKind.bits .i64) = w from by simp [IntKind.bits]; omega, IntKind.wrap_i64]
  have e : (a : Int) * 2 ^ w = ((a * 2 ^ w : Nat) : Int) := by simp
  rw [e]
  generalize a * 2 ^ w = t at *
  omega
theorem shr_nat (a w : Nat) (hw : w ≤ 60) : shr .i64 (a : Int) (w : Int) = ((a / 2 ^ w : Nat) : Int) := by
  unfold shr
  rw [show min ((w : Int).toNat) (IntKind.bits .i64) = w from by simp [IntKind.bits]; omega]
  simp
/-! ### the width -/
def m1 (c : Nat) : Nat := if c > 1 then c else 1
theorem m1_range {c : Nat} (h : c ≤ 60) : 1 ≤ m1 c ∧ m1 c ≤ 60 := by unfold m1; split <;> omega
def widthFrom (c l : Nat) : Nat → Nat → Nat
  | 0, w => w
  | d + 1, w => if m1 c * 2 ^ (w + 1) ≤ l then widthFrom c l d (w + 1) else w
def widthV (c l : Nat) : Nat := widthFrom c l 17 0
theorem width_top {c l : Nat} (hc : c ≤ 60) (hl : l ≤ 100000) : l < m1 c * 2 ^ 18 := by
  have h := m1_range hc
  have h2 : 1 * 2 ^ 18 ≤ m1 c * 2 ^ 18 := Nat.mul_le_mul_right _ h.1
  have e : (2 : Nat) ^ 18 = 262144 := by decide
  omega
theorem widthFrom_spec {c l : Nat} (hc : c ≤ 60) (hl : l ≤ 100000) (d : Nat) : ∀ w, w + d = 17 → widthFrom c l d w ≤ 17 ∧ l < m1 c * 2 ^ (widthFrom c l d w + 1) := by
  induction d with
  | zero =>
    intro w hw
    obtain rfl : w = 17 := by omega
    exact ⟨Nat.le_refl _, width_top hc hl⟩
  | succ d ih =>
    intro w hw
    unfold widthFrom
    by_cases g : m1 c * 2 ^ (w + 1) ≤ l
    · rw [if_pos g]
      exact ih (w + 1) (by omega)
    · rw [if_neg g]
      exact ⟨by omega, by omega⟩
theorem widthV_spec {c l : Nat} (hc : c ≤ 60) (hl : l ≤ 100000) : widthV c l ≤ 17 ∧ l < m1 c * 2 ^ (widthV c l + 1) := widthFrom_spec hc hl 17 0 rfl
theorem width_div {c l : Nat} (hc : c ≤ 60) (hl : l ≤ 100000) : (l - 1) / 2 ^ widthV c l ≤ 120 := by
  have h := (widthV_spec hc hl).2
  have hm := m1_range hc
  rw [Nat.pow_succ] at h
  have hp := Nat.two_pow_pos (widthV c l)
  have h3 : (l - 1) / 2 ^ widthV c l < 120 + 1 := by
    rw [Nat.div_lt_iff_lt_mul hp]
    have h4 : m1 c * (2 ^ widthV c l * 2) ≤ 60 * (2 ^ widthV c l * 2) := Nat.mul_le_mul_right _ hm.2
    generalize 2 ^ widthV c l = t at *
    omega
  omega
theorem spec_l1Most_m1 (c : Nat) : spec_l1Most.f (c : Int) 1 = some ((m1 c : Nat) : Int) := by
  unfold spec_l1Most.f m1
  by_cases h : c > 1
  · rw [if_pos (by omega), if_pos h]
  · rw [if_neg (by omega), if_neg h]; rfl
theorem mx_m1 (c : Nat) : mx (c : Int) 1 = ((m1 c : Nat) : Int) := by
  unfold mx m1
  by_cases h : c > 1
  · rw [if_neg (by omega), if_pos h]
  · rw [if_neg h]
    by_cases h2 : (c : Int) < 1
    · rw [if_pos h2]; rfl
    · rw [if_neg h2]; omega
theorem spec_spWidth_l0 {c l : Nat} (hc : c ≤ 60) (hl : l ≤ 100000) (d : Nat) : ∀ w, w + d = 17 → Ev (fun k => spec_spWidth.l0 k (c : Int) (l : Int) (w : Int)) ((widthFrom c l d w : Nat) : Int) := by
  have hm := m1_range hc
  induction d with
  | zero =>
    intro w hw
    obtain rfl : w = 17 := by omega
    have hww : wrap64 (((17 : Nat) : Int) + 1) = ((18 : Nat) : Int) := by rw [w64 (by omega) (by omega)]; rfl
    have hs := shl_nat (m1 c) 18 (by omega) (by decide)
    have ht := width_top hc hl
    have g : ¬ (((m1 c * 2 ^ 18 : Nat) : Int) ≤ (l : Int)) := by omega
    refine Ev.succ ?_
    simp only [spec_spWidth.l0, spec_l1Most_m1, Option.bind_some, hww, hs, g, ↓reduceIte, show (0 : Int) ≤ ((18 : Nat) : Int) from by decide]
    exact Ev.now _
  | succ d ih =>
    intro w hw
    have hww : wrap64 ((w : Int) + 1) = ((w + 1 : Nat) : Int) := by rw [w64 (by omega) (by omega)]; rfl
    have hs := shl_nat (m1 c) (w + 1) (by omega) (by omega)
    have h0 : (0 : Int) ≤ ((w + 1 : Nat) : Int) := by omega
    refine Ev.succ ?_
    unfold widthFrom
    by_cases g : m1 c * 2 ^ (w + 1) ≤ l
    · have g' : ((m1 c * 2 ^ (w + 1) : Nat) : Int) ≤ (l : Int) := Int.ofNat_le.2 g
      simp only [spec_spWidth.l0, spec_l1Most_m1, Option.bind_some, hww, hs, g', ↓reduceIte, h0]
      rw [if_pos g]
      exact ih (w + 1) (by omega)
    · have g' : ¬ (((m1 c * 2 ^ (w + 1) : Nat) : Int) ≤ (l : Int)) := fun h => g (Int.ofNat_le.1 h)
      simp only [spec_spWidth.l0, spec_l1Most_m1, Option.bind_some, hww, hs, g', ↓reduceIte, h0]
      rw [if_neg g]
      exact Ev.now _
theorem spec_spWidth_ev {c l : Nat} (hc : c ≤ 60) (hl : l ≤ 100000) : Ev (fun k => spec_spWidth.f k (c : Int) (l : Int)) ((widthV c l : Nat) : Int) := spec_spWidth_l0 hc hl 17 0 rfl
theorem impl_WidthFor_l0 {c l : Nat} (hc : c ≤ 60) (hl : l ≤ 100000) (d : Nat) : ∀ w, w + d = 17 → Ev (fun k => impl_WidthFor.l0 k (c : Int) (l : Int) (w : Int)) (((widthFrom c l d w : Nat) : Int), true) := by
  have hm := m1_range hc
  induction d with
  | zero =>
    intro w hw
    obtain rfl : w = 17 := by omega
    have hww : wrap64 (((17 : Nat) : Int) + 1) = ((18 : Nat) : Int) := by rw [w64 (by omega) (by omega)]; rfl
    have hs := shl_nat (m1 c) 18 (by omega) (by decide)
    have ht := width_top hc hl
    have g : ¬ (((m1 c * 2 ^ 18 : Nat) : Int) ≤ (l : Int)) := by omega
    refine Ev.succ ?_
    simp only [impl_WidthFor.l0, mx_m1, hww, hs, g, ↓reduceIte, show (0 : Int) ≤ ((18 : Nat) : Int) from by decide]
    exact Ev.now _
  | succ d ih =>
    intro w hw
    have hww : wrap64 ((w : Int) + 1) = ((w + 1 : Nat) : Int) := by rw [w64 (by omega) (by omega)]; rfl
    have hs := shl_nat (m1 c) (w + 1) (by omega) (by omega)
    have h0 : (0 : Int) ≤ ((w + 1 : Nat) : Int) := by omega
    refine Ev.succ ?_
    unfold widthFrom
    by_cases g : m1 c * 2 ^ (w + 1) ≤ l
    · have g' : ((m1 c * 2 ^ (w + 1) : Nat) : Int) ≤ (l : Int) := Int.ofNat_le.2 g
      simp only [impl_WidthFor.l0, mx_m1, hww, hs, g', ↓reduceIte, h0]
      rw [if_pos g]
      exact ih (w + 1) (by omega)
    · have g' : ¬ (((m1 c * 2 ^ (w + 1) : Nat) : Int) ≤ (l : Int)) := fun h => g (Int.ofNat_le.1 h)
      simp only [impl_WidthFor.l0, mx_m1, hww, hs, g', ↓reduceIte, h0]
      rw [if_neg g]
      exact Ev.now _
theorem impl_limitOk_eq (a : Int) : impl_limitOk.f a = some (decide (1 ≤ a ∧ a ≤ 100000)) := by
  unfold impl_limitOk.f
  rw [impl_in_eq]
  rfl
theorem spec_spLimit_eq (a : Int) : spec_spLimit.f a = some (decide (1 ≤ a ∧ a ≤ 100000)) := by
  unfold spec_spLimit.f
  rw [spec_l1In_eq]
  rfl
theorem impl_WidthFor_ev {c l : Nat} (hc : c ≤ 60) (hl0 : 1 ≤ l) (hl : l ≤ 100000) : Ev (fun k => impl_WidthFor.f k (c : Int) (l : Int)) (((widthV c l : Nat) : Int), true) := by
  unfold impl_WidthFor.f
  have g1 : (0 : Int) ≤ (c : Int) ∧ (c : Int) ≤ 60 := by omega
  have g2 : (1 : Int) ≤ (l : Int) ∧ (l : Int) ≤ 100000 := by omega
  simp only [impl_in_eq, impl_limitOk_eq, g1, g2, and_self, decide_true, Option.bind_some, ↓reduceIte, Bool.not_true]
  refine Ev.succ ?_
  simp only [impl_WidthFor.j0, Bool.false_eq_true, ↓reduceIte]
  exact impl_WidthFor_l0 hc hl 17 0 rfl
theorem impl_WidthFor_bad {c l : Int} (h : ¬ ((0 ≤ c ∧ c ≤ 60) ∧ (1 ≤ l ∧ l ≤ 100000))) : Ev (fun k => impl_WidthFor.f k c l) ((0 : Int), false) := by
  unfold impl_WidthFor.f
  by_cases g1 : 0 ≤ c ∧ c ≤ 60
  · have g2 : ¬ (1 ≤ l ∧ l ≤ 100000) := fun g => h ⟨g1, g⟩
    simp only [impl_in_eq, impl_limitOk_eq, g1, g2, and_self, decide_true, decide_false, Option.bind_some, ↓reduceIte, Bool.not_false]
    refine Ev.succ ?_
    simp only [impl_WidthFor.j0, ↓reduceIte]
    exact Ev.now _
  · simp only [impl_in_eq, g1, decide_false, Option.bind_some, Bool.false_eq_true, ↓reduceIte]
    refine Ev.succ ?_
    simp only [impl_WidthFor.j0, ↓reduceIte]
    exact Ev.now _
/-! ### sorted numbers -/
def okAt (l : List Int) (m : Int) (i : Nat) : Bool := inB 0 (m - 1) (rd l (i : Int)) && (decide (i = 0) || decide (rd l ((i - 1 : Nat) : Int) ≤ rd l (i : Int)))
def sortedFrom (l : List Int) (m : Int) (i : Nat) : Bool := (List.range' i (l.length - i)).all (okAt l m) && (decide (l.length ≤ 60) && decide (1 ≤ m ∧ m ≤ 100000))
def sortedV (l : List Int) (m : Int) : Bool := sortedFrom l m 0
theorem sortedFrom_end (l : List Int) (m : Int) : sortedFrom l m l.length = (decide (l.length ≤ 60) && decide (1 ≤ m ∧ m ≤ 100000)) := by simp [sortedFrom]
theorem sortedFrom_step (l : List Int) (m : Int) (i : Nat) (h : i < l.length) : sortedFrom l m i = (okAt l m i && sortedFrom l m (i + 1)) := by
  unfold sortedFrom
  rw [show l.length - i = (l.length - (i + 1)) + 1 from by omega, List.range'_succ, List.all_cons, Bool.and_assoc]
theorem sortedV_of {l : List Int} {m : Int} (h : sortedV l m = true) : l.length ≤ 60 ∧ (1 ≤ m ∧ m ≤ 100000) ∧ ∀ i : Nat, i < l.length → (0 ≤ rd l (i : Int) ∧ rd l (i : Int) ≤ m - 1) ∧ (0 < i → rd l ((i - 1 : Nat) : Int) ≤ rd l (i : Int)) := by
  unfold sortedV sortedFrom at h
  simp only [Bool.and_eq_true, decide_eq_true_eq, List.all_eq_true, List.mem_range'] at h
  refine ⟨h.2.1, h.2.2, fun i hi => ?_⟩
  have h2 := h.1 i ⟨i, by omega, by omega⟩
  unfold okAt inB at h2
  simp only [Bool.and_eq_true, Bool.or_eq_true, decide_eq_true_eq] at h2
  refine ⟨h2.1, fun h0 => ?_⟩
  rcases h2.2 with h3 | h3
  · omega
  · exact h3
theorem spec_spSorted_l0 (l : List Int) (m : Int) (hl : l.length ≤ 10000) (hm : -1000000000 ≤ m ∧ m ≤ 1000000000) (d : Nat) : ∀ i : Nat, i + d = l.length → Ev (fun k => spec_spSorted.l0 k l m l (l.length : Int) (i : Int)) (sortedFrom l m i) := by
  have wm : wrap64 (m - 1) = m - 1 := w64 (by omega) (by omega)
  induction d with
  | zero =>
    intro i hi
    obtain rfl : i = l.length := by omega
    refine Ev.succ ?_
    have h1 : ¬ ((l.length : Int) < (l.length : Int)) := by omega
    simp only [spec_spSorted.l0, h1, ↓reduceIte]
    rw [sortedFrom_end]
    by_cases c : l.length ≤ 60
    · have c' : (l.length : Int) ≤ 60 := by omega
      simp only [c, c', ↓reduceIte, spec_spLimit_eq, Option.bind_some, decide_true, Bool.true_and]
      exact Ev.now _
    · have c' : ¬ ((l.length : Int) ≤ 60) := by omega
      simp only [c, c', ↓reduceIte, decide_false, Bool.false_and]
      exact Ev.now _
  | succ d ih =>
    intro i hi
    have hil : i < l.length := by omega
    refine Ev.succ ?_
    have h1 : (i : Int) < (l.length : Int) := by omega
    have h2 : (0 : Int) ≤ (i : Int) := by omega
    have hw : wrap64 ((i : Int) + 1) = ((i + 1 : Nat) : Int) := by rw [w64 (by omega) (by omega)]; rfl
    rw [sortedFrom_step l m i hil]
    unfold okAt inB
    simp only [spec_spSorted.l0, h1, h2, ↓reduceIte, spec_l1In_eq, wm, hw, Option.bind_some]
    by_cases c : 0 ≤ rd l (i : Int) ∧ rd l (i : Int) ≤ m - 1
    · simp only [c, and_self, decide_true, ↓reduceIte, Bool.true_and]
      by_cases c0 : i = 0
      · have c0' : ¬ ((i : Int) > 0) := by omega
        simp only [c0', ↓reduceIte, c0, decide_true, Bool.true_or, Bool.true_and]
        have e := ih (i + 1) (by omega)
        rw [c0] at e
        exact e
      · have c0' : (i : Int) > 0 := by omega
        have hw1 : wrap64 ((i : Int) - 1) = ((i - 1 : Nat) : Int) := by rw [w64 (by omega) (by omega)]; omega
        have h3 : (0 : Int) ≤ ((i - 1 : Nat) : Int) := by omega
        have h4 : ((i - 1 : Nat) : Int) < (l.length : Int) := by omega
        simp only [c0', ↓reduceIte, c0, decide_false, Bool.false_or, hw1, h3, h4]
        by_cases g : rd l ((i - 1 : Nat) : Int) ≤ rd l (i : Int)
        · have g' : ¬ (rd l ((i - 1 : Nat) : Int) > rd l (i : Int)) := by omega
          simp only [g, g', ↓reduceIte, decide_true, Bool.true_and]
          exact ih (i + 1) (by omega)
        · have g' : rd l ((i - 1 : Nat) : Int) > rd l (i : Int) := by omega
          simp only [g, g', ↓reduceIte, decide_false, Bool.false_and]
          exact Ev.now _
    · simp only [c, decide_false, Bool.false_eq_true, ↓reduceIte, Bool.false_and]
      exact Ev.now _
theorem spec_spSorted_ev (l : List Int) (m : Int) (hl : l.length ≤ 10000) (hm : -1000000000 ≤ m ∧ m ≤ 1000000000) : Ev (fun k => spec_spSorted.f k l m) (sortedV l m) := spec_spSorted_l0 l m hl hm l.length 0 (by omega)
theorem impl_sortedOk_l0 (l : List Int) (m : Int) (hl : l.length ≤ 10000) (hm : -1000000000 ≤ m ∧ m ≤ 1000000000) (d : Nat) : ∀ i : Nat, i + d = l.length → Ev (fun k => impl_sortedOk.l0 k l m l (l.length : Int) (i : Int)) (sortedFrom l m i) := by
  have wm : wrap64 (m - 1) = m - 1 := w64 (by omega) (by omega)
  induction d with
  | zero =>
    intro i hi
    obtain rfl : i = l.length := by omega
    refine Ev.succ ?_
    have h1 : ¬ ((l.length : Int) < (l.length : Int)) := by omega
    simp only [impl_sortedOk.l0, h1, ↓reduceIte, impl_limitOk_eq, Option.bind_some]
    rw [sortedFrom_end, Bool.and_comm]
    by_cases c : 1 ≤ m ∧ m ≤ 100000
    · simp only [c, and_self, decide_true, ↓reduceIte, Bool.true_and]
      exact Ev.some_ (by by_cases g : l.length ≤ 60 <;> simp [g] <;> omega)
    · simp only [c, decide_false, Bool.false_eq_true, ↓reduceIte, Bool.false_and]
      exact Ev.now _
  | succ d ih =>
    intro i hi
    have hil : i < l.length := by omega
    refine Ev.succ ?_
    have h1 : (i : Int) < (l.length : Int) := by omega
    have h2 : (0 : Int) ≤ (i : Int) := by omega
    have hw : wrap64 ((i : Int) + 1) = ((i + 1 : Nat) : Int) := by rw [w64 (by omega) (by omega)]; rfl
    rw [sortedFrom_step l m i hil]
    unfold okAt inB
    simp only [impl_sortedOk.l0, h1, h2, ↓reduceIte, impl_in_eq, wm, hw, Option.bind_some]
    by_cases c : 0 ≤ rd l (i : Int) ∧ rd l (i : Int) ≤ m - 1
    · simp only [c, and_self, decide_true, ↓reduceIte, Bool.true_and]
      by_cases c0 : i = 0
      · have c0' : ¬ ((i : Int) > 0) := by omega
        simp only [c0', ↓reduceIte, c0, decide_true, Bool.true_or, Bool.true_and]
        have e := ih (i + 1) (by omega)
        rw [c0] at e
        exact e
      · have c0' : (i : Int) > 0 := by omega
        have hw1 : wrap64 ((i : Int) - 1) = ((i - 1 : Nat) : Int) := by rw [w64 (by omega) (by omega)]; omega
        have h3 : (0 : Int) ≤ ((i - 1 : Nat) : Int) := by omega
        have h4 : ((i - 1 : Nat) : Int) < (l.length : Int) := by omega
        simp only [c0', ↓reduceIte, c0, decide_false, Bool.false_or, hw1, h3, h4]
        by_cases g : rd l ((i - 1 : Nat) : Int) ≤ rd l (i : Int)
        · have g' : ¬ (rd l ((i - 1 : Nat) : Int) > rd l (i : Int)) := by omega
          simp only [g, g', ↓reduceIte, decide_true, Bool.true_and]
          exact ih (i + 1) (by omega)
        · have g' : rd l ((i - 1 : Nat) : Int) > rd l (i : Int) := by omega
          simp only [g, g', ↓reduceIte, decide_false, Bool.false_and]
          exact Ev.now _
    · simp only [c, decide_false, Bool.false_eq_true, ↓reduceIte, Bool.false_and]
      exact Ev.now _
theorem impl_sortedOk_ev (l : List Int) (m : Int) (hl : l.length ≤ 10000) (hm : -1000000000 ≤ m ∧ m ≤ 1000000000) : Ev (fun k => impl_sortedOk.f k l m) (sortedV l m) := impl_sortedOk_l0 l m hl hm l.length 0 (by omega)
theorem spec_biNew_eq (n : Int) (h0 : 0 ≤ n) (h1 : n ≤ 1000000) : spec_biNew.f n = some (n, List.replicate ((n + 15) / 16).toNat 0) := by
  unfold spec_biNew.f
  rw [w64 (n := n + 15) (by omega) (by omega), tdiv_pos (by omega), w64 (by omega) (by omega), if_pos (by omega), if_pos (by omega)]
theorem impl_words_eq (n : Int) (h0 : 0 ≤ n) (h1 : n ≤ 1000000) : impl_words.f n = some ((n + 15) / 16) := by
  unfold impl_words.f
  rw [w64 (n := n + 16) (by omega) (by omega), w64 (n := n + 16 - 1) (by omega) (by omega), tdiv_pos (by omega), w64 (by omega) (by omega), show n + 16 - 1 = n + 15 from by omega]
theorem impl_blank_eq (n : Int) (h0 : 0 ≤ n) (h1 : n ≤ 1000000) : impl_blank.f n = some (n, List.replicate ((n + 15) / 16).toNat 0) := by
  unfold impl_blank.f
  rw [impl_words_eq n h0 h1]
  simp only [Option.bind_some]
  rw [if_pos (by omega), if_pos (by omega)]
theorem pow15 {t : Nat} (ht : t ≤ 15) : (2 : Nat) ^ t ≤ 32768 := Nat.le_trans (Nat.pow_le_pow_right (by decide) ht) (by decide)
theorem pow_cast (t : Nat) : (2 : Int) ^ t = ((2 ^ t : Nat) : Int) := by
  rw [Int.natCast_pow]
  rfl
theorem not_bits (b : Nat) (hb : b ≤ 32768) (j : Nat) : (18446744073709551615 - b).testBit j = (decide (j < 64) && !b.testBit j) := by
  have h := Nat.testBit_two_pow_sub_succ (x := b) (n := 64) (by omega) j
  rw [show 2 ^ 64 - (b + 1) = 18446744073709551615 - b from by omega] at h
  exact h
theorem andNot_off {x : Int} {t : Nat} (x0 : 0 ≤ x) (x1 : x ≤ 65535) (ht : t ≤ 15) (h : bitI x t = false) : Go.bits .andNot .i64 x (2 ^ t) = x := by
  obtain ⟨a, rfl⟩ := Int.eq_ofNat_of_zero_le x0
  have p := pow15 ht
  rw [pow_cast, (bits_nat64 a (2 ^ t) (by omega) (by omega)).2.2.2]
  have e : a &&& (18446744073709551615 - 2 ^ t) = a := by
    apply Nat.eq_of_testBit_eq
    intro j
    rw [Nat.testBit_and, not_bits (2 ^ t) p, Nat.testBit_two_pow]
    unfold bitI at h
    rw [Int.toNat_natCast] at h
    by_cases c : t = j
    · subst c
      rw [h]
      rfl
    · by_cases c2 : j < 64
      · simp [c, c2]
      · have h3 : a.testBit j = false := Nat.testBit_lt_two_pow (Nat.lt_of_lt_of_le (show a < 2 ^ 64 by omega) (Nat.pow_le_pow_right (by decide) (by omega)))
        rw [h3]
        rfl
  rw [e]
theorem and_le16 (a b : Nat) (ha : a ≤ 65535) (hb : b ≤ 32768) : a ||| b < 65536 := Nat.or_lt_two_pow (n := 16) (by omega) (by omega)
theorem or_bit {x : Int} {t : Nat} (x0 : 0 ≤ x) (x1 : x ≤ 65535) (ht : t ≤ 15) : 0 ≤ Go.bits .or .i64 x (2 ^ t) ∧ Go.bits .or .i64 x (2 ^ t) ≤ 65535 ∧ ∀ j, bitI (Go.bits .or .i64 x (2 ^ t)) j = (bitI x j || decide (t = j)) := by
  obtain ⟨a, rfl⟩ := Int.eq_ofNat_of_zero_le x0
  have p := pow15 ht
  rw [pow_cast, (bits_nat64 a (2 ^ t) (by omega) (by omega)).2.1]
  have hlt : a ||| 2 ^ t < 65536 := and_le16 a (2 ^ t) (by omega) p
  refine ⟨Int.natCast_nonneg _, Int.ofNat_le.2 (Nat.le_of_lt_succ hlt), fun j => ?_⟩
  unfold bitI
  rw [Int.toNat_natCast, Int.toNat_natCast, Nat.testBit_or, Nat.testBit_two_pow]
theorem rd_set_nat (ws : List Int) (k j : Nat) (y : Int) (hk : k < ws.length) : rd (ws.set k y) (j : Int) = if k = j then y else rd ws (j : Int) := by
  unfold rd
  rw [Int.toNat_natCast, List.getD_eq_getElem?_getD, List.getD_eq_getElem?_getD, List.getElem?_set]
  by_cases c : k = j
  · subst c
    simp [hk]
  · simp [c]
theorem set_rd (ws : List Int) (k : Nat) (hk : k < ws.length) : ws.set k (rd ws (k : Int)) = ws := by
  rw [rd_nat ws k hk]
  exact List.set_getElem_self hk
def setW (ws : List Int) (i : Nat) : List Int := ws.set (i / 16) (Go.bits .or .i64 (rd ws ((i / 16 : Nat) : Int)) (2 ^ (i % 16)))
def Low (ws : List Int) (i : Nat) : Prop := (∀ x ∈ ws, 0 ≤ x ∧ x ≤ 65535) ∧ ∀ p, i ≤ p → bitV ws p = false
theorem Low.next {ws : List Int} {i : Nat} (h : Low ws i) : Low ws (i + 1) := ⟨h.1, fun p hp => h.2 p (by omega)⟩
theorem Low.set {ws : List Int} {i : Nat} (h : Low ws i) (hi : i / 16 < ws.length) : Low (setW ws i) (i + 1) := by
  have r := rd_range h.1 ((i / 16 : Nat) : Int)
  have o := or_bit (t := i % 16) r.1 r.2 (by omega)
  refine ⟨fun x hx => ?_, fun p hp => ?_⟩
  · rcases List.mem_or_eq_of_mem_set hx with h1 | rfl
    · exact h.1 x h1
    · exact ⟨o.1, o.2.1⟩
  · unfold bitV setW
    rw [rd_set_nat _ _ _ _ hi]
    by_cases c : i / 16 = p / 16
    · have h2 := h.2 p (by omega)
      unfold bitV at h2
      rw [if_pos c, o.2.2, c, h2, Bool.false_or, decide_eq_false_iff_not]
      omega
    · rw [if_neg c]
      exact h.2 p (by omega)
theorem shl_bit (i : Nat) : shl .i64 1 ((i % 16 : Nat) : Int) = 2 ^ (i % 16) := by
  rw [shl_one (by omega) (by omega), Int.toNat_natCast]
theorem impl_Bits_set_in26_0_eq (n : Int) (ws : List Int) (i : Nat) (v : Bool) (h : Low ws i) (hi : i / 16 < ws.length) (hi2 : i ≤ 1000000) : impl_Bits_set_in26_0.f n ws (i : Int) v = some (if v = true then setW ws i else ws) := by
  unfold impl_Bits_set_in26_0.f
  have e1 : Int.tdiv (i : Int) 16 = ((i / 16 : Nat) : Int) := by rw [tdiv_pos (by omega)]; rfl
  have e2 : Int.tmod (i : Int) 16 = ((i % 16 : Nat) : Int) := by rw [tmod_pos (by omega)]; rfl
  have r := rd_range h.1 ((i / 16 : Nat) : Int)
  have hb : bitI (rd ws ((i / 16 : Nat) : Int)) (i % 16) = false := h.2 i (Nat.le_refl _)
  rw [e1, e2, w64 (n := ((i / 16 : Nat) : Int)) (by omega) (by omega), if_pos (by omega), if_pos (by omega), if_pos (by omega), shl_bit, andNot_off r.1 r.2 (by omega) hb, Int.toNat_natCast, set_rd ws _ hi]
  simp only [Option.bind_some]
  cases v <;> rfl
theorem spec_biSet_eq (n : Int) (ws : List Int) (i : Nat) (hi : i / 16 < ws.length) (hi2 : i ≤ 1000000) : spec_biSet.f n ws (i : Int) = some (setW ws i) := by
  unfold spec_biSet.f
  have e1 : Int.tdiv (i : Int) 16 = ((i / 16 : Nat) : Int) := by rw [tdiv_pos (by omega)]; rfl
  have e2 : Int.tmod (i : Int) 16 = ((i % 16 : Nat) : Int) := by rw [tmod_pos (by omega)]; rfl
  rw [e1, e2, w64 (n := ((i / 16 : Nat) : Int)) (by omega) (by omega), if_pos (by omega), if_pos (by omega), if_pos (by omega), shl_bit, Int.toNat_natCast]
  rfl
theorem sixteen {i q m : Nat} (h : i < q) (h2 : q ≤ 16 * m) : i / 16 < m := by omega
theorem wrap_succ {i q : Nat} (h : i < q) (h2 : q ≤ 5000) : wrap64 ((i : Int) + 1) = ((i + 1 : Nat) : Int) := by rw [w64 (by omega) (by omega)]; rfl
theorem low_zero (m : Nat) : Low (List.replicate m 0) 0 := by
  refine ⟨fun x hx => ?_, fun p _ => ?_⟩
  · have := List.eq_of_mem_replicate hx
    omega
  · unfold bitV
    have e : rd (List.replicate m 0) ((p / 16 : Nat) : Int) = 0 := by
      unfold rd
      rw [List.getD_eq_getElem?_getD, List.getElem?_replicate]
      split <;> rfl
    rw [e, bitI_zero]
def blankW (n : Int) : List Int := List.replicate ((n + 15) / 16).toNat 0
/-- The vector whose ones are the places from i on where p holds. -/
def fromW (p : Nat → Bool) : Nat → Nat → List Int → List Int
  | _, 0, ws => ws
  | i, d + 1, ws => fromW p (i + 1) d (if p i = true then setW ws i else ws)
theorem if_length (p : Nat → Bool) (ws : List Int) (i : Nat) : (if p i = true then setW ws i else ws).length = ws.length := by
  by_cases c : p i = true
  · rw [if_pos c, setW, List.length_set]
  · rw [if_neg c]
theorem if_low (p : Nat → Bool) (ws : List Int) (i : Nat) (h : Low ws i) (hi : i / 16 < ws.length) : Low (if p i = true then setW ws i else ws) (i + 1) := by
  by_cases c : p i = true
  · rw [if_pos c]; exact h.set hi
  · rw [if_neg c]; exact h.next
theorem fromW_length (p : Nat → Bool) (d : Nat) : ∀ i ws, (fromW p i d ws).length = ws.length := by
  induction d with
  | zero => intro i ws; rfl
  | succ d ih => intro i ws; rw [fromW, ih, if_length]
theorem fromW_none (p : Nat → Bool) : ∀ d i ws, (∀ j, i ≤ j → j < i + d → p j = false) → fromW p i d ws = ws := by
  intro d
  induction d with
  | zero => intro i ws _; rfl
  | succ d ih =>
    intro i ws h
    rw [fromW, h i (Nat.le_refl _) (by omega), if_neg (by decide)]
    exact ih (i + 1) ws (fun j h1 h2 => h j (by omega) (by omega))
theorem fromW_add (p : Nat → Bool) (d2 : Nat) : ∀ d1 i ws, fromW p i (d1 + d2) ws = fromW p (i + d1) d2 (fromW p i d1 ws) := by
  intro d1
  induction d1 with
  | zero => intro i ws; rw [Nat.zero_add]; rfl
  | succ d ih => intro i ws; rw [show d + 1 + d2 = (d + d2) + 1 from by omega, fromW, fromW, ih, show i + 1 + d = i + (d + 1) from by omega]
theorem fromW_one (p : Nat → Bool) (i d x : Nat) (ws : List Int) (h1 : i ≤ x) (h2 : x < i + d) (hx : p x = true) (hn : ∀ j, i ≤ j → j < x → p j = false) : fromW p i d ws = fromW p (x + 1) (i + d - (x + 1)) (setW ws x) := by
  rw [show d = (x - i) + ((i + d - (x + 1)) + 1) from by omega, fromW_add, fromW_none p (x - i) i ws (fun j h3 h4 => hn j h3 (by omega)), show i + (x - i) = x from by omega, fromW, if_pos hx]
  congr 1
  omega
theorem spec_biAt_eq (n : Int) (l : List Int) (hl : ∀ x ∈ l, 0 ≤ x ∧ x ≤ 65535) (i : Nat) (hi : i / 16 < l.length) (hi2 : i ≤ 1000000) : spec_biAt.f n l (i : Int) = some (bitV l i) := by
  unfold spec_biAt.f
  have e1 : Int.tdiv (i : Int) 16 = ((i / 16 : Nat) : Int) := by rw [tdiv_pos (by omega)]; rfl
  have e2 : Int.tmod (i : Int) 16 = ((i % 16 : Nat) : Int) := by rw [tmod_pos (by omega)]; rfl
  rw [e1, e2, w64 (n := ((i / 16 : Nat) : Int)) (by omega) (by omega), if_pos (by omega), if_pos (by omega), if_pos (by omega)]
  have hr := rd_range hl ((i / 16 : Nat) : Int)
  rw [and_one_bit hr.1 hr.2 (by omega) (by omega), Int.toNat_natCast]
  rfl
theorem bit_of {v j : Nat} (hv : v < 4611686018427387904) (hj : j ≤ 60) : (Go.bits .and .i64 (shr .i64 (v : Int) (j : Int)) 1 == 1) = v.testBit j := by
  rw [shr_nat v j hj]
  have hlt : v / 2 ^ j < 9223372036854775808 := Nat.lt_of_le_of_lt (Nat.div_le_self _ _) (by omega)
  have e2 := (bits_nat64 (v / 2 ^ j) 1 hlt (by decide)).1
  rw [show ((1 : Nat) : Int) = 1 from rfl] at e2
  rw [e2, Nat.and_one_is_mod, Nat.testBit_eq_decide_div_mod_eq]
  have := Nat.mod_lt (v / 2 ^ j) (show 0 < 2 by decide)
  by_cases c : v / 2 ^ j % 2 = 1
  · simp [c]
  · have c0 : v / 2 ^ j % 2 = 0 := by omega
    simp [c0]
theorem add_wrap {a b y : Nat} (h : y = a + b) (hy : y ≤ 1000000) : wrap64 ((a : Int) + (b : Int)) = (y : Int) := by
  subst h
  rw [w64 (by omega) (by omega)]
  rfl
theorem succ_wrap {a y : Nat} (h : y = a + 1) (hy : y ≤ 1000000) : wrap64 ((a : Int) + 1) = (y : Int) := by
  subst h
  rw [w64 (by omega) (by omega)]
  rfl
theorem rd_snoc (l : List Int) (v : Int) : rd (l ++ [v]) (l.length : Int) = v := by
  rw [rd_nat _ l.length (by rw [List.length_append]; exact Nat.lt_succ_self _), List.getElem_append_right (Nat.le_refl _)]
  simp
theorem rd_snoc_lt (l : List Int) (v : Int) {i : Nat} (h : i < l.length) : rd (l ++ [v]) (i : Int) = rd l (i : Int) := by
  rw [rd_nat _ i (by rw [List.length_append]; omega), List.getElem_append_left h, ← rd_nat l i h]
theorem fromW_congr (p q : Nat → Bool) (d : Nat) : ∀ i ws, (∀ j, i ≤ j → j < i + d → p j = q j) → fromW p i d ws = fromW q i d ws := by
  induction d with
  | zero => intro i ws _; rfl
  | succ d ih =>
    intro i ws h
    rw [fromW, fromW, h i (Nat.le_refl _) (by omega)]
    exact ih (i + 1) _ (fun j h1 h2 => h j (by omega) (by omega))
theorem fromW_snoc (p : Nat → Bool) (q : Nat) (ws : List Int) : fromW p 0 (q + 1) ws = if p q = true then setW (fromW p 0 q ws) q else fromW p 0 q ws := by
  rw [fromW_add p 1 q 0 ws, Nat.zero_add]
  rfl
theorem fromW_low (p : Nat → Bool) (ws : List Int) (h : Low ws 0) (q : Nat) (hq : q ≤ 16 * ws.length) : Low (fromW p 0 q ws) q := by
  induction q with
  | zero => exact h
  | succ q ih =>
    have h1 := ih (by omega)
    rw [fromW_snoc]
    exact if_low p _ q h1 (by rw [fromW_length]; omega)
theorem Low.mono {ws : List Int} {i j : Nat} (h : Low ws i) (hij : i ≤ j) : Low ws j := ⟨h.1, fun p hp => h.2 p (by omega)⟩
/-! ### a vector out of a list of bits -/
theorem blankW_length (n : Nat) : (blankW (n : Int)).length = (n + 15) / 16 := by
  unfold blankW
  rw [List.length_replicate]
  omega
theorem blankW_low (n : Int) : Low (blankW n) 0 := low_zero _
theorem biSome_l0v (bs : List Bool) (n : Int) (hb : bs.length ≤ 100000) (d : Nat) : ∀ (i : Nat) (ws : List Int), i + d = bs.length → bs.length ≤ 16 * ws.length → Ev (fun k => spec_biSome.l0 k bs (bs.length : Int) (i : Int) n ws) (n, fromW (fun p => rdOf false bs (p : Int)) i d ws) := by
  induction d with
  | zero =>
    intro i ws hi hw
    refine Ev.succ ?_
    have h1 : ¬ ((i : Int) < (bs.length : Int)) := by omega
    simp only [spec_biSome.l0, h1, ↓reduceIte]
    exact Ev.now _
  | succ d ih =>
    intro i ws hi hw
    have h1 : (i : Int) < (bs.length : Int) := by omega
    have h2 : (0 : Int) ≤ (i : Int) := by omega
    have hww : wrap64 ((i : Int) + 1) = ((i + 1 : Nat) : Int) := by rw [w64 (by omega) (by omega)]; rfl
    refine Ev.succ ?_
    rw [fromW]
    by_cases c : rdOf false bs (i : Int) = true
    · have e2 := spec_biSet_eq n ws i (by omega) (by omega)
      simp only [spec_biSome.l0, h1, h2, ↓reduceIte, c, e2, Option.bind_some, hww]
      exact ih (i + 1) (setW ws i) (by omega) (by rw [setW, List.length_set]; omega)
    · simp only [spec_biSome.l0, h1, h2, ↓reduceIte, c, hww, Bool.false_eq_true]
      exact ih (i + 1) ws (by omega) hw
theorem biSome_v (bs : List Bool) (hb : bs.length ≤ 100000) : Ev (fun k => spec_biSome.f k bs) ((bs.length : Int), fromW (fun p => rdOf false bs (p : Int)) 0 bs.length (blankW (bs.length : Int))) := by
  unfold spec_biSome.f
  rw [spec_biNew_eq (bs.length : Int) (by omega) (by omega)]
  simp only [Option.bind_some]
  exact biSome_l0v bs _ hb bs.length 0 _ (by omega) (by rw [List.length_replicate]; omega)
/-! ### the bits of the numbers -/
def lowP (ns : List Int) (w : Nat) (p : Nat) : Bool := (rd ns ((p / w : Nat) : Int)).toNat.testBit (p % w)
def hpos (ns : List Int) (w i : Nat) : Nat := (rd ns (i : Int)).toNat / 2 ^ w + i
def hiP (ns : List Int) (w : Nat) (p : Nat) : Bool := (List.range ns.length).any fun i => hpos ns w i == p
theorem hiP_true {ns : List Int} {w i : Nat} (h : i < ns.length) : hiP ns w (hpos ns w i) = true := by
  unfold hiP
  rw [List.any_eq_true]
  exact ⟨i, List.mem_range.2 h, by simp⟩
theorem lowP_at (ns : List Int) {w i j : Nat} (hj : j < w) : lowP ns w (i * w + j) = (rd ns (i : Int)).toNat.testBit j := by
  unfold lowP
  have e1 : (i * w + j) / w = i := by
    rw [Nat.mul_comm, Nat.mul_add_div (by omega), Nat.div_eq_of_lt hj, Nat.add_zero]
  have e2 : (i * w + j) % w = j := by
    rw [Nat.mul_comm, Nat.mul_add_mod, Nat.mod_eq_of_lt hj]
  rw [e1, e2]
theorem rdB_set (l : List Bool) (i p : Nat) (v : Bool) (h : i < l.length) : rdOf false (l.set i v) (p : Int) = if p = i then v else rdOf false l (p : Int) := by
  unfold rdOf
  rw [List.getD_eq_getElem?_getD, List.getD_eq_getElem?_getD, Int.toNat_natCast]
  by_cases c : p = i
  · subst c
    rw [if_pos rfl, List.getElem?_set_self h]
    rfl
  · rw [if_neg c, List.getElem?_set_ne (by omega)]
theorem rdB_zeros (n p : Nat) : rdOf false (List.replicate n false) (p : Int) = false := by
  unfold rdOf
  rw [List.getD_eq_getElem?_getD, List.getElem?_replicate]
  split <;> rfl
theorem spec_biPut_l0 (a w v : Nat) (hv : v ≤ 200000) (hw : w ≤ 20) (ha : a ≤ 100000) (d : Nat) : ∀ (j : Nat) (l : List Bool), j + d = w → a + w ≤ l.length → ∃ r, Ev (fun k => spec_biPut.l0 k l (a : Int) (w : Int) (v : Int) (j : Int)) r ∧ r.length = l.length ∧ ∀ p : Nat, rdOf false r (p : Int) = if a + j ≤ p ∧ p < a + w then v.testBit (p - a) else rdOf false l (p : Int) := by
  induction d with
  | zero =>
    intro j l hj hl
    refine ⟨l, Ev.succ ?_, rfl, fun p => ?_⟩
    · have h1 : ¬ ((j : Int) < (w : Int)) := by omega
      simp only [spec_biPut.l0, h1, ↓reduceIte]
      exact Ev.now _
    · rw [if_neg (by omega)]
  | succ d ih =>
    intro j l hj hl
    have h1 : (j : Int) < (w : Int) := by omega
    have h2 : (0 : Int) ≤ (j : Int) := by omega
    have w1 : wrap64 ((a : Int) + (j : Int)) = ((a + j : Nat) : Int) := by rw [w64 (by omega) (by omega)]; rfl
    have w2 : wrap64 ((j : Int) + 1) = ((j + 1 : Nat) : Int) := by rw [w64 (by omega) (by omega)]; rfl
    have h3 : (0 : Int) ≤ ((a + j : Nat) : Int) := by omega
    have h4 : ((a + j : Nat) : Int) < (l.length : Int) := by omega
    have hb := bit_of (v := v) (j := j) (by omega) (by omega)
    obtain ⟨r, e, hr, hp⟩ := ih (j + 1) (l.set (a + j) (v.testBit j)) (by omega) (by rw [List.length_set]; exact hl)
    refine ⟨r, Ev.succ ?_, by rw [hr, List.length_set], fun p => ?_⟩
    · simp only [spec_biPut.l0, h1, h2, w1, w2, h3, h4, hb, ↓reduceIte, Int.toNat_natCast]
      exact e
    · rw [hp p]
      by_cases c : a + (j + 1) ≤ p ∧ p < a + w
      · rw [if_pos c, if_pos (by omega)]
      · rw [if_neg c, rdB_set _ _ _ _ (by omega)]
        by_cases c2 : p = a + j
        · rw [if_pos c2, if_pos (by omega), c2, show a + j - a = j from by omega]
        · rw [if_neg c2, if_neg (by omega)]
theorem mod_bit {n w j : Nat} (h : j < w) : (n % 2 ^ w).testBit j = n.testBit j := by
  rw [Nat.testBit_mod_two_pow]
  simp [h]
/-- What a list of numbers becomes. -/
def hiN (ns : List Int) (m w : Nat) : Nat := ns.length + (m - 1) / 2 ^ w + 1
def lowW (ns : List Int) (w : Nat) : List Int := fromW (lowP ns w) 0 (ns.length * w) (blankW ((ns.length * w : Nat) : Int))
def hiW (ns : List Int) (m w : Nat) : List Int := fromW (hiP ns w) 0 (hiN ns m w) (blankW ((hiN ns m w : Nat) : Int))
def sparseV (ns : List Int) (m w : Nat) : Int × Int × Int × Int × List Int × Int × List Int := ((ns.length : Int), (m : Int), (w : Int), ((ns.length * w : Nat) : Int), lowW ns w, ((hiN ns m w : Nat) : Int), hiW ns m w)
structure Nums (ns : List Int) (m w : Nat) : Prop where
  len : ns.length ≤ 60
  m1 : 1 ≤ m
  m2 : m ≤ 100000
  wid : w = widthV ns.length m
  range : ∀ i : Nat, i < ns.length → 0 ≤ rd ns (i : Int) ∧ rd ns (i : Int) ≤ (m : Int) - 1
  sorted : ∀ i j : Nat, i ≤ j → j < ns.length → rd ns (i : Int) ≤ rd ns (j : Int)
theorem Nums.w17 {ns : List Int} {m w : Nat} (h : Nums ns m w) : w ≤ 17 := by rw [h.wid]; exact (widthV_spec h.len h.m2).1
theorem Nums.hi {ns : List Int} {m w : Nat} (h : Nums ns m w) : hiN ns m w ≤ 181 := by
  have h1 := width_div h.len h.m2
  have h2 := h.len
  unfold hiN
  rw [h.wid]
  omega
theorem Nums.low {ns : List Int} {m w : Nat} (h : Nums ns m w) : ns.length * w ≤ 1020 := by
  have h1 := Nat.mul_le_mul h.len h.w17
  omega
theorem Nums.pos {ns : List Int} {m w : Nat} (h : Nums ns m w) {i : Nat} (hi : i < ns.length) : hpos ns w i < hiN ns m w := by
  have h1 := h.range i hi
  have h2 : (rd ns (i : Int)).toNat / 2 ^ w ≤ (m - 1) / 2 ^ w := Nat.div_le_div_right (by omega)
  unfold hpos hiN
  omega
theorem Nums.up {ns : List Int} {m w : Nat} (h : Nums ns m w) {i j : Nat} (hij : i < j) (hj : j < ns.length) : hpos ns w i < hpos ns w j := by
  have h1 := h.sorted i j (by omega) hj
  have h2 : (rd ns (i : Int)).toNat / 2 ^ w ≤ (rd ns (j : Int)).toNat / 2 ^ w := Nat.div_le_div_right (by omega)
  unfold hpos
  omega
theorem Nums.back {ns : List Int} {m w : Nat} (h : Nums ns m w) {i p : Nat} (hi : i < ns.length) (hp : hiP ns w p = true) (hlt : p < hpos ns w i) : ∃ j, j < i ∧ hpos ns w j = p := by
  unfold hiP at hp
  rw [List.any_eq_true] at hp
  obtain ⟨j, hj, e⟩ := hp
  have hj' := List.mem_range.1 hj
  have e' : hpos ns w j = p := by simpa using e
  refine ⟨j, ?_, e'⟩
  rcases Nat.lt_trichotomy j i with c | c | c
  · exact c
  · subst c; omega
  · have := h.up c hj'; omega
theorem spec_spOf_l0 {ns : List Int} {m w : Nat} (h : Nums ns m w) (d : Nat) : ∀ (i : Nat) (lo hi : List Bool), i + d = ns.length → lo.length = ns.length * w → hi.length = hiN ns m w →
    (∀ p : Nat, p < ns.length * w → rdOf false lo (p : Int) = if p < i * w then lowP ns w p else false) → (∀ p : Nat, rdOf false hi (p : Int) = (List.range i).any fun j => hpos ns w j == p) →
    Ev (fun k => spec_spOf.l0 k ns (m : Int) (w : Int) lo hi ns (ns.length : Int) (i : Int)) (sparseV ns m w) := by
  have hw17 := h.w17
  have hlow := h.low
  have hhi := h.hi
  induction d with
  | zero =>
    intro i lo hi hid hlo hhl hp1 hp2
    obtain rfl : i = ns.length := by omega
    refine Ev.succ ?_
    have h1 : ¬ ((ns.length : Int) < (ns.length : Int)) := by omega
    have b1 : lo.length ≤ 100000 := by omega
    have b2 : hi.length ≤ 100000 := by omega
    have e1 : fromW (fun p => rdOf false lo (p : Int)) 0 lo.length (blankW (lo.length : Int)) = lowW ns w := by
      rw [hlo]
      exact fromW_congr _ _ _ _ _ (fun j _ hj => by rw [hp1 j (by omega), if_pos (by omega)])
    have e2 : fromW (fun p => rdOf false hi (p : Int)) 0 hi.length (blankW (hi.length : Int)) = hiW ns m w := by
      rw [hhl]
      exact fromW_congr _ _ _ _ _ (fun j _ _ => hp2 j)
    have f1 := biSome_v lo b1
    have f2 := biSome_v hi b2
    rw [e1, hlo] at f1
    rw [e2, hhl] at f2
    simp only [spec_spOf.l0, h1, ↓reduceIte]
    exact Ev.bind f1 (Ev.bind f2 (Ev.now _))
  | succ d ih =>
    intro i lo hi hid hlo hhl hp1 hp2
    have hin : i < ns.length := by omega
    have hr := h.range i hin
    have hpos_ := h.pos hin
    have hm2 := h.m2
    have hlen := h.len
    obtain ⟨x, hx⟩ := Int.eq_ofNat_of_zero_le hr.1
    have hxt : (rd ns (i : Int)).toNat = x := by rw [hx]; rfl
    have hx5 : x ≤ 200000 := by omega
    have h1 : (i : Int) < (ns.length : Int) := by omega
    have h2 : (0 : Int) ≤ (i : Int) := by omega
    have h3 : (0 : Int) ≤ (w : Int) := by omega
    have hiw : i * w + w ≤ ns.length * w := by rw [← Nat.succ_mul]; exact Nat.mul_le_mul_right _ hin
    have w1 : wrap64 ((i : Int) * (w : Int)) = ((i * w : Nat) : Int) := by
      have e : (i : Int) * (w : Int) = ((i * w : Nat) : Int) := by simp
      rw [e]
      generalize i * w = t at *
      exact w64 (by omega) (by omega)
    have w3 : wrap64 ((i : Int) + 1) = ((i + 1 : Nat) : Int) := succ_wrap rfl (Nat.le_trans hin (Nat.le_trans hlen (by decide)))
    have h5 : (0 : Int) ≤ ((hpos ns w i : Nat) : Int) := Int.natCast_nonneg _
    have h6 : ((hpos ns w i : Nat) : Int) < (hi.length : Int) := by rw [hhl]; exact Int.ofNat_lt.2 hpos_
    have hw20 : w ≤ 20 := Nat.le_trans hw17 (by decide)
    have hw60 : w ≤ 60 := Nat.le_trans hw17 (by decide)
    have hw30 : w ≤ 30 := Nat.le_trans hw17 (by decide)
    have b1 : i * w ≤ 100000 := Nat.le_trans (Nat.le_trans (Nat.le_add_right _ _) hiw) (Nat.le_trans hlow (by decide))
    have b2 : i * w + w ≤ lo.length := by rw [hlo]; exact hiw
    obtain ⟨r, er, hrl, hrp⟩ := spec_biPut_l0 (i * w) w (x % 2 ^ w) (Nat.le_trans (Nat.mod_le _ _) hx5) hw20 b1 w 0 lo (Nat.zero_add _) b2
    have w2 : wrap64 (((x / 2 ^ w : Nat) : Int) + (i : Int)) = ((hpos ns w i : Nat) : Int) := add_wrap (show hpos ns w i = x / 2 ^ w + i from by unfold hpos; rw [hxt]) (Nat.le_trans (Nat.le_of_lt hpos_) (Nat.le_trans hhi (by decide)))
    have hs1 : shl .i64 1 (w : Int) = ((2 ^ w : Nat) : Int) := by
      have e := shl_nat 1 w (by decide) hw30
      rw [Nat.one_mul] at e
      exact e
    have h4 : ¬ (((2 ^ w : Nat) : Int) = 0) := fun e => absurd (Int.ofNat.inj e) (Nat.pos_iff_ne_zero.1 (Nat.two_pow_pos w))
    have e5 : Int.tmod (x : Int) ((2 ^ w : Nat) : Int) = ((x % 2 ^ w : Nat) : Int) := by rw [tmod_pos (Int.natCast_nonneg _)]; rfl
    have e6 := shr_nat x w hw60
    refine Ev.succ ?_
    simp only [spec_spOf.l0, h1, h2, h3, h4, hs1, w1, hx, e5, e6, ↓reduceIte]
    refine Ev.bind (show Ev (fun k => spec_biPut.f k lo ((i * w : Nat) : Int) (w : Int) ((x % 2 ^ w : Nat) : Int)) r from er) ?_
    simp only [w2, h5, h6, w3, ↓reduceIte, Int.toNat_natCast]
    clear hs1 h4 e5 e6 er
    have k1 : ∀ p : Nat, p < ns.length * w → rdOf false r (p : Int) = if p < (i + 1) * w then lowP ns w p else false := by
      clear hr hx h1 h2 h3 w1 w2 w3 h5 h6 hp2 hhl ih hpos_ hlow hhi
      intro p hp
      rw [hrp p, Nat.succ_mul]
      by_cases c : i * w + 0 ≤ p ∧ p < i * w + w
      · obtain ⟨j, rfl⟩ : ∃ j, p = i * w + j := ⟨p - i * w, by omega⟩
        rw [if_pos c, if_pos c.2, Nat.add_sub_cancel_left, mod_bit (by omega), lowP_at ns (by omega), hxt]
      · rw [if_neg c, hp1 p hp]
        by_cases c2 : p < i * w
        · rw [if_pos c2, if_pos (by omega)]
        · rw [if_neg c2, if_neg (by omega)]
    have k2 : ∀ p : Nat, rdOf false (hi.set (hpos ns w i) true) (p : Int) = (List.range (i + 1)).any fun j => hpos ns w j == p := by
      intro p
      rw [rdB_set _ _ _ _ (by rw [hhl]; exact hpos_), hp2 p, List.range_succ, List.any_append]
      simp only [List.any_cons, List.any_nil, Bool.or_false]
      by_cases c : p = hpos ns w i
      · rw [if_pos c, c]; simp
      · rw [if_neg c]
        have c2 : (hpos ns w i == p) = false := beq_eq_false_iff_ne.2 (fun e => c e.symm)
        rw [c2, Bool.or_false]
    exact ih (i + 1) r (hi.set (hpos ns w i) true) (by rw [← hid, Nat.add_assoc, Nat.add_comm 1 d]) (by rw [hrl]; exact hlo) (by rw [List.length_set]; exact hhl) k1 k2
theorem spec_spOf_ev {ns : List Int} {m w : Nat} (h : Nums ns m w) : Ev (fun k => spec_spOf.f k ns (m : Int)) (sparseV ns m w) := by
  have hw17 := h.w17
  have hlow := h.low
  have hhi := h.hi
  have hlen := h.len
  have h1 := h.m1
  have h2 := h.m2
  unfold spec_spOf.f
  refine Ev.bind (spec_spWidth_ev hlen h2) ?_
  rw [← h.wid]
  have w1 : wrap64 ((ns.length : Int) * (w : Int)) = ((ns.length * w : Nat) : Int) := by
    have e : (ns.length : Int) * (w : Int) = ((ns.length * w : Nat) : Int) := by simp
    rw [e]
    generalize ns.length * w = t at *
    exact w64 (by omega) (by omega)
  have w2 : wrap64 ((m : Int) - 1) = ((m - 1 : Nat) : Int) := by rw [w64 (by omega) (by omega)]; omega
  have hw60 : w ≤ 60 := by omega
  have k1 : ns.length * w ≤ 281474976710656 := by omega
  have k2 : hiN ns m w ≤ 281474976710656 := by omega
  have hhi2 : hiN ns m w ≤ 1000000 := by omega
  have hhi3 : ns.length + (m - 1) / 2 ^ w ≤ 1000000 := Nat.le_trans (Nat.le_succ _) hhi2
  have w3 : wrap64 ((ns.length : Int) + (((m - 1) / 2 ^ w : Nat) : Int)) = ((ns.length + (m - 1) / 2 ^ w : Nat) : Int) := add_wrap rfl hhi3
  have w4 : wrap64 (((ns.length + (m - 1) / 2 ^ w : Nat) : Int) + 1) = ((hiN ns m w : Nat) : Int) := succ_wrap (show hiN ns m w = ns.length + (m - 1) / 2 ^ w + 1 from rfl) hhi2
  clear hhi3
  have e6 := shr_nat (m - 1) w hw60
  simp only [w1, w2, e6, w3, w4, Int.toNat_natCast, show (0 : Int) ≤ ((ns.length * w : Nat) : Int) from Int.natCast_nonneg _, show (0 : Int) ≤ (w : Int) from Int.natCast_nonneg _, show (0 : Int) ≤ ((hiN ns m w : Nat) : Int) from Int.natCast_nonneg _, k1, k2, ↓reduceIte]
  clear e6
  exact spec_spOf_l0 h ns.length 0 _ _ (by omega) (by rw [List.length_replicate]) (by rw [List.length_replicate]) (fun p _ => by rw [rdB_zeros, if_neg (by omega)]) (fun p => by rw [rdB_zeros]; simp)
/-! ### the program's -/
theorem impl_setField_l0 (q : Nat → Bool) (n : Int) (b : List Int) (hb : Low b 0) (a w v : Nat) (hv : v ≤ 200000) (hw : w ≤ 20) (ha : a ≤ 100000) (hl : a + w ≤ 16 * b.length) (hq : ∀ j, j < w → q (a + j) = v.testBit j) (d : Nat) : ∀ j : Nat, j + d = w →
    Ev (fun k => impl_Bits_setField_in26_0.l0 k (a : Int) (v : Int) (w : Int) (j : Int) n (fromW q 0 (a + j) b)) (fromW q 0 (a + w) b) := by
  induction d with
  | zero =>
    intro j hj
    obtain rfl : j = w := by omega
    refine Ev.succ ?_
    have h1 : ¬ ((j : Int) < (j : Int)) := by omega
    simp only [impl_Bits_setField_in26_0.l0, h1, ↓reduceIte]
    exact Ev.now _
  | succ d ih =>
    intro j hj
    have h1 : (j : Int) < (w : Int) := by omega
    have h2 : (0 : Int) ≤ (j : Int) := by omega
    have w1 : wrap64 ((a : Int) + (j : Int)) = ((a + j : Nat) : Int) := by rw [w64 (by omega) (by omega)]; rfl
    have w2 : wrap64 ((j : Int) + 1) = ((j + 1 : Nat) : Int) := by rw [w64 (by omega) (by omega)]; rfl
    have hbt := bit_of (v := v) (j := j) (by omega) (by omega)
    have hL := fromW_low q b hb (a + j) (by omega)
    have hs := impl_Bits_set_in26_0_eq n (fromW q 0 (a + j) b) (a + j) (v.testBit j) hL (by rw [fromW_length]; omega) (by omega)
    refine Ev.succ ?_
    simp only [impl_Bits_setField_in26_0.l0, h1, h2, w1, w2, hbt, hs, ↓reduceIte, Option.bind_some]
    have e := ih (j + 1) (by omega)
    rw [show a + (j + 1) = (a + j) + 1 from by omega, fromW_snoc, hq j (by omega)] at e
    exact e
theorem impl_fields_l0 {ns : List Int} {m w : Nat} (h : Nums ns m w) (ms : List Int) (hms : ms.length = ns.length) (hmv : ∀ i : Nat, i < ns.length → rd ms (i : Int) = (((rd ns (i : Int)).toNat % 2 ^ w : Nat) : Int)) (n : Int) (d : Nat) : ∀ i : Nat, i + d = ns.length →
    Ev (fun k => impl_fields.l0 k (w : Int) ms (ms.length : Int) (i : Int) n (fromW (lowP ns w) 0 (i * w) (blankW ((ns.length * w : Nat) : Int)))) (n, lowW ns w) := by
  have hw17 := h.w17
  have hlow := h.low
  induction d with
  | zero =>
    intro i hi
    obtain rfl : i = ns.length := by omega
    refine Ev.succ ?_
    have h1 : ¬ ((ns.length : Int) < (ms.length : Int)) := by omega
    simp only [impl_fields.l0, h1, ↓reduceIte]
    exact Ev.now _
  | succ d ih =>
    intro i hi
    have hin : i < ns.length := by omega
    have hr := h.range i hin
    have hm2 := h.m2
    have hlen := h.len
    have h1 : (i : Int) < (ms.length : Int) := by omega
    have h2 : (0 : Int) ≤ (i : Int) := by omega
    have w1 : wrap64 ((i : Int) * (w : Int)) = ((i * w : Nat) : Int) := by
      have e : (i : Int) * (w : Int) = ((i * w : Nat) : Int) := by simp
      have hiw : i * w ≤ ns.length * w := Nat.mul_le_mul_right _ (by omega)
      rw [e]
      generalize i * w = t at *
      exact w64 (by omega) (by omega)
    have w3 : wrap64 ((i : Int) + 1) = ((i + 1 : Nat) : Int) := by rw [w64 (by omega) (by omega)]; rfl
    have hiw : i * w + w ≤ ns.length * w := by rw [← Nat.succ_mul]; exact Nat.mul_le_mul_right _ hin
    have hmod : (rd ns (i : Int)).toNat % 2 ^ w ≤ (rd ns (i : Int)).toNat := Nat.mod_le _ _
    refine Ev.succ ?_
    simp only [impl_fields.l0, h1, h2, w1, w3, hmv i hin, ↓reduceIte]
    have e := impl_setField_l0 (lowP ns w) n (blankW ((ns.length * w : Nat) : Int)) (blankW_low _) (i * w) w ((rd ns (i : Int)).toNat % 2 ^ w) (by omega) (by omega) (by omega) (by rw [blankW_length]; omega) (fun j hj => by rw [lowP_at ns hj, mod_bit hj]) w 0 (by omega)
    rw [Nat.add_zero] at e
    refine Ev.bind (show Ev (fun k => impl_Bits_setField_in26_0.f k n (fromW (lowP ns w) 0 (i * w) (blankW ((ns.length * w : Nat) : Int))) ((i * w : Nat) : Int) (w : Int) (((rd ns (i : Int)).toNat % 2 ^ w : Nat) : Int)) (fromW (lowP ns w) 0 (i * w + w) (blankW ((ns.length * w : Nat) : Int))) from e) ?_
    rw [show i * w + w = (i + 1) * w from (Nat.succ_mul i w).symm]
    exact ih (i + 1) (by omega)
theorem impl_fields_ev {ns : List Int} {m w : Nat} (h : Nums ns m w) (ms : List Int) (hms : ms.length = ns.length) (hmv : ∀ i : Nat, i < ns.length → rd ms (i : Int) = (((rd ns (i : Int)).toNat % 2 ^ w : Nat) : Int)) : Ev (fun k => impl_fields.f k ms (w : Int)) (((ns.length * w : Nat) : Int), lowW ns w) := by
  have hlow := h.low
  unfold impl_fields.f
  have w1 : wrap64 ((ms.length : Int) * (w : Int)) = ((ns.length * w : Nat) : Int) := by
    have e : (ms.length : Int) * (w : Int) = ((ns.length * w : Nat) : Int) := by rw [hms]; simp
    rw [e]
    generalize ns.length * w = t at *
    exact w64 (by omega) (by omega)
  rw [w1, impl_blank_eq _ (Int.natCast_nonneg _) (by omega)]
  simp only [Option.bind_some]
  have e := impl_fields_l0 h ms hms hmv ((ns.length * w : Nat) : Int) ns.length 0 (by omega)
  rw [Nat.zero_mul] at e
  exact e
/-- How far the places are told behind so many numbers. -/
def upTo (ns : List Int) (w : Nat) : Nat → Nat
  | 0 => 0
  | i + 1 => hpos ns w i + 1
theorem upTo_le {ns : List Int} {m w : Nat} (h : Nums ns m w) {i : Nat} (hi : i < ns.length) : upTo ns w i ≤ hpos ns w i := by
  cases i with
  | zero => exact Nat.zero_le _
  | succ i => exact h.up (Nat.lt_succ_self i) hi
theorem hi_step {ns : List Int} {m w : Nat} (h : Nums ns m w) {i : Nat} (hi : i < ns.length) (b : List Int) : fromW (hiP ns w) 0 (hpos ns w i + 1) b = setW (fromW (hiP ns w) 0 (upTo ns w i) b) (hpos ns w i) := by
  have hu := upTo_le h hi
  rw [fromW_snoc, if_pos (hiP_true hi)]
  congr 1
  rw [show hpos ns w i = upTo ns w i + (hpos ns w i - upTo ns w i) from by omega, fromW_add, Nat.zero_add]
  refine fromW_none _ _ _ _ (fun j h1 h2 => ?_)
  cases hq : hiP ns w j with
  | false => rfl
  | true =>
    obtain ⟨t, ht, e⟩ := h.back hi hq (by omega)
    cases i with
    | zero => omega
    | succ i =>
      have : hpos ns w t ≤ hpos ns w i := by
        rcases Nat.lt_or_ge t i with c | c
        · exact Nat.le_of_lt (h.up c (by omega))
        · rw [show t = i from by omega]; exact Nat.le_refl _
      simp only [upTo] at h1
      omega
theorem hi_end {ns : List Int} {m w : Nat} (h : Nums ns m w) (b : List Int) : fromW (hiP ns w) 0 (hiN ns m w) b = fromW (hiP ns w) 0 (upTo ns w ns.length) b := by
  have hle : upTo ns w ns.length ≤ hiN ns m w := by
    cases hn : ns.length with
    | zero => exact Nat.zero_le _
    | succ n => exact h.pos (by omega)
  rw [show hiN ns m w = upTo ns w ns.length + (hiN ns m w - upTo ns w ns.length) from by omega, fromW_add, Nat.zero_add]
  refine fromW_none _ _ _ _ (fun j h1 h2 => ?_)
  cases hq : hiP ns w j with
  | false => rfl
  | true =>
    unfold hiP at hq
    rw [List.any_eq_true] at hq
    obtain ⟨t, ht, e⟩ := hq
    have ht' := List.mem_range.1 ht
    have e' : hpos ns w t = j := by simpa using e
    cases hn : ns.length with
    | zero => omega
    | succ n =>
      rw [hn] at h1
      simp only [upTo] at h1
      have : hpos ns w t ≤ hpos ns w n := by
        rcases Nat.lt_or_ge t n with c | c
        · exact Nat.le_of_lt (h.up c (by omega))
        · rw [show t = n from by omega]; exact Nat.le_refl _
      omega
theorem and_mask {x w : Nat} (hx : x ≤ 100000) (hw : w ≤ 17) : Go.bits .and .i64 (x : Int) (wrap64 ((shl .i64 1 (w : Int)) - 1)) = ((x % 2 ^ w : Nat) : Int) := by
  have hs1 : shl .i64 1 (w : Int) = ((2 ^ w : Nat) : Int) := by
    have e := shl_nat 1 w (by decide) (by omega)
    rw [Nat.one_mul] at e
    exact e
  have hp := Nat.two_pow_pos w
  have hle : 2 ^ w ≤ 2 ^ 17 := Nat.pow_le_pow_right (by decide) hw
  have e17 : (2 : Nat) ^ 17 = 131072 := by decide
  have w1 : wrap64 (((2 ^ w : Nat) : Int) - 1) = ((2 ^ w - 1 : Nat) : Int) := by
    generalize 2 ^ w = t at *
    rw [w64 (by omega) (by omega)]
    omega
  rw [hs1, w1, (bits_nat64 x (2 ^ w - 1) (by omega) (by omega)).1, Nat.and_two_pow_sub_one_eq_mod]
theorem impl_sparse_l0 {ns : List Int} {m w : Nat} (h : Nums ns m w) (d : Nat) : ∀ (i : Nat) (ms : List Int), i + d = ns.length → ms.length = i → (∀ j : Nat, j < i → rd ms (j : Int) = (((rd ns (j : Int)).toNat % 2 ^ w : Nat) : Int)) →
    Ev (fun k => impl_sparse.l0 k ns (m : Int) (w : Int) ms ns (ns.length : Int) (i : Int) ((hiN ns m w : Nat) : Int) (fromW (hiP ns w) 0 (upTo ns w i) (blankW ((hiN ns m w : Nat) : Int)))) (sparseV ns m w) := by
  have hw17 := h.w17
  have hhi := h.hi
  induction d with
  | zero =>
    intro i ms hi hms hmv
    obtain rfl : i = ns.length := by omega
    refine Ev.succ ?_
    have h1 : ¬ ((ns.length : Int) < (ns.length : Int)) := by omega
    simp only [impl_sparse.l0, h1, ↓reduceIte]
    refine Ev.bind (impl_fields_ev h ms hms hmv) ?_
    refine Ev.some_ ?_
    unfold sparseV hiW
    rw [hi_end h]
  | succ d ih =>
    intro i ms hi hms hmv
    have hin : i < ns.length := by omega
    have hr := h.range i hin
    have hpos_ := h.pos hin
    have hm2 := h.m2
    have hlen := h.len
    obtain ⟨x, hx⟩ := Int.eq_ofNat_of_zero_le hr.1
    have hxt : (rd ns (i : Int)).toNat = x := by rw [hx]; rfl
    have h1 : (i : Int) < (ns.length : Int) := by omega
    have h2 : (0 : Int) ≤ (i : Int) := by omega
    have h3 : (0 : Int) ≤ (w : Int) := by omega
    have h4 : ms.length < 17592186044416 := by omega
    have hw60 : w ≤ 60 := by omega
    have hx5 : x ≤ 100000 := by omega
    have w3 : wrap64 ((i : Int) + 1) = ((i + 1 : Nat) : Int) := by rw [w64 (by omega) (by omega)]; rfl
    have hu := upTo_le h hin
    have hL := (fromW_low (hiP ns w) (blankW ((hiN ns m w : Nat) : Int)) (blankW_low _) (upTo ns w i) (by rw [blankW_length]; omega)).mono hu
    have hs := impl_Bits_set_in26_0_eq ((hiN ns m w : Nat) : Int) _ (hpos ns w i) true hL (by rw [fromW_length, blankW_length]; omega) (by omega)
    have w2 : wrap64 (((x / 2 ^ w : Nat) : Int) + (i : Int)) = ((hpos ns w i : Nat) : Int) := add_wrap (show hpos ns w i = x / 2 ^ w + i from by unfold hpos; rw [hxt]) (Nat.le_trans (Nat.le_of_lt hpos_) (Nat.le_trans hhi (by decide)))
    have hmask := and_mask (x := x) (w := w) hx5 hw17
    have e6 := shr_nat x w hw60
    refine Ev.succ ?_
    simp only [impl_sparse.l0, h1, h2, h3, h4, hx, e6, w2, w3, hmask, hs, ↓reduceIte, Option.bind_some]
    clear e6 hmask
    rw [← hi_step h hin]
    have hv : ∀ j : Nat, j < i + 1 → rd (ms ++ [((x % 2 ^ w : Nat) : Int)]) (j : Int) = (((rd ns (j : Int)).toNat % 2 ^ w : Nat) : Int) := by
      intro j hj
      rcases Nat.lt_or_ge j i with c | c
      · rw [rd_snoc_lt ms _ (by rw [hms]; exact c)]
        exact hmv j c
      · have c' : j = i := Nat.le_antisymm (Nat.le_of_lt_succ hj) c
        rw [c', hxt]
        have e := rd_snoc ms ((x % 2 ^ w : Nat) : Int)
        rw [hms] at e
        exact e
    have e := ih (i + 1) (ms ++ [((x % 2 ^ w : Nat) : Int)]) (by rw [← hi, Nat.add_assoc, Nat.add_comm 1 d]) (by rw [List.length_append, hms]; rfl) hv
    rw [show upTo ns w (i + 1) = hpos ns w i + 1 from rfl] at e
    exact e
theorem impl_sparse_ev {ns : List Int} {m w : Nat} (h : Nums ns m w) : Ev (fun k => impl_sparse.f k ns (m : Int)) (sparseV ns m w) := by
  have hw17 := h.w17
  have hhi := h.hi
  have hlen := h.len
  have h1 := h.m1
  have h2 := h.m2
  unfold impl_sparse.f
  refine Ev.bind (impl_WidthFor_ev hlen h1 h2) ?_
  rw [← h.wid]
  have w2 : wrap64 ((m : Int) - 1) = ((m - 1 : Nat) : Int) := by rw [w64 (by omega) (by omega)]; omega
  have hw60 : w ≤ 60 := by omega
  have k2 : hiN ns m w ≤ 281474976710656 := by omega
  have hhi2 : hiN ns m w ≤ 1000000 := by omega
  have hhi3 : ns.length + (m - 1) / 2 ^ w ≤ 1000000 := Nat.le_trans (Nat.le_succ _) hhi2
  have w3 : wrap64 ((ns.length : Int) + (((m - 1) / 2 ^ w : Nat) : Int)) = ((ns.length + (m - 1) / 2 ^ w : Nat) : Int) := add_wrap rfl hhi3
  have w4 : wrap64 (((ns.length + (m - 1) / 2 ^ w : Nat) : Int) + 1) = ((hiN ns m w : Nat) : Int) := succ_wrap (show hiN ns m w = ns.length + (m - 1) / 2 ^ w + 1 from rfl) hhi2
  clear hhi3
  have e6 := shr_nat (m - 1) w hw60
  simp only [w2, e6, w3, w4, show (0 : Int) ≤ (w : Int) from Int.natCast_nonneg _, ↓reduceIte]
  clear e6
  rw [impl_blank_eq _ (Int.natCast_nonneg _) (by omega)]
  simp only [Option.bind_some]
  exact impl_sparse_l0 h ns.length 0 [] (by omega) rfl (fun j hj => absurd hj (by omega))
/-! ### the numbers of a Sparse -/
theorem or_add {q f w : Nat} (hf : f < 2 ^ w) (hb : 2 ^ w * q + f < 9223372036854775808) : Go.bits .or .i64 ((2 ^ w * q : Nat) : Int) (f : Int) = ((2 ^ w * q + f : Nat) : Int) := by
  rw [(bits_nat64 (2 ^ w * q) f (Nat.lt_of_le_of_lt (Nat.le_add_right _ _) hb) (Nat.lt_of_le_of_lt (Nat.le_add_left _ _) hb)).2.1, Nat.two_pow_add_eq_or_of_lt hf]
def fieldV (ws : List Int) (a : Nat) : Nat → Nat
  | 0 => 0
  | j + 1 => fieldV ws a j + (if bitV ws (a + j) = true then 2 ^ j else 0)
theorem fieldV_lt (ws : List Int) (a : Nat) (j : Nat) : fieldV ws a j < 2 ^ j := by
  induction j with
  | zero => exact Nat.one_pos
  | succ j ih =>
    unfold fieldV
    rw [Nat.pow_succ]
    split <;> omega
theorem spec_biField_l0 (n : Int) (ws : List Int) (hws : ∀ x ∈ ws, 0 ≤ x ∧ x ≤ 65535) (a : Nat) (ha : a ≤ 100000) (j : Nat) : ∀ x : Nat, j ≤ 20 → (∀ t, t < j → (a + t) / 16 < ws.length) → x * 2 ^ j + 2 ^ j ≤ 1048576 → Ev (fun k => spec_biField.l0 k (a : Int) (x : Int) ((j : Int) - 1) n ws) ((x * 2 ^ j + fieldV ws a j : Nat) : Int) := by
  induction j with
  | zero =>
    intro x _ _ _
    refine Ev.succ ?_
    have h1 : ¬ (((0 : Nat) : Int) - 1 ≥ 0) := by decide
    simp only [spec_biField.l0, h1, ↓reduceIte]
    exact Ev.some_ (by simp [fieldV])
  | succ j ih =>
    intro x hj hin hx
    have e1 : (((j + 1 : Nat) : Int) - 1) = (j : Int) := by omega
    have h1 : (j : Int) ≥ 0 := Int.natCast_nonneg _
    have w1 : wrap64 ((a : Int) + (j : Int)) = ((a + j : Nat) : Int) := add_wrap rfl (by omega)
    have w2 : wrap64 ((j : Int) - 1) = (j : Int) - 1 := w64 (by omega) (by omega)
    have hat := spec_biAt_eq n ws hws (a + j) (hin j (Nat.lt_succ_self j)) (by omega)
    have hpj := Nat.two_pow_pos j
    rw [Nat.pow_succ] at hx ⊢
    have hx2 : x ≤ 1048576 := by
      have h9 : x * 1 ≤ x * (2 ^ j * 2) := Nat.mul_le_mul_left _ (by omega)
      omega
    have w3 : wrap64 ((x : Int) * 2) = ((2 * x : Nat) : Int) := by rw [w64 (by omega) (by omega)]; omega
    have w4 : wrap64 (((2 * x : Nat) : Int) + 1) = ((2 * x + 1 : Nat) : Int) := by rw [w64 (by omega) (by omega)]; rfl
    have hm : x * (2 ^ j * 2) = 2 * x * 2 ^ j := by rw [Nat.mul_comm (2 ^ j) 2, ← Nat.mul_assoc, Nat.mul_comm x 2]
    rw [hm] at hx ⊢
    refine Ev.succ ?_
    simp only [spec_biField.l0, e1, h1, w1, w2, w3, hat, ↓reduceIte, Option.bind_some]
    unfold fieldV
    by_cases c : bitV ws (a + j) = true
    · simp only [c, ↓reduceIte, w4]
      have e := ih (2 * x + 1) (by omega) (fun t ht => hin t (by omega)) (by rw [Nat.add_mul]; omega)
      rw [show (2 * x + 1) * 2 ^ j + fieldV ws a j = 2 * x * 2 ^ j + (fieldV ws a j + 2 ^ j) from by rw [Nat.add_mul]; omega] at e
      exact e
    · simp only [c, ↓reduceIte, Bool.false_eq_true]
      have e := ih (2 * x) (by omega) (fun t ht => hin t (by omega)) (by omega)
      exact e
theorem spec_biField_ev (n : Int) (ws : List Int) (hws : ∀ x ∈ ws, 0 ≤ x ∧ x ≤ 65535) (a w : Nat) (ha : a ≤ 100000) (hw : w ≤ 17) (hin : ∀ t, t < w → (a + t) / 16 < ws.length) : Ev (fun k => spec_biField.f k n ws (a : Int) (w : Int)) ((fieldV ws a w : Nat) : Int) := by
  unfold spec_biField.f
  rw [w64 (n := (w : Int) - 1) (by omega) (by omega)]
  have hp : 2 ^ w ≤ 2 ^ 17 := Nat.pow_le_pow_right (by decide) hw
  have e17 : (2 : Nat) ^ 17 = 131072 := by decide
  have e := spec_biField_l0 n ws hws a ha w 0 (by omega) hin (by rw [Nat.zero_mul]; omega)
  rw [Nat.zero_mul, Nat.zero_add] at e
  exact e
theorem impl_at3_eq (a b c n : Int) (l : List Int) (d : Int) (l2 : List Int) (hl : ∀ x ∈ l, 0 ≤ x ∧ x ≤ 65535) (i : Nat) (hi : i / 16 < l.length) (hi2 : i ≤ 1000000) : impl_Bits_at_in28_3.f a b c n l d l2 (i : Int) = some (bitV l i) := by
  unfold impl_Bits_at_in28_3.f
  have e1 : Int.tdiv (i : Int) 16 = ((i / 16 : Nat) : Int) := by rw [tdiv_pos (by omega)]; rfl
  have e2 : Int.tmod (i : Int) 16 = ((i % 16 : Nat) : Int) := by rw [tmod_pos (by omega)]; rfl
  rw [e1, e2, w64 (n := ((i / 16 : Nat) : Int)) (by omega) (by omega), if_pos (by omega), if_pos (by omega), if_pos (by omega)]
  have hr := rd_range hl ((i / 16 : Nat) : Int)
  rw [and_one_bit hr.1 hr.2 (by omega) (by omega), Int.toNat_natCast]
  rfl
theorem impl_at5_eq (a b c n : Int) (l : List Int) (d : Int) (l2 : List Int) (hl : ∀ x ∈ l2, 0 ≤ x ∧ x ≤ 65535) (i : Nat) (hi : i / 16 < l2.length) (hi2 : i ≤ 1000000) : impl_Bits_at_in28_5.f a b c n l d l2 (i : Int) = some (bitV l2 i) := by
  unfold impl_Bits_at_in28_5.f
  have e1 : Int.tdiv (i : Int) 16 = ((i / 16 : Nat) : Int) := by rw [tdiv_pos (by omega)]; rfl
  have e2 : Int.tmod (i : Int) 16 = ((i % 16 : Nat) : Int) := by rw [tmod_pos (by omega)]; rfl
  rw [e1, e2, w64 (n := ((i / 16 : Nat) : Int)) (by omega) (by omega), if_pos (by omega), if_pos (by omega), if_pos (by omega)]
  have hr := rd_range hl ((i / 16 : Nat) : Int)
  rw [and_one_bit hr.1 hr.2 (by omega) (by omega), Int.toNat_natCast]
  rfl
theorem impl_field_l0 (c0 c1 c2 n : Int) (ws : List Int) (n5 : Int) (w6 : List Int) (hws : ∀ x ∈ ws, 0 ≤ x ∧ x ≤ 65535) (a w : Nat) (ha : a ≤ 100000) (hw : w ≤ 17) (hin : ∀ t, t < w → (a + t) / 16 < ws.length) (d : Nat) : ∀ j : Nat, j + d = w →
    Ev (fun k => impl_Bits_field_in28_3.l0 k (a : Int) ((fieldV ws a j : Nat) : Int) (w : Int) (j : Int) c0 c1 c2 n ws n5 w6) ((fieldV ws a w : Nat) : Int) := by
  induction d with
  | zero =>
    intro j hj
    obtain rfl : j = w := by omega
    refine Ev.succ ?_
    have h1 : ¬ ((j : Int) < (j : Int)) := by omega
    simp only [impl_Bits_field_in28_3.l0, h1, ↓reduceIte]
    exact Ev.now _
  | succ d ih =>
    intro j hj
    have hjw : j < w := by omega
    have h1 : (j : Int) < (w : Int) := by omega
    have h2 : (0 : Int) ≤ (j : Int) := by omega
    have w1 : wrap64 ((a : Int) + (j : Int)) = ((a + j : Nat) : Int) := add_wrap rfl (by omega)
    have w2 : wrap64 ((j : Int) + 1) = ((j + 1 : Nat) : Int) := succ_wrap rfl (by omega)
    have hat := impl_at3_eq c0 c1 c2 n ws n5 w6 hws (a + j) (hin j hjw) (by omega)
    have hs1 : shl .i64 1 (j : Int) = ((2 ^ j : Nat) : Int) := by
      have e := shl_nat 1 j (by decide) (by omega)
      rw [Nat.one_mul] at e
      exact e
    have hlt := fieldV_lt ws a j
    have hp : 2 ^ j ≤ 2 ^ 17 := Nat.pow_le_pow_right (by decide) (by omega)
    have e17 : (2 : Nat) ^ 17 = 131072 := by decide
    have ho : Go.bits .or .i64 ((fieldV ws a j : Nat) : Int) ((2 ^ j : Nat) : Int) = ((fieldV ws a j + 2 ^ j : Nat) : Int) := by
      have e := (bits_nat64 (fieldV ws a j) (2 ^ j) (by omega) (by omega)).2.1
      have e2 := Nat.two_pow_add_eq_or_of_lt hlt 1
      rw [Nat.mul_one] at e2
      rw [e, Nat.or_comm, ← e2, Nat.add_comm]
    have e := ih (j + 1) (by omega)
    refine Ev.succ ?_
    simp only [impl_Bits_field_in28_3.l0, h1, h2, w1, w2, hat, hs1, ↓reduceIte, Option.bind_some]
    rw [show fieldV ws a (j + 1) = fieldV ws a j + (if bitV ws (a + j) = true then 2 ^ j else 0) from rfl] at e
    by_cases c : bitV ws (a + j) = true
    · simp only [c, ↓reduceIte, ho] at e ⊢
      exact e
    · simp only [c, ↓reduceIte, Bool.false_eq_true, Nat.add_zero] at e ⊢
      exact e
theorem impl_field_ev (c0 c1 c2 n : Int) (ws : List Int) (n5 : Int) (w6 : List Int) (hws : ∀ x ∈ ws, 0 ≤ x ∧ x ≤ 65535) (a w : Nat) (ha : a ≤ 100000) (hw : w ≤ 17) (hin : ∀ t, t < w → (a + t) / 16 < ws.length) : Ev (fun k => impl_Bits_field_in28_3.f k c0 c1 c2 n ws n5 w6 (a : Int) (w : Int)) ((fieldV ws a w : Nat) : Int) := impl_field_l0 c0 c1 c2 n ws n5 w6 hws a w ha hw hin w 0 (by omega)
/-- The number told by the place p of the i-th one. -/
def numV (lw : List Int) (w p i : Nat) : Nat := 2 ^ w * (p - i) + fieldV lw (i * w) w
def decV (hw lw : List Int) (c w : Nat) : Nat → Nat → List Int → List Int
  | 0, _, acc => acc
  | d + 1, p, acc => decV hw lw c w d (p + 1) (if bitV hw p = true ∧ acc.length < c then acc ++ [((numV lw w p acc.length : Nat) : Int)] else acc)
theorem decV_full (hw lw : List Int) (c w : Nat) (d : Nat) : ∀ (p : Nat) (acc : List Int), c ≤ acc.length → decV hw lw c w d p acc = acc := by
  induction d with
  | zero => intro p acc _; rfl
  | succ d ih =>
    intro p acc h
    rw [decV, if_neg (by omega)]
    exact ih (p + 1) acc h
theorem decV_len (hw lw : List Int) (c w : Nat) (d : Nat) : ∀ (p : Nat) (acc : List Int), acc.length ≤ c → (decV hw lw c w d p acc).length ≤ c := by
  induction d with
  | zero => intro p acc h; exact h
  | succ d ih =>
    intro p acc h
    rw [decV]
    refine ih (p + 1) _ ?_
    split
    · rw [List.length_append, List.length_singleton]; omega
    · exact h
/-- What is known of a Sparse whose vectors are right. -/
structure Vecs (c w : Nat) (ls : Int) (lw : List Int) (hs : Nat) (hw : List Int) : Prop where
  c60 : c ≤ 60
  w17 : w ≤ 17
  lsz : ls = ((c * w : Nat) : Int)
  llen : c * w ≤ 16 * lw.length
  lval : ∀ x ∈ lw, 0 ≤ x ∧ x ≤ 65535
  hsz : hs ≤ 4096
  hlen : hs ≤ 16 * hw.length
  hval : ∀ x ∈ hw, 0 ≤ x ∧ x ≤ 65535
theorem Vecs.field {c w : Nat} {ls : Int} {lw : List Int} {hs : Nat} {hw : List Int} (h : Vecs c w ls lw hs hw) {i : Nat} (hi : i < c) : (i * w ≤ 100000) ∧ ∀ t, t < w → (i * w + t) / 16 < lw.length := by
  have h1 : i * w + w ≤ c * w := by rw [← Nat.succ_mul]; exact Nat.mul_le_mul_right _ hi
  have h2 : c * w ≤ 60 * 17 := Nat.mul_le_mul h.c60 h.w17
  have h3 := h.llen
  exact ⟨by omega, fun t ht => by omega⟩
theorem num_lt {lw : List Int} {w p i : Nat} (hw : w ≤ 17) (hp : p ≤ 4096) : numV lw w p i < 2000000000 ∧ 2 ^ w * (p - i) + fieldV lw (i * w) w < 2000000000 := by
  have hl := fieldV_lt lw (i * w) w
  have hp2 : 2 ^ w ≤ 2 ^ 17 := Nat.pow_le_pow_right (by decide) hw
  have e17 : (2 : Nat) ^ 17 = 131072 := by decide
  have h2 : 2 ^ w * (p - i) ≤ 131072 * 4096 := Nat.mul_le_mul (by omega) (by omega)
  have h3 : 2 ^ w * (p - i) + fieldV lw (i * w) w < 2000000000 := by
    generalize 2 ^ w * (p - i) = y at *
    omega
  exact ⟨h3, h3⟩
theorem spec_spList_l0 {c w : Nat} {ls : Int} {lw : List Int} {hs : Nat} {hw : List Int} (h : Vecs c w ls lw hs hw) (lim : Int) (d : Nat) : ∀ (p : Nat) (acc : List Int), p + d = hs → acc.length ≤ p → acc.length ≤ c → Ev (fun k => spec_spList.l0 k acc (p : Int) (c : Int) lim (w : Int) ls lw (hs : Int) hw) (decV hw lw c w d p acc) := by
  induction d with
  | zero =>
    intro p acc hp _ _
    have h1 : ¬ ((p : Int) < (hs : Int)) := by omega
    refine Ev.succ ?_
    simp only [spec_spList.l0, h1, ↓reduceIte]
    refine Ev.succ ?_
    simp only [spec_spList.j1, Bool.false_eq_true, ↓reduceIte]
    exact Ev.now _
  | succ d ih =>
    intro p acc hp hap hac
    have hsz := h.hsz
    have h1 : (p : Int) < (hs : Int) := by omega
    refine Ev.succ ?_
    simp only [spec_spList.l0, h1, ↓reduceIte]
    refine Ev.succ ?_
    by_cases g : acc.length < c
    · have g' : ((acc.length : Int) < (c : Int)) := by omega
      have hat := spec_biAt_eq (hs : Int) hw h.hval p (by have := h.hlen; omega) (by omega)
      have w2 : wrap64 ((p : Int) + 1) = ((p + 1 : Nat) : Int) := succ_wrap rfl (by omega)
      simp only [spec_spList.j1, g', decide_true, ↓reduceIte, hat, Option.bind_some]
      by_cases b : bitV hw p = true
      · have hF := h.field g
        have h17 := h.w17
        have h60 := h.c60
        have w1 : wrap64 ((acc.length : Int) * (w : Int)) = ((acc.length * w : Nat) : Int) := by
          have e : (acc.length : Int) * (w : Int) = ((acc.length * w : Nat) : Int) := by simp
          have h9 := hF.1
          rw [e]
          generalize acc.length * w = t at *
          exact w64 (by omega) (by omega)
        have w3 : wrap64 ((p : Int) - (acc.length : Int)) = ((p - acc.length : Nat) : Int) := by rw [w64 (by omega) (by omega)]; omega
        have hs1 := shl_nat (p - acc.length) w (by omega) (by omega)
        have hn := (num_lt (lw := lw) (i := acc.length) h17 (show p ≤ 4096 by omega)).2
        have w4 : wrap64 ((((p - acc.length) * 2 ^ w : Nat) : Int) + ((fieldV lw (acc.length * w) w : Nat) : Int)) = ((numV lw w p acc.length : Nat) : Int) := by
          unfold numV
          rw [Nat.mul_comm (p - acc.length)]
          generalize 2 ^ w * (p - acc.length) = y at *
          rw [w64 (by omega) (by omega)]
          rfl
        have h3 : (0 : Int) ≤ (w : Int) := Int.natCast_nonneg _
        have h4 : acc.length < 17592186044416 := by omega
        simp only [b, ↓reduceIte, h3, w1]
        refine Ev.bind (spec_biField_ev ls lw h.lval (acc.length * w) w hF.1 h17 hF.2) ?_
        simp only [h4, w3, hs1, w4, w2, ↓reduceIte]
        have e := ih (p + 1) (acc ++ [((numV lw w p acc.length : Nat) : Int)]) (by omega) (by rw [List.length_append, List.length_singleton]; omega) (by rw [List.length_append, List.length_singleton]; omega)
        rw [decV, if_pos ⟨b, g⟩]
        exact e
      · simp only [b, ↓reduceIte, w2, Bool.false_eq_true]
        have e := ih (p + 1) acc (by omega) (by omega) hac
        rw [decV, if_neg (fun q => b q.1)]
        exact e
    · have g' : ¬ ((acc.length : Int) < (c : Int)) := by omega
      simp only [spec_spList.j1, g', decide_false, Bool.false_eq_true, ↓reduceIte]
      rw [decV_full hw lw c w (d + 1) p acc (by omega)]
      exact Ev.now _
theorem spec_spList_ev {c w : Nat} {ls : Int} {lw : List Int} {hs : Nat} {hw : List Int} (h : Vecs c w ls lw hs hw) (lim : Int) : Ev (fun k => spec_spList.f k (c : Int) lim (w : Int) ls lw (hs : Int) hw) (decV hw lw c w hs 0 []) := spec_spList_l0 h lim hs 0 [] (by omega) (Nat.le_refl _) (Nat.zero_le _)
/-- What the program does behind its loop. -/
theorem impl_numbers_l0 {c w : Nat} {ls : Int} {lw : List Int} {hs : Nat} {hw : List Int} (h : Vecs c w ls lw hs hw) (lim : Int) {r : List Int × Bool} (hend : Ev (fun k => impl_Sparse_numbers_in28_0.l0 k (w : Int) (decV hw lw c w hs 0 []) (hs : Int) (hs : Int) (c : Int) lim (w : Int) ls lw (hs : Int) hw) r) (d : Nat) : ∀ (p : Nat) (acc : List Int), p + d = hs → acc.length ≤ p → acc.length ≤ c → decV hw lw c w d p acc = decV hw lw c w hs 0 [] → Ev (fun k => impl_Sparse_numbers_in28_0.l0 k (w : Int) acc (hs : Int) (p : Int) (c : Int) lim (w : Int) ls lw (hs : Int) hw) r := by
  induction d with
  | zero =>
    intro p acc hp _ _ he
    obtain rfl : p = hs := by omega
    rw [decV] at he
    rw [he]
    exact hend
  | succ d ih =>
    intro p acc hp hap hac he
    have hsz := h.hsz
    have h1 : (p : Int) < (hs : Int) := by omega
    have hat := impl_at5_eq (c : Int) lim (w : Int) ls lw (hs : Int) hw h.hval p (by have := h.hlen; omega) (by omega)
    have w2 : wrap64 ((p : Int) + 1) = ((p + 1 : Nat) : Int) := succ_wrap rfl (by omega)
    refine Ev.succ ?_
    simp only [impl_Sparse_numbers_in28_0.l0, h1, ↓reduceIte, hat, Option.bind_some]
    rw [decV] at he
    by_cases b : bitV hw p = true
    · by_cases g : acc.length < c
      · have g' : ((acc.length : Int) < (c : Int)) := by omega
        have hF := h.field g
        have h17 := h.w17
        have h60 := h.c60
        have w1 : wrap64 ((acc.length : Int) * (w : Int)) = ((acc.length * w : Nat) : Int) := by
          have e : (acc.length : Int) * (w : Int) = ((acc.length * w : Nat) : Int) := by simp
          have h9 := hF.1
          rw [e]
          generalize acc.length * w = t at *
          exact w64 (by omega) (by omega)
        have w3 : wrap64 ((p : Int) - (acc.length : Int)) = ((p - acc.length : Nat) : Int) := by rw [w64 (by omega) (by omega)]; omega
        have hs1 := shl_nat (p - acc.length) w (by omega) (by omega)
        rw [Nat.mul_comm (p - acc.length)] at hs1
        have hn := (num_lt (lw := lw) (i := acc.length) h17 (show p ≤ 4096 by omega)).2
        have ho : Go.bits .or .i64 ((2 ^ w * (p - acc.length) : Nat) : Int) ((fieldV lw (acc.length * w) w : Nat) : Int) = ((numV lw w p acc.length : Nat) : Int) := or_add (fieldV_lt lw (acc.length * w) w) (Nat.lt_trans hn (by decide))
        have h3 : (0 : Int) ≤ (w : Int) := Int.natCast_nonneg _
        have h4 : acc.length < 17592186044416 := by omega
        rw [if_pos ⟨b, g⟩] at he
        simp only [b, g', ↓reduceIte, h3, w1]
        refine Ev.bind (impl_field_ev (c : Int) lim (w : Int) ls lw (hs : Int) hw h.lval (acc.length * w) w hF.1 h17 hF.2) ?_
        simp only [h4, w3, hs1, ho, w2, ↓reduceIte]
        exact ih (p + 1) _ (by omega) (by rw [List.length_append, List.length_singleton]; omega) (by rw [List.length_append, List.length_singleton]; omega) he
      · have g' : ¬ ((acc.length : Int) < (c : Int)) := by omega
        rw [if_neg (fun q => g q.2)] at he
        simp only [b, g', ↓reduceIte, w2]
        exact ih (p + 1) acc (by omega) (by omega) hac he
    · rw [if_neg (fun q => b q.1)] at he
      simp only [b, ↓reduceIte, w2, Bool.false_eq_true]
      exact ih (p + 1) acc (by omega) (by omega) hac he
theorem impl_IsBits_l0 (n : Int) (l : List Int) (hn0 : 0 ≤ n) (hn1 : n ≤ 4096) (hl : (l.length : Int) = (n + 15) / 16) : Ev (fun k => impl_IsBits.l0 k l (l.length : Int) 0 n l) (l.all (inB 0 65535) && lastOk n l) := by
  have h := Ev.up (L := fun k i => impl_IsBits.l0 k l (l.length : Int) (i : Int) n l) (r := fun i => (l.drop i).all (inB 0 65535) && lastOk n l) l.length ?_ ?_ 0 (Nat.zero_le _)
  · exact h
  · refine Ev.succ ?_
    have h1 : ¬ ((l.length : Int) < (l.length : Int)) := by omega
    simp only [impl_IsBits.l0, h1, ↓reduceIte, List.drop_length, List.all_nil, Bool.true_and, lastOk, tmod_pos hn0]
    by_cases h2 : n % 16 = 0
    · simp only [h2, ↓reduceIte, decide_true, Bool.true_or]
      exact Ev.now _
    · have e2 : wrap64 ((l.length : Int) - 1) = (l.length : Int) - 1 := w64 (by omega) (by omega)
      simp only [h2, ↓reduceIte, decide_false, Bool.false_or, e2, show 0 ≤ (l.length : Int) - 1 from by omega, show (l.length : Int) - 1 < (l.length : Int) from by omega, show 0 ≤ n % 16 from by omega]
      exact Ev.now _
  · intro i hi ih
    refine Ev.succ ?_
    have h1 : (i : Int) < (l.length : Int) := by omega
    have h2 : (0 : Int) ≤ (i : Int) := by omega
    have hw : wrap64 ((i : Int) + 1) = ((i + 1 : Nat) : Int) := by rw [w64 (by omega) (by omega)]; rfl
    simp only [impl_IsBits.l0, h1, h2, ↓reduceIte, hw, impl_in_eq, Option.bind_some]
    rw [drop_cons _ _ hi, List.all_cons, ← rd_nat _ _ hi]
    by_cases c : 0 ≤ rd l (i : Int) ∧ rd l (i : Int) ≤ 65535
    · have c2 : inB 0 65535 (rd l (i : Int)) = true := by simp [inB, c]
      simp only [c, and_self, decide_true, ↓reduceIte, c2, Bool.true_and]
      exact ih
    · have c2 : inB 0 65535 (rd l (i : Int)) = false := by simp [inB]; omega
      simp only [c, decide_false, Bool.false_eq_true, ↓reduceIte, c2, Bool.false_and]
      exact Ev.now _
theorem impl_IsBits_ev (n : Int) (l : List Int) (hl : l.length ≤ 9223372036854775807) : Ev (fun k => impl_IsBits.f k n l) (goodBits n l) := by
  unfold goodBits
  by_cases h0 : 0 ≤ n ∧ n ≤ 4096
  · have e0 : inB 0 4096 n = true := by simp [inB, h0]
    simp only [impl_IsBits.f, impl_in_eq, h0, and_self, decide_true, Option.bind_some, ↓reduceIte, e0, Bool.true_and, impl_words_eq n h0.1 (by omega)]
    refine Ev.succ ?_
    by_cases h1 : (l.length : Int) = (n + 15) / 16
    · simp only [impl_IsBits.j0, h1, bne_self_eq_false, Bool.false_eq_true, ↓reduceIte, decide_true, Bool.true_and]
      rw [← h1]
      exact impl_IsBits_l0 n l h0.1 h0.2 h1
    · have e2 : ((l.length : Int) != (n + 15) / 16) = true := by simp [h1]
      simp only [impl_IsBits.j0, e2, ↓reduceIte, h1, decide_false, Bool.false_and]
      exact Ev.now _
  · have e0 : inB 0 4096 n = false := by simp [inB]; omega
    simp only [impl_IsBits.f, impl_in_eq, h0, decide_false, Option.bind_some, ↓reduceIte, e0, Bool.false_and, Bool.false_eq_true]
    refine Ev.succ ?_
    simp only [impl_IsBits.j0, ↓reduceIte]
    exact Ev.now _
theorem spec_l1All_ev (l : List Int) (a b : Int) (hl : l.length ≤ 9223372036854775807) : Ev (fun k => spec_l1All.f k l a b) (l.all (inB a b)) := by
  have h := Ev.up (L := fun k i => spec_l1All.l0 k a b l (l.length : Int) (i : Int)) (r := fun i => (l.drop i).all (inB a b)) l.length ?_ ?_ 0 (Nat.zero_le _)
  · exact h
  · refine Ev.succ ?_
    have h1 : ¬ ((l.length : Int) < (l.length : Int)) := by omega
    simp only [spec_l1All.l0, h1, ↓reduceIte]
    exact Ev.some_ (by simp)
  · intro i hi ih
    refine Ev.succ ?_
    have h1 : (i : Int) < (l.length : Int) := by omega
    have h2 : (0 : Int) ≤ (i : Int) := by omega
    have hw : wrap64 ((i : Int) + 1) = ((i + 1 : Nat) : Int) := by rw [w64 (by omega) (by omega)]; rfl
    simp only [spec_l1All.l0, h1, h2, ↓reduceIte, hw, spec_l1In_eq, Option.bind_some]
    rw [drop_cons _ _ hi, List.all_cons, ← rd_nat _ _ hi]
    by_cases c : a ≤ rd l (i : Int) ∧ rd l (i : Int) ≤ b
    · have c2 : inB a b (rd l (i : Int)) = true := by simp [inB, c]
      simp only [c, and_self, decide_true, ↓reduceIte, c2, Bool.true_and]
      exact ih
    · have c2 : inB a b (rd l (i : Int)) = false := by simp [inB]; omega
      simp only [c, decide_false, Bool.false_eq_true, ↓reduceIte, c2, Bool.false_and]
      exact Ev.now _
theorem spec_biGood_ev (n : Int) (l : List Int) (hl : l.length ≤ 9223372036854775807) : Ev (fun k => spec_biGood.f k n l) (goodBits n l) := by
  unfold goodBits
  by_cases h0 : 0 ≤ n ∧ n ≤ 4096
  · have e0 : inB 0 4096 n = true := by simp [inB, h0]
    have e1 : wrap64 (Int.tdiv (wrap64 (n + 15)) 16) = (n + 15) / 16 := by rw [w64 (n := n + 15) (by omega) (by omega), tdiv_pos (by omega), w64 (by omega) (by omega)]
    simp only [spec_biGood.f, spec_l1In_eq, h0, and_self, decide_true, Option.bind_some, ↓reduceIte, e0, e1, Bool.true_and]
    by_cases h1 : (l.length : Int) = (n + 15) / 16
    · simp only [h1, ↓reduceIte, decide_true, Bool.true_and]
      refine Ev.bind (spec_l1All_ev l 0 65535 hl) ?_
      cases l.all (inB 0 65535) with
      | false =>
        simp only [Bool.false_eq_true, ↓reduceIte, Bool.false_and]
        exact Ev.now _
      | true =>
        simp only [↓reduceIte, Bool.true_and, lastOk, tmod_pos h0.1, h1]
        by_cases h2 : n % 16 = 0
        · simp only [h2, ↓reduceIte, decide_true, Bool.true_or]
          exact Ev.now _
        · have e2 : wrap64 ((n + 15) / 16 - 1) = (n + 15) / 16 - 1 := w64 (by omega) (by omega)
          simp only [h2, ↓reduceIte, decide_false, Bool.false_or, e2, show 0 ≤ (n + 15) / 16 - 1 from by omega, show (n + 15) / 16 - 1 < (n + 15) / 16 from by omega, show 0 ≤ n % 16 from by omega]
          exact Ev.now _
    · simp only [h1, ↓reduceIte, decide_false, Bool.false_and]
      exact Ev.now _
  · have e0 : inB 0 4096 n = false := by simp [inB]; omega
    simp only [spec_biGood.f, spec_l1In_eq, h0, decide_false, Option.bind_some, ↓reduceIte, e0, Bool.false_and, Bool.false_eq_true]
    exact Ev.now _
theorem nums_of {l : List Int} {m : Nat} (h : sortedV l (m : Int) = true) : Nums l m (widthV l.length m) := by
  obtain ⟨h1, h2, h3⟩ := sortedV_of h
  refine ⟨h1, by omega, by omega, rfl, fun i hi => (h3 i hi).1, ?_⟩
  intro i j hij hj
  obtain ⟨d, rfl⟩ : ∃ d, j = i + d := ⟨j - i, by omega⟩
  clear hij
  induction d with
  | zero => exact Int.le_refl _
  | succ d ih =>
    have e := (h3 (i + (d + 1)) hj).2 (by omega)
    rw [show i + (d + 1) - 1 = i + d from by omega] at e
    exact Int.le_trans (ih (by omega)) e
theorem slices_Equal_l0 (l1 l2 : List Int) (he : l1.length = l2.length) (hl : l1.length ≤ 9223372036854775807) (d : Nat) : ∀ i : Nat, i + d = l1.length → Ev (fun k => slices_Equal_int_int.l0 k l1 l2 (l1.length : Int) (i : Int)) (decide (l1.drop i = l2.drop i)) := by
  induction d with
  | zero =>
    intro i hi
    have h1 : ¬ ((i : Int) < (l1.length : Int)) := by omega
    refine Ev.succ ?_
    simp only [slices_Equal_int_int.l0, h1, ↓reduceIte]
    rw [List.drop_of_length_le (by omega), List.drop_of_length_le (by omega)]
    exact Ev.now _
  | succ d ih =>
    intro i hi
    have hi1 : i < l1.length := by omega
    have hi2 : i < l2.length := by omega
    have h1 : (i : Int) < (l1.length : Int) := by omega
    have h2 : (0 : Int) ≤ (i : Int) := by omega
    have h3 : (i : Int) < (l2.length : Int) := by omega
    have hw : wrap64 ((i : Int) + 1) = ((i + 1 : Nat) : Int) := by rw [w64 (by omega) (by omega)]; rfl
    refine Ev.succ ?_
    simp only [slices_Equal_int_int.l0, h1, h2, h3, ↓reduceIte, hw, rd_nat l1 i hi1, rd_nat l2 i hi2]
    rw [drop_cons l1 i hi1, drop_cons l2 i hi2]
    by_cases c : l1[i] = l2[i]
    · have e := ih (i + 1) (by omega)
      simp only [c, ↓reduceIte, List.cons.injEq, true_and]
      exact e
    · simp only [c, ↓reduceIte, List.cons.injEq, false_and, decide_false]
      exact Ev.now _
theorem impl_sameBits_ev (a b : Int) (l1 l2 : List Int) (hl : l1.length ≤ 9223372036854775807) : Ev (fun k => impl_sameBits.f k a l1 b l2) (decide (a = b) && decide (l1 = l2)) := by
  unfold impl_sameBits.f slices_Equal_int_int.f
  by_cases c : a = b
  · simp only [c, ↓reduceIte, decide_true, Bool.true_and]
    by_cases g : l1.length = l2.length
    · have g' : (l1.length : Int) = (l2.length : Int) := by omega
      simp only [g', ↓reduceIte]
      have e := slices_Equal_l0 l1 l2 g hl l1.length 0 (by omega)
      rw [List.drop_zero, List.drop_zero] at e
      rw [g'] at e
      exact Ev.bind e (Ev.now _)
    · have g' : ¬ ((l1.length : Int) = (l2.length : Int)) := by omega
      have n : ¬ (l1 = l2) := fun e => g (by rw [e])
      simp only [g', ↓reduceIte, n, decide_false, Option.bind_some]
      exact Ev.now _
  · simp only [c, ↓reduceIte, decide_false, Bool.false_and]
    exact Ev.now _
theorem spec_l1Same_l0 (l1 l2 : List Int) (he : l1.length = l2.length) (hl : l1.length ≤ 9223372036854775807) (d : Nat) : ∀ i : Nat, i + d = l1.length → Ev (fun k => spec_l1Same.l0 k l1 l2 (l1.length : Int) (i : Int)) (decide (l1.drop i = l2.drop i)) := by
  induction d with
  | zero =>
    intro i hi
    have h1 : ¬ ((i : Int) < (l1.length : Int)) := by omega
    refine Ev.succ ?_
    simp only [spec_l1Same.l0, h1, ↓reduceIte]
    rw [List.drop_of_length_le (by omega), List.drop_of_length_le (by omega)]
    exact Ev.now _
  | succ d ih =>
    intro i hi
    have hi1 : i < l1.length := by omega
    have hi2 : i < l2.length := by omega
    have h1 : (i : Int) < (l1.length : Int) := by omega
    have h2 : (0 : Int) ≤ (i : Int) := by omega
    have h3 : (i : Int) < (l2.length : Int) := by omega
    have hw : wrap64 ((i : Int) + 1) = ((i + 1 : Nat) : Int) := by rw [w64 (by omega) (by omega)]; rfl
    refine Ev.succ ?_
    simp only [spec_l1Same.l0, h1, h2, h3, ↓reduceIte, hw, rd_nat l1 i hi1, rd_nat l2 i hi2]
    rw [drop_cons l1 i hi1, drop_cons l2 i hi2]
    by_cases c : l1[i] = l2[i]
    · have e := ih (i + 1) (by omega)
      simp only [c, ↓reduceIte, List.cons.injEq, true_and]
      exact e
    · simp only [c, ↓reduceIte, List.cons.injEq, false_and, decide_false]
      exact Ev.now _
theorem spec_biSame_ev (a b : Int) (l1 l2 : List Int) (hl : l1.length ≤ 9223372036854775807) : Ev (fun k => spec_biSame.f k a l1 b l2) (decide (a = b) && decide (l1 = l2)) := by
  unfold spec_biSame.f spec_l1Same.f
  by_cases c : a = b
  · simp only [c, ↓reduceIte, decide_true, Bool.true_and]
    by_cases g : l1.length = l2.length
    · have g' : (l1.length : Int) = (l2.length : Int) := by omega
      simp only [g', ↓reduceIte]
      have e := spec_l1Same_l0 l1 l2 g hl l1.length 0 (by omega)
      rw [List.drop_zero, List.drop_zero] at e
      rw [g'] at e
      exact Ev.bind e (Ev.now _)
    · have g' : ¬ ((l1.length : Int) = (l2.length : Int)) := by omega
      have n : ¬ (l1 = l2) := fun e => g (by rw [e])
      simp only [g', ↓reduceIte, n, decide_false, Option.bind_some]
      exact Ev.now _
  · simp only [c, ↓reduceIte, decide_false, Bool.false_and]
    exact Ev.now _
/-- What is asked ahead of the numbers, and of them. -/
def condS (c lim w ls : Int) (lw : List Int) (hs : Int) (hw : List Int) : Bool := decide ((0 ≤ c ∧ c ≤ 60) ∧ 1 ≤ lim ∧ lim ≤ 100000) && (decide (((widthV c.toNat lim.toNat : Nat) : Int) = w) && (goodBits ls lw && (goodBits hs hw && decide (ls = w * c))))
def listS (c w : Int) (lw : List Int) (hs : Int) (hw : List Int) : List Int := decV hw lw c.toNat w.toNat hs.toNat 0 []
def finS (c lim w : Int) (lw : List Int) (hs : Int) (hw : List Int) (l : List Int) : Bool := decide ((l.length : Int) = c) && (sortedV l lim && (decide (lowW l w.toNat = lw) && (decide (((hiN l lim.toNat w.toNat : Nat) : Int) = hs) && decide (hiW l lim.toNat w.toNat = hw))))
def goodS (c lim w ls : Int) (lw : List Int) (hs : Int) (hw : List Int) : Bool := condS c lim w ls lw hs hw && finS c lim w lw hs hw (listS c w lw hs hw)
theorem impl_numbers_bad (k0 : Int) (c lim w ls : Int) (lw : List Int) (hs : Int) (hw : List Int) : Ev (fun k => impl_Sparse_numbers_in28_0.j0 k k0 true c lim w ls lw hs hw) ([], false) := by
  refine Ev.succ ?_
  simp only [impl_Sparse_numbers_in28_0.j0, ↓reduceIte]
  exact Ev.now _
theorem impl_numbers_fin {c m w : Nat} {ls : Int} {lw : List Int} {hs : Nat} {hw : List Int} (hv : Vecs c w ls lw hs hw) (hww : widthV c m = w) (hm : m ≤ 100000) (l : List Int) (hl : l.length ≤ c) : ∃ r, Ev (fun k => impl_Sparse_numbers_in28_0.l0 k (w : Int) l (hs : Int) (hs : Int) (c : Int) (m : Int) (w : Int) ls lw (hs : Int) hw) r ∧ r.2 = finS c m w lw hs hw l ∧ (r.2 = true → r.1 = l) := by
  have h60 := hv.c60
  have h1 : ¬ ((hs : Int) < (hs : Int)) := by omega
  unfold finS
  by_cases g : (l.length : Int) = (c : Int)
  · have hs_ := impl_sortedOk_ev l (m : Int) (by omega) (by omega)
    cases hso : sortedV l (m : Int) with
    | false =>
      refine ⟨([], false), Ev.succ ?_, by simp [g], by simp⟩
      simp only [impl_Sparse_numbers_in28_0.l0, h1, g, ↓reduceIte]
      refine Ev.bind hs_ ?_
      rw [hso]
      refine Ev.succ ?_
      simp only [impl_Sparse_numbers_in28_0.j2, Bool.not_false, ↓reduceIte]
      exact Ev.now _
    | true =>
      have hn := nums_of hso
      rw [show l.length = c from by omega, hww] at hn
      have hsp := impl_sparse_ev hn
      have hls : ((l.length * w : Nat) : Int) = ls := by rw [hv.lsz, show l.length = c from by omega]
      have hb1 := impl_sameBits_ev ((l.length * w : Nat) : Int) ls (lowW l w) lw (by unfold lowW; rw [fromW_length, blankW_length]; have := hn.low; omega)
      have hb2 := impl_sameBits_ev ((hiN l m w : Nat) : Int) (hs : Int) (hiW l m w) hw (by unfold hiW; rw [fromW_length, blankW_length]; have := hn.hi; omega)
      rw [decide_eq_true hls, Bool.true_and] at hb1
      simp only [g, decide_true, Bool.true_and, Int.toNat_natCast]
      cases hlo : decide (lowW l w = lw) with
      | false =>
        refine ⟨(l, false), Ev.succ ?_, rfl, by simp⟩
        simp only [impl_Sparse_numbers_in28_0.l0, h1, g, ↓reduceIte]
        refine Ev.bind hs_ ?_
        rw [hso]
        refine Ev.succ ?_
        simp only [impl_Sparse_numbers_in28_0.j2, Bool.not_true, Bool.false_eq_true, ↓reduceIte]
        refine Ev.bind hsp ?_
        refine Ev.bind hb1 ?_
        rw [hlo]
        simp only [Bool.false_eq_true, ↓reduceIte]
        exact Ev.now _
      | true =>
        refine ⟨(l, decide (((hiN l m w : Nat) : Int) = (hs : Int)) && decide (hiW l m w = hw)), Ev.succ ?_, by rw [Bool.true_and], fun _ => rfl⟩
        simp only [impl_Sparse_numbers_in28_0.l0, h1, g, ↓reduceIte]
        refine Ev.bind hs_ ?_
        rw [hso]
        refine Ev.succ ?_
        simp only [impl_Sparse_numbers_in28_0.j2, Bool.not_true, Bool.false_eq_true, ↓reduceIte]
        refine Ev.bind hsp ?_
        refine Ev.bind hb1 ?_
        rw [hlo]
        simp only [↓reduceIte]
        exact Ev.bind hb2 (Ev.now _)
  · refine ⟨([], false), Ev.succ ?_, by simp [g], by simp⟩
    simp only [impl_Sparse_numbers_in28_0.l0, h1, g, ↓reduceIte]
    refine Ev.succ ?_
    simp only [impl_Sparse_numbers_in28_0.j2, ↓reduceIte]
    exact Ev.now _
theorem condS_of {c lim w ls : Int} {lw : List Int} {hs : Int} {hw : List Int} (h : condS c lim w ls lw hs hw = true) : ∃ c' m' w' hs' : Nat, c = (c' : Int) ∧ lim = (m' : Int) ∧ w = (w' : Int) ∧ hs = (hs' : Int) ∧ 1 ≤ m' ∧ m' ≤ 100000 ∧ widthV c' m' = w' ∧ goodBits ls lw = true ∧ goodBits hs hw = true ∧ Vecs c' w' ls lw hs' hw := by
  unfold condS at h
  simp only [Bool.and_eq_true, decide_eq_true_eq] at h
  obtain ⟨⟨⟨a1, a2⟩, a3, a4⟩, b, g1, g2, e⟩ := h
  obtain ⟨c', rfl⟩ := Int.eq_ofNat_of_zero_le a1
  obtain ⟨m', rfl⟩ := Int.eq_ofNat_of_zero_le (show 0 ≤ lim by omega)
  rw [Int.toNat_natCast, Int.toNat_natCast] at b
  have s1 := goodBits_size g1
  have s2 := goodBits_size g2
  obtain ⟨hs', rfl⟩ := Int.eq_ofNat_of_zero_le s2.1
  have hws := widthV_spec (c := c') (l := m') (by omega) (by omega)
  have els : ls = ((c' * widthV c' m' : Nat) : Int) := by rw [e, ← b, Int.mul_comm]; simp
  refine ⟨c', m', widthV c' m', hs', rfl, rfl, b.symm, rfl, by omega, by omega, rfl, g1, g2, ⟨by omega, hws.1, els, ?_, s1.2.2.2, by omega, by omega, s2.2.2.2⟩⟩
  have h1 := s1.2.2.1
  rw [els] at h1
  generalize c' * widthV c' m' = t at *
  omega
theorem impl_numbers_ev (c lim w ls : Int) (lw : List Int) (hs : Int) (hw : List Int) (hl1 : lw.length ≤ 9223372036854775807) (hl2 : hw.length ≤ 9223372036854775807) : ∃ r, Ev (fun k => impl_Sparse_numbers_in28_0.f k c lim w ls lw hs hw) r ∧ r.2 = goodS c lim w ls lw hs hw ∧ (r.2 = true → r.1 = listS c w lw hs hw) := by
  unfold goodS
  cases hc : condS c lim w ls lw hs hw with
  | true =>
    obtain ⟨c', m', w', hs', rfl, rfl, rfl, rfl, q1, q2, q3, g1, g2, hv⟩ := condS_of hc
    have h60 := hv.c60
    obtain ⟨r, e, r1, r2⟩ := impl_numbers_fin hv q3 q2 (decV hw lw c' w' hs' 0 []) (decV_len hw lw c' w' hs' 0 [] (Nat.zero_le _))
    refine ⟨r, ?_, ?_, ?_⟩
    · have e0 := impl_numbers_l0 hv (m' : Int) e hs' 0 [] (by omega) (Nat.le_refl _) (Nat.zero_le _) rfl
      have hw0 := impl_WidthFor_ev h60 q1 q2
      rw [q3] at hw0
      have wl : wrap64 ((w' : Int) * (c' : Int)) = ls := by
        have e1 : (w' : Int) * (c' : Int) = ((c' * w' : Nat) : Int) := by rw [Int.mul_comm]; simp
        have hb : c' * w' ≤ 60 * 17 := Nat.mul_le_mul h60 hv.w17
        rw [e1, hv.lsz]
        generalize c' * w' = t at *
        exact w64 (by omega) (by omega)
      unfold impl_Sparse_numbers_in28_0.f
      refine Ev.bind hw0 ?_
      simp only [↓reduceIte]
      refine Ev.bind (impl_IsBits_ev ls lw hl1) ?_
      rw [g1]
      simp only [↓reduceIte]
      refine Ev.bind (impl_IsBits_ev (hs' : Int) hw hl2) ?_
      rw [g2]
      simp only [↓reduceIte, wl, bne_self_eq_false]
      refine Ev.succ ?_
      simp only [impl_Sparse_numbers_in28_0.j0, Bool.false_eq_true, ↓reduceIte]
      exact e0
    · rw [r1, Bool.true_and]
      rfl
    · exact r2
  | false =>
    refine ⟨([], false), ?_, rfl, fun h => by cases h⟩
    unfold condS at hc
    unfold impl_Sparse_numbers_in28_0.f
    by_cases a : (0 ≤ c ∧ c ≤ 60) ∧ 1 ≤ lim ∧ lim ≤ 100000
    · obtain ⟨c', rfl⟩ := Int.eq_ofNat_of_zero_le a.1.1
      obtain ⟨m', rfl⟩ := Int.eq_ofNat_of_zero_le (show 0 ≤ lim by omega)
      have hw0 := impl_WidthFor_ev (c := c') (l := m') (by omega) (by omega) (by omega)
      have hw17 := (widthV_spec (c := c') (l := m') (by omega) (by omega)).1
      refine Ev.bind hw0 ?_
      simp only [↓reduceIte]
      simp only [a, and_self, decide_true, Bool.true_and, Int.toNat_natCast] at hc
      by_cases b : ((widthV c' m' : Nat) : Int) = w
      · simp only [b, decide_true, Bool.true_and, ↓reduceIte] at hc ⊢
        refine Ev.bind (impl_IsBits_ev ls lw hl1) ?_
        cases g1 : goodBits ls lw with
        | false => simp only [Bool.false_eq_true, ↓reduceIte]; exact impl_numbers_bad _ _ _ _ _ _ _ _
        | true =>
          simp only [↓reduceIte]
          refine Ev.bind (impl_IsBits_ev hs hw hl2) ?_
          cases g2 : goodBits hs hw with
          | false => simp only [Bool.false_eq_true, ↓reduceIte]; exact impl_numbers_bad _ _ _ _ _ _ _ _
          | true =>
            rw [g1, g2, Bool.true_and, Bool.true_and, decide_eq_false_iff_not] at hc
            have wl : wrap64 (w * (c' : Int)) = w * (c' : Int) := by
              have e1 : w * (c' : Int) = ((widthV c' m' * c' : Nat) : Int) := by rw [← b]; simp
              have hb : widthV c' m' * c' ≤ 17 * 60 := Nat.mul_le_mul hw17 (by omega)
              rw [e1]
              generalize widthV c' m' * c' = t at *
              exact w64 (by omega) (by omega)
            have ne : (ls != w * (c' : Int)) = true := bne_iff_ne.2 hc
            simp only [↓reduceIte, wl, ne]
            exact impl_numbers_bad _ _ _ _ _ _ _ _
      · simp only [b, ↓reduceIte]
        exact impl_numbers_bad _ _ _ _ _ _ _ _
    · refine Ev.bind (impl_WidthFor_bad a) ?_
      simp only [Bool.false_eq_true, ↓reduceIte]
      exact impl_numbers_bad _ _ _ _ _ _ _ _
theorem spGood_bad1 (c lim w ls : Int) (lw : List Int) (hs : Int) (hw : List Int) : Ev (fun k => spec_spGood.j1 k true c lim w ls lw hs hw) false := by
  refine Ev.succ ?_
  simp only [spec_spGood.j1, ↓reduceIte]
  exact Ev.now _
theorem spGood_bad0 (c lim w ls : Int) (lw : List Int) (hs : Int) (hw : List Int) : Ev (fun k => spec_spGood.j0 k true c lim w ls lw hs hw) false := by
  refine Ev.succ ?_
  simp only [spec_spGood.j0, ↓reduceIte]
  exact Ev.now _
theorem spGood_fin {c m w : Nat} {ls : Int} {lw : List Int} {hs : Nat} {hw : List Int} (hv : Vecs c w ls lw hs hw) (hww : widthV c m = w) (hm : m ≤ 100000) (hl1 : lw.length ≤ 9223372036854775807) (hl2 : hw.length ≤ 9223372036854775807) (hH : c + (m - 1) / 2 ^ w + 1 = hs) : Ev (fun k => spec_spGood.j1 k false (c : Int) (m : Int) (w : Int) ls lw (hs : Int) hw) (finS c m w lw hs hw (decV hw lw c w hs 0 [])) := by
  have h60 := hv.c60
  have hll := decV_len hw lw c w hs 0 [] (Nat.zero_le _)
  have hsl := spec_spList_ev hv (m : Int)
  generalize decV hw lw c w hs 0 [] = l at *
  clear hH
  unfold finS
  refine Ev.succ ?_
  simp only [spec_spGood.j1, Bool.false_eq_true, ↓reduceIte]
  refine Ev.bind hsl ?_
  by_cases g : (l.length : Int) = (c : Int)
  · have hs_ := spec_spSorted_ev l (m : Int) (by omega) (by omega)
    simp only [g, ↓reduceIte, decide_true, Bool.true_and, Int.toNat_natCast]
    refine Ev.bind hs_ ?_
    cases hso : sortedV l (m : Int) with
    | false =>
      refine Ev.succ ?_
      simp only [spec_spGood.j2, Bool.not_false, ↓reduceIte, Bool.false_and]
      exact Ev.now _
    | true =>
      have hn := nums_of hso
      rw [show l.length = c from by omega, hww] at hn
      have hls : ls = ((l.length * w : Nat) : Int) := by rw [hv.lsz, show l.length = c from by omega]
      have hb1 := spec_biSame_ev ls ((l.length * w : Nat) : Int) lw (lowW l w) hl1
      have hb2 := spec_biSame_ev (hs : Int) ((hiN l m w : Nat) : Int) hw (hiW l m w) hl2
      rw [decide_eq_true hls, Bool.true_and] at hb1
      refine Ev.succ ?_
      simp only [spec_spGood.j2, Bool.not_true, Bool.false_eq_true, ↓reduceIte, Bool.true_and]
      refine Ev.bind (spec_spOf_ev hn) ?_
      refine Ev.bind hb1 ?_
      by_cases e1 : lowW l w = lw
      · have e1' : lw = lowW l w := e1.symm
        simp only [decide_eq_true e1', decide_eq_true e1, ↓reduceIte, Bool.true_and]
        refine Ev.bind hb2 (Ev.some_ ?_)
        rw [decide_eq_decide.2 (eq_comm (a := (hs : Int)) (b := ((hiN l m w : Nat) : Int))), decide_eq_decide.2 (eq_comm (a := hw) (b := hiW l m w))]
      · have e1' : ¬ (lw = lowW l w) := fun e => e1 e.symm
        simp only [decide_eq_false e1', decide_eq_false e1, Bool.false_eq_true, ↓reduceIte, Bool.false_and]
        exact Ev.now _
  · simp only [g, ↓reduceIte, decide_false, Bool.false_and]
    refine Ev.succ ?_
    simp only [spec_spGood.j2, ↓reduceIte]
    exact Ev.now _
theorem finS_hs {c m w : Nat} {lw : List Int} {hs : Nat} {hw l : List Int} (hH : ¬ (c + (m - 1) / 2 ^ w + 1 = hs)) : finS c m w lw hs hw l = false := by
  unfold finS
  by_cases g : (l.length : Int) = (c : Int)
  · have e : ¬ (((hiN l m w : Nat) : Int) = (hs : Int)) := by
      intro e
      have e2 : hiN l m w = hs := Int.ofNat.inj e
      unfold hiN at e2
      rw [show l.length = c from Int.ofNat.inj g] at e2
      exact hH e2
    simp only [Int.toNat_natCast, e, decide_false, Bool.false_and, Bool.and_false]
  · simp only [g, decide_false, Bool.false_and]
theorem spec_spGood_ev (c lim w ls : Int) (lw : List Int) (hs : Int) (hw : List Int) (hl1 : lw.length ≤ 9223372036854775807) (hl2 : hw.length ≤ 9223372036854775807) : Ev (fun k => spec_spGood.f k c lim w ls lw hs hw) (goodS c lim w ls lw hs hw) := by
  unfold goodS
  cases hc : condS c lim w ls lw hs hw with
  | true =>
    obtain ⟨c', m', w', hs', rfl, rfl, rfl, rfl, q1, q2, q3, g1, g2, hv⟩ := condS_of hc
    have h60 := hv.c60
    have h17 := hv.w17
    have k1 : (0 : Int) ≤ (c' : Int) ∧ (c' : Int) ≤ 60 := by omega
    have k2 : (1 : Int) ≤ (m' : Int) ∧ (m' : Int) ≤ 100000 := by omega
    have hw0 := spec_spWidth_ev h60 q2
    rw [q3] at hw0
    have wl : wrap64 ((c' : Int) * (w' : Int)) = ls := by
      have e1 : (c' : Int) * (w' : Int) = ((c' * w' : Nat) : Int) := by simp
      have hb : c' * w' ≤ 60 * 17 := Nat.mul_le_mul h60 h17
      rw [e1, hv.lsz]
      generalize c' * w' = t at *
      exact w64 (by omega) (by omega)
    have wm : wrap64 ((m' : Int) - 1) = ((m' - 1 : Nat) : Int) := by rw [w64 (by omega) (by omega)]; omega
    have hw60 : w' ≤ 60 := by omega
    have hd : (m' - 1) / 2 ^ w' ≤ 120 := by rw [← q3]; exact width_div h60 q2
    have w3 : wrap64 ((c' : Int) + (((m' - 1) / 2 ^ w' : Nat) : Int)) = ((c' + (m' - 1) / 2 ^ w' : Nat) : Int) := add_wrap rfl (Nat.le_trans (Nat.add_le_add h60 hd) (by decide))
    have w4 : wrap64 (((c' + (m' - 1) / 2 ^ w' : Nat) : Int) + 1) = ((c' + (m' - 1) / 2 ^ w' + 1 : Nat) : Int) := succ_wrap rfl (Nat.le_trans (Nat.add_le_add_right (Nat.add_le_add h60 hd) 1) (by decide))
    have e6 := shr_nat (m' - 1) w' hw60
    unfold spec_spGood.f
    simp only [spec_l1In_eq, spec_spLimit_eq, k1, k2, and_self, decide_true, Option.bind_some, ↓reduceIte]
    refine Ev.bind hw0 ?_
    refine Ev.succ ?_
    simp only [spec_spGood.j0, bne_self_eq_false, Bool.false_eq_true, ↓reduceIte]
    refine Ev.bind (spec_biGood_ev ls lw hl1) ?_
    rw [g1]
    simp only [↓reduceIte]
    refine Ev.bind (spec_biGood_ev (hs' : Int) hw hl2) ?_
    rw [g2]
    simp only [↓reduceIte, wl, wm, e6, w3, w4, show (0 : Int) ≤ (w' : Int) from Int.natCast_nonneg _, Bool.true_and]
    by_cases hH : c' + (m' - 1) / 2 ^ w' + 1 = hs'
    · rw [hH, bne_self_eq_false]
      exact spGood_fin hv q3 q2 hl1 hl2 hH
    · have hne : ((hs' : Int) != ((c' + (m' - 1) / 2 ^ w' + 1 : Nat) : Int)) = true := bne_iff_ne.2 (fun e => hH (Int.ofNat.inj e).symm)
      rw [hne, finS_hs hH]
      exact spGood_bad1 _ _ _ _ _ _ _
  | false =>
    unfold condS at hc
    unfold spec_spGood.f
    simp only [spec_l1In_eq, spec_spLimit_eq, Option.bind_some, Bool.false_and]
    by_cases a1 : 0 ≤ c ∧ c ≤ 60
    · simp only [a1, and_self, decide_true, ↓reduceIte]
      by_cases a2 : 1 ≤ lim ∧ lim ≤ 100000
      · obtain ⟨c', rfl⟩ := Int.eq_ofNat_of_zero_le a1.1
        obtain ⟨m', rfl⟩ := Int.eq_ofNat_of_zero_le (show 0 ≤ lim by omega)
        have hw0 := spec_spWidth_ev (c := c') (l := m') (by omega) (by omega)
        have hw17 := (widthV_spec (c := c') (l := m') (by omega) (by omega)).1
        simp only [a2, and_self, decide_true, ↓reduceIte]
        refine Ev.bind hw0 ?_
        simp only [a1, a2, and_self, decide_true, Bool.true_and, Int.toNat_natCast] at hc
        by_cases b : ((widthV c' m' : Nat) : Int) = w
        · simp only [b, decide_true, Bool.true_and] at hc
          rw [b, bne_self_eq_false]
          refine Ev.succ ?_
          simp only [spec_spGood.j0, Bool.false_eq_true, ↓reduceIte]
          refine Ev.bind (spec_biGood_ev ls lw hl1) ?_
          cases g1 : goodBits ls lw with
          | false => simp only [Bool.false_eq_true, ↓reduceIte]; exact spGood_bad1 _ _ _ _ _ _ _
          | true =>
            simp only [↓reduceIte]
            refine Ev.bind (spec_biGood_ev hs hw hl2) ?_
            cases g2 : goodBits hs hw with
            | false => simp only [Bool.false_eq_true, ↓reduceIte]; exact spGood_bad1 _ _ _ _ _ _ _
            | true =>
              rw [g1, g2, Bool.true_and, Bool.true_and, decide_eq_false_iff_not] at hc
              have wl : wrap64 ((c' : Int) * w) = w * (c' : Int) := by
                have e1 : (c' : Int) * w = ((widthV c' m' * c' : Nat) : Int) := by rw [← b, Int.mul_comm]; simp
                have e2 : w * (c' : Int) = ((widthV c' m' * c' : Nat) : Int) := by rw [← b]; simp
                have hb : widthV c' m' * c' ≤ 17 * 60 := Nat.mul_le_mul hw17 (by omega)
                rw [e1, e2]
                generalize widthV c' m' * c' = t at *
                exact w64 (by omega) (by omega)
              simp only [↓reduceIte, wl, hc]
              exact spGood_bad1 _ _ _ _ _ _ _
        · have hne : (w != ((widthV c' m' : Nat) : Int)) = true := bne_iff_ne.2 (fun e => b e.symm)
          rw [hne]
          exact spGood_bad0 _ _ _ _ _ _ _
      · simp only [a2, decide_false, Bool.false_eq_true, ↓reduceIte]
        exact spGood_bad0 _ _ _ _ _ _ _
    · simp only [a1, decide_false, Bool.false_eq_true, ↓reduceIte]
      exact spGood_bad0 _ _ _ _ _ _ _
/-! ### numbers below another one -/
def cntB (l : List Int) (x : Int) : Nat := (l.filter fun y => decide (y < x)).length
theorem cntB_le (l : List Int) (x : Int) : cntB l x ≤ l.length := List.length_filter_le _ _
theorem cntB_at {l : List Int} {x : Int} {p : Nat} (hp : p ≤ l.length) (h1 : ∀ k, (hk : k < l.length) → k < p → l[k] < x) (h2 : ∀ k, (hk : k < l.length) → p ≤ k → ¬ (l[k] < x)) : cntB l x = p := by
  have e : l = l.take p ++ l.drop p := (List.take_append_drop p l).symm
  unfold cntB
  rw [e, List.filter_append, List.length_append]
  have f1 : (l.take p).filter (fun y => decide (y < x)) = l.take p := by
    rw [List.filter_eq_self]
    intro y hy
    obtain ⟨k, hk, rfl⟩ := List.getElem_of_mem hy
    rw [List.length_take] at hk
    rw [List.getElem_take]
    exact decide_eq_true (h1 k (by omega) (by omega))
  have f2 : (l.drop p).filter (fun y => decide (y < x)) = [] := by
    rw [List.filter_eq_nil_iff]
    intro y hy
    obtain ⟨k, hk, rfl⟩ := List.getElem_of_mem hy
    rw [List.length_drop] at hk
    rw [List.getElem_drop]
    have := h2 (p + k) (by omega) (by omega)
    simpa using this
  rw [f1, f2, List.length_take, List.length_nil]
  omega
theorem u64_id_ {n : Int} (h0 : 0 ≤ n) (h1 : n ≤ 9223372036854775807) : IntKind.u64.wrap n = n := by
  have e : IntKind.u64.wrap n = n % 18446744073709551616 := by simp [IntKind.wrap, IntKind.bits, IntKind.signed]
  rw [e]
  omega
theorem midV_ {i j : Nat} (h : i + j ≤ 4000000) : wrap64 ((IntKind.u64.wrap (wrap64 ((i : Int) + (j : Int)))) / 2) = (((i + j) / 2 : Nat) : Int) := by
  rw [w64 (n := (i : Int) + (j : Int)) (by omega) (by omega), u64_id_ (by omega) (by omega), w64 (by omega) (by omega)]
  omega
theorem impl_below_ev (l : List Int) (x : Int) (hs : ∀ i j : Nat, (hi : i < l.length) → (hj : j < l.length) → i ≤ j → l[i] ≤ l[j]) (hl : l.length ≤ 1000000) : Ev (fun k => impl_below.f k l x) ((cntB l x : Nat) : Int) := by
  have hnan : ∀ y : Int, slices_isNaN_int.f y = some false := fun y => by simp [slices_isNaN_int.f]
  have hnan2 : ∀ y : Int, cmp_isNaN_int.f y = some false := fun y => by simp [cmp_isNaN_int.f]
  have hless : ∀ y : Int, cmp_Less_int.f y x = some (decide (y < x)) := fun y => by simp [cmp_Less_int.f, hnan2]
  suffices H : ∀ d i j : Nat, j - i ≤ d → i ≤ j → j ≤ l.length → (∀ k, (hk : k < l.length) → k < i → l[k] < x) → (∀ k, (hk : k < l.length) → j ≤ k → ¬ (l[k] < x)) → ∃ b : Bool, Ev (fun k => slices_BinarySearch_int_int.l0 k l x (l.length : Int) (i : Int) (j : Int)) (((cntB l x : Nat) : Int), b) by
    obtain ⟨b, e⟩ := H l.length 0 l.length (by omega) (by omega) (Nat.le_refl _) (fun _ _ h => absurd h (by omega)) (fun k hk h => absurd hk (by omega))
    unfold impl_below.f
    exact Ev.bind (show Ev (fun k => slices_BinarySearch_int_int.f k l x) _ from e) (Ev.now _)
  intro d
  induction d with
  | zero =>
    intro i j h1 h2 h3 h4 h5
    obtain rfl : i = j := by omega
    have hc := cntB_at h3 h4 h5
    have c1 : ¬ ((i : Int) < (i : Int)) := by omega
    rw [hc]
    by_cases c2 : i < l.length
    · refine ⟨decide (l[i] = x), Ev.succ ?_⟩
      have c3 : (i : Int) < (l.length : Int) := by omega
      have c4 : (0 : Int) ≤ (i : Int) := by omega
      simp only [slices_BinarySearch_int_int.l0, c1, c3, c4, ↓reduceIte, rd_nat l i c2, hnan, Option.bind_some, Bool.false_eq_true]
      by_cases c5 : l[i] = x
      · simp only [c5, ↓reduceIte, decide_true]
        exact Ev.now _
      · simp only [c5, ↓reduceIte, decide_false]
        exact Ev.now _
    · refine ⟨false, Ev.succ ?_⟩
      have c3 : ¬ ((i : Int) < (l.length : Int)) := by omega
      simp only [slices_BinarySearch_int_int.l0, c1, c3, ↓reduceIte]
      exact Ev.now _
  | succ d ih =>
    intro i j h1 h2 h3 h4 h5
    by_cases c : i = j
    · exact ih i j (by omega) h2 h3 h4 h5
    · have c1 : (i : Int) < (j : Int) := by omega
      have hm := midV_ (i := i) (j := j) (by omega)
      have hlt : (i + j) / 2 < l.length := by omega
      have c2 : (0 : Int) ≤ (((i + j) / 2 : Nat) : Int) := by omega
      have c3 : (((i + j) / 2 : Nat) : Int) < (l.length : Int) := by omega
      have hw : wrap64 ((((i + j) / 2 : Nat) : Int) + 1) = (((i + j) / 2 + 1 : Nat) : Int) := by rw [w64 (by omega) (by omega)]; rfl
      by_cases g : l[(i + j) / 2] < x
      · obtain ⟨b, e⟩ := ih ((i + j) / 2 + 1) j (by omega) (by omega) h3 (fun k hk hki => Int.lt_of_le_of_lt (hs k ((i + j) / 2) hk hlt (by omega)) g) h5
        refine ⟨b, Ev.succ ?_⟩
        simp only [slices_BinarySearch_int_int.l0, c1, ↓reduceIte, hm, c2, c3, rd_nat l _ hlt, hless, Option.bind_some, g, decide_true, hw]
        exact e
      · obtain ⟨b, e⟩ := ih i ((i + j) / 2) (by omega) (by omega) (by omega) h4 (fun k hk hki h => g (Int.lt_of_le_of_lt (hs ((i + j) / 2) k hlt hk hki) h))
        refine ⟨b, Ev.succ ?_⟩
        simp only [slices_BinarySearch_int_int.l0, c1, ↓reduceIte, hm, c2, c3, rd_nat l _ hlt, hless, Option.bind_some, g, decide_false, Bool.false_eq_true]
        exact e
theorem spec_spBelow_l0 (l : List Int) (x : Int) (hl : l.length ≤ 1000000) (d : Nat) : ∀ (i n : Nat), i + d = l.length → n ≤ i → Ev (fun k => spec_spBelow.l0 k x (n : Int) l (l.length : Int) (i : Int)) ((n + cntB (l.drop i) x : Nat) : Int) := by
  induction d with
  | zero =>
    intro i n hi hn
    have h1 : ¬ ((i : Int) < (l.length : Int)) := by omega
    refine Ev.succ ?_
    simp only [spec_spBelow.l0, h1, ↓reduceIte]
    rw [List.drop_of_length_le (by omega)]
    exact Ev.now _
  | succ d ih =>
    intro i n hi hn
    have hil : i < l.length := by omega
    have h1 : (i : Int) < (l.length : Int) := by omega
    have h2 : (0 : Int) ≤ (i : Int) := by omega
    have hw : wrap64 ((i : Int) + 1) = ((i + 1 : Nat) : Int) := by rw [w64 (by omega) (by omega)]; rfl
    have hw2 : wrap64 ((n : Int) + 1) = ((n + 1 : Nat) : Int) := by rw [w64 (by omega) (by omega)]; rfl
    refine Ev.succ ?_
    simp only [spec_spBelow.l0, h1, h2, ↓reduceIte, hw, hw2, rd_nat l i hil]
    rw [drop_cons l i hil]
    unfold cntB
    rw [List.filter_cons]
    by_cases c : l[i] < x
    · have e := ih (i + 1) (n + 1) (by omega) (by omega)
      unfold cntB at e
      simp only [c, decide_true, ↓reduceIte, List.length_cons]
      rw [show n + ((l.drop (i + 1)).filter (fun y => decide (y < x))).length.succ = n + 1 + ((l.drop (i + 1)).filter (fun y => decide (y < x))).length from by omega]
      exact e
    · have e := ih (i + 1) n (by omega) (by omega)
      unfold cntB at e
      simp only [c, decide_false, ↓reduceIte, Bool.false_eq_true]
      exact e
theorem cntB_succ (l : List Int) (x : Int) : cntB l (x + 1) = cntB l x + (l.filter fun y => decide (y = x)).length := by
  unfold cntB
  induction l with
  | nil => rfl
  | cons y l ih =>
    rw [List.filter_cons, List.filter_cons, List.filter_cons]
    rcases Int.lt_trichotomy y x with c | c | c
    · have a1 : y < x + 1 := by omega
      have a2 : ¬ (y = x) := by omega
      simp only [a1, c, a2, decide_true, decide_false, ↓reduceIte, Bool.false_eq_true, List.length_cons]
      omega
    · have a1 : y < x + 1 := by omega
      have a2 : ¬ (y < x) := by omega
      simp only [a1, c, a2, decide_true, decide_false, ↓reduceIte, Bool.false_eq_true, List.length_cons]
      subst c
      simp only [a1, a2, decide_true, decide_false, ↓reduceIte, Bool.false_eq_true, List.length_cons]
      omega
    · have a1 : ¬ (y < x + 1) := by omega
      have a2 : ¬ (y < x) := by omega
      have a3 : ¬ (y = x) := by omega
      simp only [a1, a2, a3, decide_false, ↓reduceIte, Bool.false_eq_true]
      exact ih
theorem goodS_of {c lim w ls : Int} {lw : List Int} {hs : Int} {hw : List Int} (h : goodS c lim w ls lw hs hw = true) : ((listS c w lw hs hw).length : Int) = c ∧ (listS c w lw hs hw).length ≤ 60 ∧ (1 ≤ lim ∧ lim ≤ 100000) ∧ ∀ i j : Nat, (hi : i < (listS c w lw hs hw).length) → (hj : j < (listS c w lw hs hw).length) → i ≤ j → (listS c w lw hs hw)[i] ≤ (listS c w lw hs hw)[j] := by
  unfold goodS finS at h
  simp only [Bool.and_eq_true, decide_eq_true_eq] at h
  obtain ⟨_, h1, h2, _⟩ := h
  generalize listS c w lw hs hw = l at *
  obtain ⟨q1, q2, _⟩ := sortedV_of h2
  refine ⟨h1, q1, q2, fun i j hi hj hij => ?_⟩
  obtain ⟨m, rfl⟩ := Int.eq_ofNat_of_zero_le (show 0 ≤ lim by omega)
  have e := (nums_of h2).sorted i j hij hj
  rw [rd_nat l i hi, rd_nat l j hj] at e
  exact e
theorem spList_of {c lim w ls : Int} {lw : List Int} {hs : Int} {hw : List Int} (h : goodS c lim w ls lw hs hw = true) : Ev (fun k => spec_spList.f k c lim w ls lw hs hw) (listS c w lw hs hw) := by
  unfold goodS at h
  rw [Bool.and_eq_true] at h
  obtain ⟨c', m', w', hs', rfl, rfl, rfl, rfl, q1, q2, q3, g1, g2, hv⟩ := condS_of h.1
  exact spec_spList_ev hv (m' : Int)
theorem spec_below_of {c lim w ls : Int} {lw : List Int} {hs : Int} {hw : List Int} (h : goodS c lim w ls lw hs hw = true) (x : Int) : Ev (fun k => spec_spBelow.f k c lim w ls lw hs hw x) ((cntB (listS c w lw hs hw) x : Nat) : Int) := by
  have hl := (goodS_of h).2.1
  unfold spec_spBelow.f
  refine Ev.bind (spList_of h) ?_
  have e := spec_spBelow_l0 (listS c w lw hs hw) x (by omega) (listS c w lw hs hw).length 0 0 (by omega) (Nat.le_refl _)
  rw [List.drop_zero, Nat.zero_add] at e
  exact e
/-- The last index of a number that is at most x. -/
def lastV (c lim w ls : Int) (lw : List Int) (hs : Int) (hw : List Int) (x : Int) : Int × Bool := if goodS c lim w ls lw hs hw = true ∧ 0 ≤ x ∧ x ≤ lim - 1 ∧ cntB (listS c w lw hs hw) (x + 1) ≠ 0 then (((cntB (listS c w lw hs hw) (x + 1) : Nat) : Int) - 1, true) else (0, false)
theorem impl_LastAtMost_ev (c lim w ls : Int) (lw : List Int) (hs : Int) (hw : List Int) (x : Int) (hl1 : lw.length ≤ 9223372036854775807) (hl2 : hw.length ≤ 9223372036854775807) : Ev (fun k => impl_LastAtMost.f k c lim w ls lw hs hw x) (lastV c lim w ls lw hs hw x) := by
  obtain ⟨r, e, r1, r2⟩ := impl_numbers_ev c lim w ls lw hs hw hl1 hl2
  unfold impl_LastAtMost.f lastV
  refine Ev.bind e ?_
  cases g : goodS c lim w ls lw hs hw with
  | false =>
    rw [r1, g]
    simp only [Bool.false_eq_true, ↓reduceIte, false_and]
    exact Ev.now _
  | true =>
    have hr := r2 (by rw [r1, g])
    obtain ⟨_, hlen, hlim, hsort⟩ := goodS_of g
    rw [r1, g, hr]
    have wm : wrap64 (lim - 1) = lim - 1 := w64 (by omega) (by omega)
    simp only [↓reduceIte, impl_in_eq, wm, Option.bind_some, true_and]
    by_cases a : 0 ≤ x ∧ x ≤ lim - 1
    · have wx : wrap64 (x + 1) = x + 1 := w64 (by omega) (by omega)
      have hb := impl_below_ev (listS c w lw hs hw) (x + 1) hsort (by omega)
      have hle := cntB_le (listS c w lw hs hw) (x + 1)
      simp only [a, and_self, decide_true, ↓reduceIte, wx, true_and]
      refine Ev.bind hb ?_
      by_cases z : cntB (listS c w lw hs hw) (x + 1) = 0
      · have z' : ((cntB (listS c w lw hs hw) (x + 1) : Nat) : Int) = 0 := by omega
        simp only [z', z, ↓reduceIte, ne_eq, not_true_eq_false]
        exact Ev.now _
      · have z' : ¬ (((cntB (listS c w lw hs hw) (x + 1) : Nat) : Int) = 0) := by omega
        simp only [z', z, ↓reduceIte, ne_eq, not_false_eq_true]
        refine Ev.bind hb (Ev.some_ ?_)
        rw [w64 (by omega) (by omega)]
    · have a' : ¬ (0 ≤ x ∧ x ≤ lim - 1 ∧ cntB (listS c w lw hs hw) (x + 1) ≠ 0) := fun q => a ⟨q.1, q.2.1⟩
      simp only [a, a', decide_false, Bool.false_eq_true, ↓reduceIte]
      exact Ev.now _
theorem spec_LastAtMost_ev (c lim w ls : Int) (lw : List Int) (hs : Int) (hw : List Int) (x : Int) (hl1 : lw.length ≤ 9223372036854775807) (hl2 : hw.length ≤ 9223372036854775807) : Ev (fun k => spec_LastAtMost.f k c lim w ls lw hs hw x) (lastV c lim w ls lw hs hw x) := by
  unfold spec_LastAtMost.f spec_spAsked.f lastV
  cases g : goodS c lim w ls lw hs hw with
  | false =>
    have e := spec_spGood_ev c lim w ls lw hs hw hl1 hl2
    rw [g] at e
    refine Ev.bind (Ev.bind e (by simp only [Bool.false_eq_true, ↓reduceIte]; exact Ev.now false)) ?_
    simp only [Bool.false_eq_true, ↓reduceIte, false_and]
    exact Ev.now _
  | true =>
    have e := spec_spGood_ev c lim w ls lw hs hw hl1 hl2
    rw [g] at e
    obtain ⟨_, hlen, hlim, hsort⟩ := goodS_of g
    have wm : wrap64 (lim - 1) = lim - 1 := w64 (by omega) (by omega)
    refine Ev.bind (Ev.bind e (by simp only [↓reduceIte, spec_l1In_eq, wm, Option.bind_some]; exact Ev.now (decide (0 ≤ x ∧ x ≤ lim - 1)))) ?_
    by_cases a : 0 ≤ x ∧ x ≤ lim - 1
    · have wx : wrap64 (x + 1) = x + 1 := w64 (by omega) (by omega)
      have hb := spec_below_of g (x + 1)
      have hle := cntB_le (listS c w lw hs hw) (x + 1)
      simp only [a, and_self, decide_true, ↓reduceIte, wx, true_and]
      refine Ev.bind hb ?_
      by_cases z : cntB (listS c w lw hs hw) (x + 1) = 0
      · have z' : ((cntB (listS c w lw hs hw) (x + 1) : Nat) : Int) = 0 := by omega
        simp only [z', z, ↓reduceIte, ne_eq, not_true_eq_false]
        exact Ev.now _
      · have z' : ¬ (((cntB (listS c w lw hs hw) (x + 1) : Nat) : Int) = 0) := by omega
        simp only [z', z, ↓reduceIte, ne_eq, not_false_eq_true]
        refine Ev.bind hb (Ev.some_ ?_)
        rw [w64 (by omega) (by omega)]
    · have a' : ¬ (0 ≤ x ∧ x ≤ lim - 1 ∧ cntB (listS c w lw hs hw) (x + 1) ≠ 0) := fun q => a ⟨q.1, q.2.1⟩
      simp only [a, a', decide_false, Bool.false_eq_true, ↓reduceIte, true_and]
      exact Ev.now _
theorem slices_Index_l0 (l : List Int) (x : Int) (hl : l.length ≤ 1000000) (d : Nat) : ∀ i : Nat, i + d = l.length → ∃ t : Int, Ev (fun k => slices_Index_int_int.l0 k l x (l.length : Int) (i : Int)) t ∧ (decide (t ≥ 0) = (l.drop i).any fun y => decide (y = x)) := by
  induction d with
  | zero =>
    intro i hi
    have h1 : ¬ ((i : Int) < (l.length : Int)) := by omega
    refine ⟨-1, Ev.succ ?_, ?_⟩
    · simp only [slices_Index_int_int.l0, h1, ↓reduceIte]
      exact Ev.now _
    · rw [List.drop_of_length_le (by omega)]
      rfl
  | succ d ih =>
    intro i hi
    have hil : i < l.length := by omega
    have h1 : (i : Int) < (l.length : Int) := by omega
    have h2 : (0 : Int) ≤ (i : Int) := by omega
    have hw : wrap64 ((i : Int) + 1) = ((i + 1 : Nat) : Int) := by rw [w64 (by omega) (by omega)]; rfl
    rw [drop_cons l i hil, List.any_cons]
    by_cases c : x = l[i]
    · refine ⟨(i : Int), Ev.succ ?_, ?_⟩
      · simp only [slices_Index_int_int.l0, h1, h2, ↓reduceIte, rd_nat l i hil, c]
        exact Ev.now _
      · rw [decide_eq_true c.symm, Bool.true_or]
        exact decide_eq_true (by omega)
    · obtain ⟨t, e, ht⟩ := ih (i + 1) (by omega)
      refine ⟨t, Ev.succ ?_, ?_⟩
      · simp only [slices_Index_int_int.l0, h1, h2, ↓reduceIte, rd_nat l i hil, c, hw]
        exact e
      · rw [show decide (l[i] = x) = false from decide_eq_false (fun q => c q.symm), Bool.false_or]
        exact ht
theorem slices_Contains_ev (l : List Int) (x : Int) (hl : l.length ≤ 1000000) : Ev (fun k => slices_Contains_int_int.f k l x) (l.any fun y => decide (y = x)) := by
  obtain ⟨t, e, ht⟩ := slices_Index_l0 l x hl l.length 0 (by omega)
  rw [List.drop_zero] at ht
  unfold slices_Contains_int_int.f
  rw [← ht]
  exact Ev.bind (show Ev (fun k => slices_Index_int_int.f k l x) t from e) (Ev.now _)
theorem any_cnt (l : List Int) (x : Int) : (l.any fun y => decide (y = x)) = decide (cntB l (x + 1) > cntB l x) := by
  rw [cntB_succ]
  cases h : l.any fun y => decide (y = x) with
  | true =>
    obtain ⟨y, hy, e⟩ := List.any_eq_true.1 h
    have hm : y ∈ l.filter fun y => decide (y = x) := List.mem_filter.2 ⟨hy, e⟩
    have hp := List.length_pos_of_mem hm
    exact (decide_eq_true (by omega)).symm
  | false =>
    have hn : l.filter (fun y => decide (y = x)) = [] := by
      rw [List.filter_eq_nil_iff]
      intro y hy
      have := List.any_eq_false.1 h y hy
      exact this
    rw [hn]
    exact (decide_eq_false (by simp)).symm
def belowV (c lim w ls : Int) (lw : List Int) (hs : Int) (hw : List Int) (x : Int) : Int × Bool := if goodS c lim w ls lw hs hw = true ∧ 0 ≤ x ∧ x ≤ lim then (((cntB (listS c w lw hs hw) x : Nat) : Int), true) else (0, false)
theorem impl_CountBelow_ev (c lim w ls : Int) (lw : List Int) (hs : Int) (hw : List Int) (x : Int) (hl1 : lw.length ≤ 9223372036854775807) (hl2 : hw.length ≤ 9223372036854775807) : Ev (fun k => impl_CountBelow.f k c lim w ls lw hs hw x) (belowV c lim w ls lw hs hw x) := by
  obtain ⟨r, e, r1, r2⟩ := impl_numbers_ev c lim w ls lw hs hw hl1 hl2
  unfold impl_CountBelow.f belowV
  refine Ev.bind e ?_
  cases g : goodS c lim w ls lw hs hw with
  | false =>
    rw [r1, g]
    simp only [Bool.false_eq_true, ↓reduceIte, false_and]
    exact Ev.now _
  | true =>
    have hr := r2 (by rw [r1, g])
    obtain ⟨_, hlen, hlim, hsort⟩ := goodS_of g
    rw [r1, g, hr]
    simp only [↓reduceIte, impl_in_eq, Option.bind_some, true_and]
    by_cases a : 0 ≤ x ∧ x ≤ lim
    · simp only [a, and_self, decide_true, ↓reduceIte]
      exact Ev.bind (impl_below_ev (listS c w lw hs hw) x hsort (by omega)) (Ev.now _)
    · simp only [a, decide_false, Bool.false_eq_true, ↓reduceIte]
      exact Ev.now _
theorem impl_FirstAtLeast_ev (c lim w ls : Int) (lw : List Int) (hs : Int) (hw : List Int) (x : Int) (hl1 : lw.length ≤ 9223372036854775807) (hl2 : hw.length ≤ 9223372036854775807) (g : goodS c lim w ls lw hs hw = true) (a : 0 ≤ x ∧ x ≤ lim - 1) : Ev (fun k => impl_FirstAtLeast.f k c lim w ls lw hs hw x) (if cntB (listS c w lw hs hw) x = (listS c w lw hs hw).length then (0, false) else (((cntB (listS c w lw hs hw) x : Nat) : Int), true)) := by
  obtain ⟨r, e, r1, r2⟩ := impl_numbers_ev c lim w ls lw hs hw hl1 hl2
  unfold impl_FirstAtLeast.f
  refine Ev.bind e ?_
  have hr := r2 (by rw [r1, g])
  obtain ⟨_, hlen, hlim, hsort⟩ := goodS_of g
  rw [r1, g, hr]
  have wm : wrap64 (lim - 1) = lim - 1 := w64 (by omega) (by omega)
  have hb := impl_below_ev (listS c w lw hs hw) x hsort (by omega)
  simp only [↓reduceIte, impl_in_eq, wm, Option.bind_some, a, and_self, decide_true]
  refine Ev.bind hb ?_
  by_cases z : cntB (listS c w lw hs hw) x = (listS c w lw hs hw).length
  · have z' : ((cntB (listS c w lw hs hw) x : Nat) : Int) = ((listS c w lw hs hw).length : Int) := by rw [z]
    simp only [z', z, ↓reduceIte]
    exact Ev.now _
  · have z' : ¬ (((cntB (listS c w lw hs hw) x : Nat) : Int) = ((listS c w lw hs hw).length : Int)) := by omega
    simp only [z', z, ↓reduceIte]
    exact Ev.bind hb (Ev.now _)
theorem impl_HasNumber_ev (c lim w ls : Int) (lw : List Int) (hs : Int) (hw : List Int) (x : Int) (hl1 : lw.length ≤ 9223372036854775807) (hl2 : hw.length ≤ 9223372036854775807) (g : goodS c lim w ls lw hs hw = true) (a : 0 ≤ x ∧ x ≤ lim - 1) : Ev (fun k => impl_HasNumber.f k c lim w ls lw hs hw x) (decide (cntB (listS c w lw hs hw) (x + 1) > cntB (listS c w lw hs hw) x), true) := by
  obtain ⟨r, e, r1, r2⟩ := impl_numbers_ev c lim w ls lw hs hw hl1 hl2
  unfold impl_HasNumber.f
  refine Ev.bind e ?_
  have hr := r2 (by rw [r1, g])
  obtain ⟨_, hlen, hlim, hsort⟩ := goodS_of g
  rw [r1, g, hr]
  have wm : wrap64 (lim - 1) = lim - 1 := w64 (by omega) (by omega)
  have hb := slices_Contains_ev (listS c w lw hs hw) x (by omega)
  rw [any_cnt] at hb
  simp only [↓reduceIte, impl_in_eq, wm, Option.bind_some, a, and_self, decide_true]
  exact Ev.bind hb (Ev.now _)
theorem counts_bad (x l b1 b2 c lim w ls : Int) (lw : List Int) (hs : Int) (hw : List Int) : Ev (fun k => laws_FnSparseCounts.j1 k x l false b1 b2 true c lim w ls lw hs hw) true := by
  refine Ev.succ ?_
  simp only [laws_FnSparseCounts.j1, ↓reduceIte, Bool.not_false]
  exact Ev.now _
theorem counts_core (c lim w ls : Int) (lw : List Int) (hs : Int) (hw : List Int) (x : Int) (hl1 : lw.length ≤ 9223372036854775807) (hl2 : hw.length ≤ 9223372036854775807) : Ev (fun k => laws_FnSparseCounts.j0 k x (lastV c lim w ls lw hs hw x).1 (lastV c lim w ls lw hs hw x).2 false c lim w ls lw hs hw) true := by
  refine Ev.succ ?_
  simp only [laws_FnSparseCounts.j0, Bool.false_eq_true, ↓reduceIte]
  refine Ev.bind (impl_CountBelow_ev c lim w ls lw hs hw x hl1 hl2) ?_
  refine Ev.bind (impl_CountBelow_ev c lim w ls lw hs hw (wrap64 (x + 1)) hl1 hl2) ?_
  by_cases q : goodS c lim w ls lw hs hw = true ∧ 0 ≤ x ∧ x ≤ lim
  · obtain ⟨g, a0, a1⟩ := q
    obtain ⟨hc, hlen, hlim, hsort⟩ := goodS_of g
    clear hsort
    have wx : wrap64 (x + 1) = x + 1 := w64 (by omega) (by omega)
    rw [wx]
    have eb : belowV c lim w ls lw hs hw x = (((cntB (listS c w lw hs hw) x : Nat) : Int), true) := by unfold belowV; rw [if_pos ⟨g, a0, a1⟩]
    rw [eb]
    simp only [↓reduceIte]
    by_cases b : x ≤ lim - 1
    · have eb2 : belowV c lim w ls lw hs hw (x + 1) = (((cntB (listS c w lw hs hw) (x + 1) : Nat) : Int), true) := by unfold belowV; rw [if_pos ⟨g, by omega, by omega⟩]
      rw [eb2]
      have hF := impl_FirstAtLeast_ev c lim w ls lw hs hw x hl1 hl2 g ⟨a0, b⟩
      have hH := impl_HasNumber_ev c lim w ls lw hs hw x hl1 hl2 g ⟨a0, b⟩
      have n1 : ¬ (x ≥ lim) := by omega
      have hle := cntB_le (listS c w lw hs hw) x
      have hle2 := cntB_le (listS c w lw hs hw) (x + 1)
      have hL : lastV c lim w ls lw hs hw x = if cntB (listS c w lw hs hw) (x + 1) ≠ 0 then (((cntB (listS c w lw hs hw) (x + 1) : Nat) : Int) - 1, true) else (0, false) := by
        unfold lastV
        by_cases z : cntB (listS c w lw hs hw) (x + 1) = 0
        · rw [if_neg (fun q => q.2.2.2 z), if_neg (fun q => q z)]
        · rw [if_pos ⟨g, a0, b, z⟩, if_pos z]
      rw [hL]
      generalize cntB (listS c w lw hs hw) (x + 1) = n2 at *
      generalize cntB (listS c w lw hs hw) x = n1' at *
      generalize (listS c w lw hs hw).length = len at *
      refine Ev.succ ?_
      simp only [laws_FnSparseCounts.j1, Bool.not_true, Bool.false_eq_true, ↓reduceIte, n1]
      refine Ev.bind hF (Ev.bind hH ?_)
      have d1 : decide (((n2 : Nat) : Int) > ((n1' : Nat) : Int)) = decide (n2 > n1') := by
        by_cases y : n2 > n1'
        · rw [decide_eq_true y, decide_eq_true (by omega)]
        · rw [decide_eq_false y, decide_eq_false (by omega)]
      have wn : wrap64 (((n2 : Nat) : Int) - 1) = ((n2 : Nat) : Int) - 1 := w64 (by omega) (by omega)
      simp only [↓reduceIte, d1, bne_self_eq_false, Bool.false_eq_true, wn]
      by_cases y1 : n1' = len
      · have z1 : ¬ (((n1' : Nat) : Int) < c) := by omega
        by_cases y2 : n2 = 0
        · have z2 : ¬ (((n2 : Nat) : Int) > 0) := by omega
          simp only [y1, y2] at z1 z2 ⊢
          simp [z1]
          exact Ev.now _
        · have z2 : ((n2 : Nat) : Int) > 0 := by omega
          rw [y1] at z1
          simp [y1, y2, z1, z2]
          exact Ev.now _
      · have z1 : ((n1' : Nat) : Int) < c := by omega
        by_cases y2 : n2 = 0
        · have z2 : ¬ (((n2 : Nat) : Int) > 0) := by omega
          simp [y1, y2, z1]
          exact Ev.now _
        · have z2 : ((n2 : Nat) : Int) > 0 := by omega
          simp [y1, y2, z1, z2]
          exact Ev.now _
    · have eb2 : belowV c lim w ls lw hs hw (x + 1) = (0, false) := by unfold belowV; rw [if_neg (by omega)]
      have hL : lastV c lim w ls lw hs hw x = (0, false) := by unfold lastV; rw [if_neg (by omega)]
      rw [eb2, hL]
      exact counts_bad _ _ _ _ _ _ _ _ _ _ _
  · have eb : belowV c lim w ls lw hs hw x = (0, false) := by unfold belowV; rw [if_neg q]
    have hL : lastV c lim w ls lw hs hw x = (0, false) := by unfold lastV; rw [if_neg (fun r => q ⟨r.1, r.2.1, by omega⟩)]
    rw [eb, hL]
    simp only [Bool.false_eq_true, ↓reduceIte]
    exact counts_bad _ _ _ _ _ _ _ _ _ _ _
theorem and255 (x : Int) : 0 ≤ Go.bits .and .u64 x 255 ∧ Go.bits .and .u64 x 255 ≤ 255 := by
  have e : Go.bits .and .u64 x 255 = IntKind.u64.wrap ((((BitVec.ofInt 64 x) &&& (BitVec.ofInt 64 255)).toNat : Nat) : Int) := rfl
  have h1 : ((BitVec.ofInt 64 x) &&& (BitVec.ofInt 64 255)).toNat ≤ 255 := by
    rw [BitVec.toNat_and]
    exact Nat.le_trans Nat.and_le_right (by decide)
  generalize ((BitVec.ofInt 64 x) &&& (BitVec.ofInt 64 255)).toNat = n at *
  have e2 : IntKind.u64.wrap (n : Int) = (n : Int) := by
    simp only [IntKind.wrap_u64]
    omega
  rw [e, e2]
  omega
def small (l : List Int) : Prop := l.length ≤ 1048576 ∧ ∀ x ∈ l, 0 ≤ x ∧ x ≤ 255
theorem small_rd {l : List Int} (h : small l) (i : Int) : 0 ≤ rd l i ∧ rd l i ≤ 255 := by
  unfold rd
  rw [List.getD_eq_getElem?_getD]
  cases e : l[i.toNat]? with
  | none => simp
  | some x => simpa using h.2 x (List.mem_of_getElem? e)
/-- A draw: at whatever place up to a bound, it gives something right, and goes on by so many places at the most. -/
def Draw {α : Type} (g : Int → Int → Option (α × Int × Int)) (m : Int) (P : α → Prop) : Prop := ∀ a s : Int, 0 ≤ a → a + m ≤ 4000000000000000000 → ∃ r a' s', g a s = some (r, a', s') ∧ P r ∧ a ≤ a' ∧ a' ≤ a + m
def DrawEv {α : Type} (g : Nat → Int → Int → Option (α × Int × Int)) (m : Int) (P : α → Prop) : Prop := ∀ a s : Int, 0 ≤ a → a + m ≤ 4000000000000000000 → ∃ r a' s', Ev (fun k => g k a s) (r, a', s') ∧ P r ∧ a ≤ a' ∧ a' ≤ a + m
theorem next_draw {l : List Int} (h : small l) : Draw (spec_l1Cur_next.f l) 1 (fun r => 0 ≤ r ∧ r ≤ 255) := by
  intro a s h0 h1
  have hr := small_rd h a
  have hl := h.1
  have w1 : wrap64 (rd l a) = rd l a := w64 (by omega) (by omega)
  have w2 : wrap64 (a + 1) = a + 1 := w64 (by omega) (by omega)
  unfold spec_l1Cur_next.f
  rw [w1, w2]
  by_cases c : a < (l.length : Int)
  · have c2 : a + 1 ≤ (l.length : Int) := by omega
    simp only [c, h0, c2, ↓reduceIte]
    exact ⟨_, _, _, rfl, hr, by omega, by omega⟩
  · have c2 : ¬ (a + 1 ≤ (l.length : Int)) := by omega
    simp only [c, c2, ↓reduceIte]
    have h2 := and255 (IntKind.u64.wrap (IntKind.u64.wrap (IntKind.u64.wrap (s * 6364136223846793005)) + 1442695040888963407) / 1099511627776)
    rw [w64 (n := Go.bits .and .u64 _ 255) (by omega) (by omega)]
    exact ⟨_, _, _, rfl, h2, by omega, by omega⟩
theorem pick_draw {l : List Int} (h : small l) (n : Int) (hn : n ≤ 1000000) : Draw (fun a s => spec_l1Cur_pick.f l a s n) 2 (fun r => 0 ≤ r ∧ (r < n ∨ r = 0)) := by
  intro a s h0 h1
  simp only [spec_l1Cur_pick.f]
  by_cases c : n ≤ 1
  · simp only [c, ↓reduceIte]
    exact ⟨_, _, _, rfl, by omega, by omega, by omega⟩
  · obtain ⟨r, a', s', e, hr, ha, ha'⟩ := next_draw h a s h0 (by omega)
    have hn0 : ¬ (n = 0) := by omega
    simp only [c, ↓reduceIte, e, Option.bind_some, hn0]
    by_cases c2 : n > 200
    · obtain ⟨r2, a2, s2, e2, hr2, ha2, ha2'⟩ := next_draw h a' s' (by omega) (by omega)
      simp only [c2, ↓reduceIte, e2, Option.bind_some]
      refine ⟨_, _, _, rfl, ?_, by omega, by omega⟩
      rw [w64 (n := r * 256) (by omega) (by omega), w64 (n := r * 256 + r2) (by omega) (by omega), tmod_pos (by omega)]
      exact ⟨Int.emod_nonneg _ (by omega), .inl (Int.emod_lt_of_pos _ (by omega))⟩
    · simp only [c2, ↓reduceIte]
      refine ⟨_, _, _, rfl, ?_, by omega, by omega⟩
      rw [tmod_pos hr.1]
      exact ⟨Int.emod_nonneg _ (by omega), .inl (Int.emod_lt_of_pos _ (by omega))⟩
theorem among_draw {l : List Int} (h : small l) (xs : List Int) (hx : 0 < xs.length) (hx2 : xs.length ≤ 1000) : Draw (fun a s => spec_l1Cur_among.f l a s xs) 2 (fun r => r ∈ xs) := by
  intro a s h0 h1
  obtain ⟨r, a', s', e, hr, ha, ha'⟩ := pick_draw h (xs.length : Int) (by omega) a s h0 h1
  have c : r < (xs.length : Int) := by omega
  obtain ⟨n, rfl⟩ := Int.eq_ofNat_of_zero_le hr.1
  simp only [spec_l1Cur_among.f, e, Option.bind_some, hr.1, c, ↓reduceIte]
  refine ⟨_, _, _, rfl, ?_, ha, ha'⟩
  rw [rd_nat xs n (by omega)]
  exact List.getElem_mem _
theorem one_draw {l : List Int} (h : small l) (n : Int) (hn : n ≤ 1000000) : Draw (fun a s => spec_l1Cur_one.f l a s n) 2 (fun _ => True) := by
  intro a s h0 h1
  obtain ⟨r, a', s', e, hr, ha, ha'⟩ := pick_draw h n hn a s h0 h1
  simp only [spec_l1Cur_one.f, e, Option.bind_some]
  exact ⟨_, _, _, rfl, trivial, ha, ha'⟩
theorem strOfNums_size (l : List Int) : (strOfNums l).size = l.length := by simp [strOfNums, ByteArray.size]
theorem small_of {l : List Int} (h1 : l.length ≤ 1048576) (h2 : ∀ x ∈ l, (Lit.int .u8 x).wf = true) : small l := by
  refine ⟨h1, fun x hx => ?_⟩
  have := h2 x hx
  simpa [Lit.wf, IntKind.min, IntKind.max, IntKind.signed, IntKind.bits] using this
theorem limit_draw {l : List Int} (h : small l) : Draw (spec_l1Cur_limit.f l) 4 (fun r => -1 ≤ r ∧ r ≤ 100001) := by
  intro a s h0 h1
  obtain ⟨r, a1, s1, e1, hr, g1, g1'⟩ := pick_draw h 8 (by decide) a s h0 (by omega)
  simp only [spec_l1Cur_limit.f, e1, Option.bind_some]
  by_cases c0 : r = 0
  · obtain ⟨r2, a2, s2, e2, hr2, g2, g2'⟩ := among_draw h [(-1), 0, 1, 2, 100000, 100001] (by decide) (by decide) a1 s1 (by omega) (by omega)
    simp only [c0, ↓reduceIte, e2, Option.bind_some]
    refine ⟨_, _, _, rfl, ?_, by omega, by omega⟩
    simp only [List.mem_cons, List.not_mem_nil, or_false] at hr2
    omega
  · by_cases c1 : r = 1
    · obtain ⟨r2, a2, s2, e2, hr2, g2, g2'⟩ := pick_draw h 100000 (by decide) a1 s1 (by omega) (by omega)
      simp only [c1, ↓reduceIte, e2, Option.bind_some, show ¬ ((1 : Int) = 0) from by decide]
      refine ⟨_, _, _, rfl, ?_, by omega, by omega⟩
      rw [w64 (by omega) (by omega)]
      omega
    · obtain ⟨r2, a2, s2, e2, hr2, g2, g2'⟩ := pick_draw h 150 (by decide) a1 s1 (by omega) (by omega)
      simp only [c0, c1, ↓reduceIte, e2, Option.bind_some]
      refine ⟨_, _, _, rfl, ?_, by omega, by omega⟩
      rw [w64 (by omega) (by omega)]
      omega
theorem spBits_l0 {l : List Int} (h : small l) (d : Nat) : ∀ (x : List Bool) (a s : Int), x.length + d ≤ 1000 → 0 ≤ a → a + 2 * (d : Int) ≤ 2000000000 →
    ∃ n ws a' s', Ev (fun k => spec_l1Cur_bits.l0 k x (d : Int) l a s) (n, ws, a', s') ∧ ws.length ≤ 1000 ∧ (0 ≤ n ∧ n ≤ 1000) ∧ a ≤ a' ∧ a' ≤ a + 2 * (d : Int) := by
  induction d with
  | zero =>
    intro x a s hx h0 h1
    refine ⟨(x.length : Int), fromW (fun p => rdOf false x (p : Int)) 0 x.length (blankW (x.length : Int)), a, s, Ev.succ ?_, ?_, by omega, by omega, by omega⟩
    · have hz : ¬ (((0 : Nat) : Int) > 0) := by omega
      simp only [spec_l1Cur_bits.l0, hz, ↓reduceIte]
      exact Ev.bind (biSome_v x (by omega)) (Ev.now _)
    · rw [fromW_length, blankW_length]
      omega
  | succ d ih =>
    intro x a s hx h0 h1
    obtain ⟨r, a1, s1, e1, _, h2, h2'⟩ := one_draw h 2 (by decide) a s h0 (by omega)
    obtain ⟨n, ws, a2, s2, e2, hl, hn, h3, h3'⟩ := ih (x ++ [r]) a1 s1 (by rw [List.length_append, List.length_singleton]; omega) (by omega) (by omega)
    refine ⟨n, ws, a2, s2, Ev.succ ?_, hl, hn, by omega, by omega⟩
    have hw : wrap64 (((d + 1 : Nat) : Int) - 1) = (d : Int) := by rw [w64 (by omega) (by omega)]; omega
    have hp : ((d + 1 : Nat) : Int) > 0 := by omega
    have hx2 : x.length < 140737488355328 := by omega
    simp only [spec_l1Cur_bits.l0, hp, ↓reduceIte, e1, Option.bind_some, hx2, hw]
    exact e2
theorem spBits_ev {l : List Int} (h : small l) (a s : Int) (ha : 0 ≤ a) (ha' : a ≤ 1000000) : ∃ n ws a' s', Ev (fun k => spec_l1Cur_bits.f k l a s 40) (n, ws, a', s') ∧ ws.length ≤ 1000 ∧ (0 ≤ n ∧ n ≤ 1000) ∧ a ≤ a' ∧ a' ≤ a + 1002 := by
  have hw : wrap64 ((40 : Int) + 1) = 41 := by rw [w64 (by omega) (by omega)]; rfl
  obtain ⟨r, a1, s1, e1, hr, h1, h1'⟩ := pick_draw h 41 (by omega) a s ha (by omega)
  obtain ⟨d, rfl⟩ := Int.eq_ofNat_of_zero_le hr.1
  obtain ⟨n, ws, a2, s2, e2, hl, hn, h2, h2'⟩ := spBits_l0 h d [] a1 s1 (by rw [List.length_nil]; omega) (by omega) (by omega)
  refine ⟨n, ws, a2, s2, ?_, hl, hn, by omega, by omega⟩
  unfold spec_l1Cur_bits.f
  simp only [hw, e1, Option.bind_some]
  exact e2
theorem spAny_ev {l : List Int} (h : small l) (a s : Int) (ha : 0 ≤ a) (ha' : a ≤ 1000000) : ∃ n ws a' s', Ev (fun k => spec_l1Cur_anyBits.f k l a s) (n, ws, a', s') ∧ ws.length ≤ 2000 ∧ a ≤ a' ∧ a' ≤ a + 1100 := by
  obtain ⟨n, ws, a1, s1, e1, hl, hn, g1, g1'⟩ := spBits_ev h a s ha ha'
  obtain ⟨r, a2, s2, e2, hr, g2, g2'⟩ := pick_draw h 16 (by decide) a1 s1 (by omega) (by omega)
  unfold spec_l1Cur_anyBits.f
  by_cases c0 : r = 0
  · obtain ⟨r3, a3, s3, e3, hr3, g3, g3'⟩ := pick_draw h 2 (by decide) a2 s2 (by omega) (by omega)
    refine ⟨n, ws ++ [r3], a3, s3, Ev.bind e1 ?_, by rw [List.length_append, List.length_singleton]; omega, by omega, by omega⟩
    simp only [e2, Option.bind_some, c0, ↓reduceIte, e3, show ws.length < 17592186044416 from by omega]
    exact Ev.now _
  by_cases c1 : r = 1
  · obtain ⟨r3, a3, s3, e3, hr3, g3, g3'⟩ := pick_draw h 3 (by decide) a2 s2 (by omega) (by omega)
    refine ⟨wrap64 (n + (wrap64 (r3 - 1))), ws, a3, s3, Ev.bind e1 ?_, by omega, by omega, by omega⟩
    simp only [e2, Option.bind_some, c0, c1, ↓reduceIte, e3, show ¬ ((1 : Int) = 0) from by decide]
    exact Ev.now _
  by_cases c2 : r = 2
  · by_cases z : (ws.length : Int) > 0
    · obtain ⟨r3, a3, s3, e3, hr3, g3, g3'⟩ := pick_draw h (ws.length : Int) (by omega) a2 s2 (by omega) (by omega)
      obtain ⟨r4, a4, s4, e4, hr4, g4, g4'⟩ := among_draw h [(-1), 65535, 65536, 40000] (by decide) (by decide) a3 s3 (by omega) (by omega)
      refine ⟨n, ws.set r3.toNat r4, a4, s4, Ev.bind e1 ?_, by rw [List.length_set]; omega, by omega, by omega⟩
      simp only [e2, Option.bind_some, c0, c1, c2, ↓reduceIte, z, e3, e4, show ¬ ((2 : Int) = 0) from by decide, show ¬ ((2 : Int) = 1) from by decide, hr3.1, show r3 < (ws.length : Int) from by omega]
      exact Ev.now _
    · refine ⟨n, ws, a2, s2, Ev.bind e1 ?_, by omega, by omega, by omega⟩
      simp only [e2, Option.bind_some, c0, c1, c2, ↓reduceIte, z, show ¬ ((2 : Int) = 0) from by decide, show ¬ ((2 : Int) = 1) from by decide]
      exact Ev.now _
  by_cases c3 : r = 3
  · obtain ⟨r3, a3, s3, e3, hr3, g3, g3'⟩ := pick_draw h 2 (by decide) a2 s2 (by omega) (by omega)
    have wv : wrap64 (4096 - r3) = 4096 - r3 := w64 (by omega) (by omega)
    refine ⟨4096 - r3, List.replicate ((4096 - r3 + 15) / 16).toNat 0, a3, s3, Ev.bind e1 ?_, ?_, by omega, by omega⟩
    · simp only [e2, Option.bind_some, c0, c1, c2, c3, ↓reduceIte, e3, wv, spec_biNew_eq (4096 - r3) (by omega) (by omega), show ¬ ((3 : Int) = 0) from by decide, show ¬ ((3 : Int) = 1) from by decide, show ¬ ((3 : Int) = 2) from by decide]
      exact Ev.now _
    · rw [List.length_replicate]; omega
  by_cases c4 : r = 4
  · obtain ⟨r3, a3, s3, e3, hr3, g3, g3'⟩ := pick_draw h 5 (by decide) a2 s2 (by omega) (by omega)
    have wv : wrap64 (16 * r3) = 16 * r3 := w64 (by omega) (by omega)
    refine ⟨16 * r3, List.replicate ((16 * r3 + 15) / 16).toNat 0, a3, s3, Ev.bind e1 ?_, by rw [List.length_replicate]; omega, by omega, by omega⟩
    simp only [e2, Option.bind_some, c0, c1, c2, c3, c4, ↓reduceIte, e3, wv, spec_biNew_eq (16 * r3) (by omega) (by omega), show ¬ ((4 : Int) = 0) from by decide, show ¬ ((4 : Int) = 1) from by decide, show ¬ ((4 : Int) = 2) from by decide, show ¬ ((4 : Int) = 3) from by decide]
    exact Ev.now _
  · refine ⟨n, ws, a2, s2, Ev.bind e1 ?_, by omega, by omega, by omega⟩
    simp only [e2, Option.bind_some, c0, c1, c2, c3, c4, ↓reduceIte]
    exact Ev.now _
theorem l1Own_eq (l : List Int) (h : l.length < 17592186044416) : spec_l1Own.f l = some l := by
  have h' : ([] : List Int).length + l.length < 17592186044416 := by rw [List.length_nil]; omega
  simp only [spec_l1Own.f, Option.bind_some, h', ↓reduceIte, List.nil_append]
theorem spSorted_l1 (l : List Int) (lim n x a s : Int) (y : List Int) (hy : y.length ≤ 1000) (Q : List Int → Int → Prop)
    (hc : ∀ z : List Int, z.length = y.length + 1 → ∃ r a' s', Ev (fun k => spec_l1Cur_sorted.l0 k lim z (wrap64 (n - 1)) l a s) (r, a', s') ∧ Q r a') (d : Nat) :
    ∀ i : Nat, i + d = y.length → ∃ r a' s', Ev (fun k => spec_l1Cur_sorted.l1 k lim y n x (i : Int) l a s) (r, a', s') ∧ Q r a' := by
  have hend : ∀ i : Nat, i ≤ y.length → (y.take i).length + ([x] : List Int).length < 17592186044416 ∧ (y.take i ++ [x]).length + (y.drop i).length < 17592186044416 ∧ (y.take i).length < 17592186044416 ∧ ∃ r a' s', Ev (fun k => spec_l1Cur_sorted.l0 k lim (y.take i ++ [x] ++ y.drop i) (wrap64 (n - 1)) l a s) (r, a', s') ∧ Q r a' := by
    intro i hi
    have e1 : (y.take i).length = i := by rw [List.length_take]; omega
    have e2 : (y.drop i).length = y.length - i := List.length_drop
    have e3 : ([x] : List Int).length = 1 := rfl
    refine ⟨by omega, by rw [List.length_append]; omega, by omega, hc _ ?_⟩
    rw [List.length_append, List.length_append]
    omega
  induction d with
  | zero =>
    intro i hi
    obtain ⟨h1, h2, h3, r, a', s', e, hq⟩ := hend i (by omega)
    refine ⟨r, a', s', Ev.succ ?_, hq⟩
    have c1 : ¬ ((i : Int) < (y.length : Int)) := by omega
    have c2 : (0 : Int) ≤ (i : Int) := by omega
    have c3 : (i : Int) ≤ (y.length : Int) := by omega
    simp only [spec_l1Cur_sorted.l1, c1, c2, c3, ↓reduceIte, Int.toNat_natCast, l1Own_eq _ h3, Option.bind_some, h1, h2]
    exact e
  | succ d ih =>
    intro i hi
    have c1 : (i : Int) < (y.length : Int) := by omega
    have c2 : (0 : Int) ≤ (i : Int) := by omega
    have c3 : (i : Int) ≤ (y.length : Int) := by omega
    by_cases c : rd y (i : Int) ≤ x
    · obtain ⟨r, a', s', e, hq⟩ := ih (i + 1) (by omega)
      have hw : wrap64 ((i : Int) + 1) = ((i + 1 : Nat) : Int) := by rw [w64 (by omega) (by omega)]; rfl
      refine ⟨r, a', s', Ev.succ ?_, hq⟩
      simp only [spec_l1Cur_sorted.l1, c1, c2, c, hw, ↓reduceIte]
      exact e
    · obtain ⟨h1, h2, h3, r, a', s', e, hq⟩ := hend i (by omega)
      refine ⟨r, a', s', Ev.succ ?_, hq⟩
      simp only [spec_l1Cur_sorted.l1, c1, c2, c3, c, ↓reduceIte, Int.toNat_natCast, l1Own_eq _ h3, Option.bind_some, h1, h2]
      exact e
theorem spSorted_j3 {l : List Int} (h : small l) (lim : Int) (y : List Int) (hy : y.length ≤ 100) (b : Bool) (hb : b = true → 0 < y.length) (a s : Int) (ha : 0 ≤ a) (ha' : a ≤ 2000000000) :
    ∃ r a' s', Ev (fun k => spec_l1Cur_sorted.j3 k lim y b l a s) (r, a', s') ∧ r.length ≤ 100 ∧ a ≤ a' ∧ a' ≤ a + 4 := by
  cases b with
  | false =>
    refine ⟨y, a, s, Ev.succ ?_, hy, by omega, by omega⟩
    simp only [spec_l1Cur_sorted.j3, Bool.false_eq_true, ↓reduceIte]
    exact Ev.now _
  | true =>
    have hp := hb rfl
    obtain ⟨r, a1, s1, e1, hr, h1, h1'⟩ := pick_draw h (y.length : Int) (by omega) a s ha (by omega)
    obtain ⟨v, a2, s2, e2, _, h2, h2'⟩ := among_draw h [(-1), 0, lim, wrap64 (lim - 1)] (by rw [show ([(-1), 0, lim, wrap64 (lim - 1)] : List Int).length = 4 from rfl]; omega) (by rw [show ([(-1), 0, lim, wrap64 (lim - 1)] : List Int).length = 4 from rfl]; omega) a1 s1 (by omega) (by omega)
    refine ⟨y.set r.toNat v, a2, s2, Ev.succ ?_, by rw [List.length_set]; exact hy, by omega, by omega⟩
    have c1 : r < (y.length : Int) := by omega
    simp only [spec_l1Cur_sorted.j3, ↓reduceIte, e1, Option.bind_some, e2, hr.1, c1]
    exact Ev.now _
theorem most_one (lim : Int) (h : lim ≤ 1000000) : ∃ q, spec_l1Most.f lim 1 = some q ∧ q ≤ 1000000 := by
  unfold spec_l1Most.f
  by_cases c : lim > 1
  · exact ⟨lim, by rw [if_pos c], h⟩
  · exact ⟨1, by rw [if_neg c], by decide⟩
theorem most_zero (n : Int) (h : n ≤ 1000000) : ∃ q, spec_l1Most.f n 0 = some q ∧ 0 ≤ q ∧ q ≤ 1000000 := by
  unfold spec_l1Most.f
  by_cases c : n > 0
  · exact ⟨n, by rw [if_pos c], by omega, h⟩
  · exact ⟨0, by rw [if_neg c], by decide, by decide⟩
theorem spSorted_l0 {l : List Int} (h : small l) (lim : Int) (hlim : lim ≤ 1000000) (d : Nat) : ∀ (y : List Int) (a s : Int), y.length + d ≤ 100 → 0 ≤ a → a + 2 * (d : Int) + 6 ≤ 2000000000 →
    ∃ r a' s', Ev (fun k => spec_l1Cur_sorted.l0 k lim y (d : Int) l a s) (r, a', s') ∧ r.length ≤ 100 ∧ a ≤ a' ∧ a' ≤ a + 2 * (d : Int) + 6 := by
  induction d with
  | zero =>
    intro y a s hy h0 h1
    obtain ⟨b, a1, s1, e1, _, g1, g1'⟩ := one_draw h 12 (by decide) a s h0 (by omega)
    have hz : ¬ (((0 : Nat) : Int) > 0) := by omega
    cases b with
    | true =>
      obtain ⟨r, a2, s2, e2, hr, g2, g2'⟩ := spSorted_j3 h lim y (by omega) (decide ((y.length : Int) > 0)) (fun q => by have := of_decide_eq_true q; omega) a1 s1 (by omega) (by omega)
      refine ⟨r, a2, s2, Ev.succ ?_, hr, by omega, by omega⟩
      simp only [spec_l1Cur_sorted.l0, hz, ↓reduceIte, e1, Option.bind_some]
      exact e2
    | false =>
      obtain ⟨r, a2, s2, e2, hr, g2, g2'⟩ := spSorted_j3 h lim y (by omega) false (fun q => by cases q) a1 s1 (by omega) (by omega)
      refine ⟨r, a2, s2, Ev.succ ?_, hr, by omega, by omega⟩
      simp only [spec_l1Cur_sorted.l0, hz, ↓reduceIte, e1, Option.bind_some, Bool.false_eq_true]
      exact e2
  | succ d ih =>
    intro y a s hy h0 h1
    have hp : ((d + 1 : Nat) : Int) > 0 := by omega
    have hw : wrap64 (((d + 1 : Nat) : Int) - 1) = (d : Int) := by rw [w64 (by omega) (by omega)]; omega
    obtain ⟨q, eq_, hq⟩ := most_one lim hlim
    obtain ⟨x, a1, s1, e1, _, g1, g1'⟩ := pick_draw h q hq a s h0 (by omega)
    obtain ⟨r, a2, s2, e2, hr, g2, g2'⟩ := spSorted_l1 l lim ((d + 1 : Nat) : Int) x a1 s1 y (by omega) (fun r a' => r.length ≤ 100 ∧ a1 ≤ a' ∧ a' ≤ a1 + 2 * (d : Int) + 6)
      (fun z hz => by rw [hw]; exact ih z a1 s1 (by omega) (by omega) (by omega)) y.length 0 (by omega)
    refine ⟨r, a2, s2, Ev.succ ?_, hr, by omega, by omega⟩
    simp only [spec_l1Cur_sorted.l0, hp, ↓reduceIte, eq_, e1, Option.bind_some]
    exact e2
theorem spSorted_ev {l : List Int} (h : small l) (lim : Int) (hlim : lim ≤ 1000000) (a s : Int) (ha : 0 ≤ a) (ha' : a ≤ 1000000) :
    ∃ r a' s', Ev (fun k => spec_l1Cur_sorted.f k l a s lim) (r, a', s') ∧ r.length ≤ 100 ∧ a ≤ a' ∧ a' ≤ a + 200 := by
  obtain ⟨n, a1, s1, e1, hn, g1, g1'⟩ := pick_draw h 9 (by decide) a s ha (by omega)
  obtain ⟨b, a2, s2, e2, _, g2, g2'⟩ := one_draw h 24 (by decide) a1 s1 (by omega) (by omega)
  unfold spec_l1Cur_sorted.f
  cases b with
  | true =>
    obtain ⟨v, a3, s3, e3, hv, g3, g3'⟩ := pick_draw h 2 (by decide) a2 s2 (by omega) (by omega)
    obtain ⟨d, rfl⟩ := Int.eq_ofNat_of_zero_le hv.1
    have hw : wrap64 (60 + (d : Int)) = ((60 + d : Nat) : Int) := by rw [w64 (by omega) (by omega)]; rfl
    obtain ⟨r, a4, s4, e4, hr, g4, g4'⟩ := spSorted_l0 h lim hlim (60 + d) [] a3 s3 (by rw [List.length_nil]; omega) (by omega) (by omega)
    refine ⟨r, a4, s4, ?_, hr, by omega, by omega⟩
    simp only [e1, e2, e3, Option.bind_some, ↓reduceIte, hw]
    exact Ev.succ e4
  | false =>
    obtain ⟨d, rfl⟩ := Int.eq_ofNat_of_zero_le hn.1
    obtain ⟨r, a4, s4, e4, hr, g4, g4'⟩ := spSorted_l0 h lim hlim d [] a2 s2 (by rw [List.length_nil]; omega) (by omega) (by omega)
    refine ⟨r, a4, s4, ?_, hr, by omega, by omega⟩
    simp only [e1, e2, Option.bind_some, ↓reduceIte, Bool.false_eq_true]
    exact Ev.succ e4
theorem biAt_some (n : Int) (l : List Int) (i : Nat) (hi : i / 16 < l.length) (hi2 : i ≤ 1000000) : ∃ b, spec_biAt.f n l (i : Int) = some b := by
  unfold spec_biAt.f
  have e1 : Int.tdiv (i : Int) 16 = ((i / 16 : Nat) : Int) := by rw [tdiv_pos (by omega)]; rfl
  have e2 : Int.tmod (i : Int) 16 = ((i % 16 : Nat) : Int) := by rw [tmod_pos (by omega)]; rfl
  rw [e1, e2, w64 (n := ((i / 16 : Nat) : Int)) (by omega) (by omega), if_pos (by omega), if_pos (by omega), if_pos (by omega)]
  exact ⟨_, rfl⟩
theorem spList_l0 (l : List Int) (q : Nat) (hl : q ≤ 16 * l.length) (hh : q ≤ 100000) (d : Nat) : ∀ (i : Nat) (x : List Bool), i + d = q → x.length + d ≤ 200000 → ∃ r, Ev (fun k => spec_biList.l0 k x (i : Int) (q : Int) l) r ∧ r.length = x.length + d := by
  induction d with
  | zero =>
    intro i x hi hx
    refine ⟨x, Ev.succ ?_, rfl⟩
    have h1 : ¬ ((i : Int) < (q : Int)) := by omega
    simp only [spec_biList.l0, h1, ↓reduceIte]
    exact Ev.now _
  | succ d ih =>
    intro i x hi hx
    obtain ⟨b, eb⟩ := biAt_some (q : Int) l i (by omega) (by omega)
    obtain ⟨r, e, hr⟩ := ih (i + 1) (x ++ [b]) (by omega) (by rw [List.length_append, List.length_singleton]; omega)
    rw [List.length_append, List.length_singleton] at hr
    refine ⟨r, Ev.succ ?_, by omega⟩
    have h1 : (i : Int) < (q : Int) := by omega
    have hw : wrap64 ((i : Int) + 1) = ((i + 1 : Nat) : Int) := by rw [w64 (by omega) (by omega)]; rfl
    have hx2 : x.length < 140737488355328 := by omega
    simp only [spec_biList.l0, h1, ↓reduceIte, eb, Option.bind_some, hx2, hw]
    exact e
theorem spListB_ev (l : List Int) (q : Nat) (hl : q ≤ 16 * l.length) (hh : q ≤ 100000) : ∃ r, Ev (fun k => spec_biList.f k (q : Int) l) r ∧ r.length = q := by
  obtain ⟨r, e, hr⟩ := spList_l0 l q hl hh q 0 [] (by omega) (by rw [List.length_nil]; omega)
  rw [List.length_nil, Nat.zero_add] at hr
  exact ⟨r, e, hr⟩
/-- What is asked of a drawn Sparse. -/
structure Drawn (c lim : Int) (lw hw : List Int) : Prop where
  c : -100 ≤ c ∧ c ≤ 1000
  lim : -100 ≤ lim ∧ lim ≤ 200000
  lw : lw.length ≤ 3000
  hw : hw.length ≤ 3000
theorem spSparse_j0 {l : List Int} (h : small l) {ns : List Int} {m w : Nat} (q : Nums ns m w) (a s : Int) (ha : 0 ≤ a) (ha' : a ≤ 900000) :
    ∃ c lim w ls lw hs hw a' s', Ev (fun k => spec_l1Cur_sparse.j0 k (m : Int) ns l a s) (c, lim, w, ls, lw, hs, hw, a', s') ∧ Drawn c lim lw hw ∧ a ≤ a' ∧ a' ≤ a + 1500 := by
  have hlow := q.low
  have hhi := q.hi
  have hlen := q.len
  have hm1 := q.m1
  have hm2 := q.m2
  have hw17 := q.w17
  have hof := spec_spOf_ev q
  unfold sparseV at hof
  have hl1 : (lowW ns w).length ≤ 3000 := by unfold lowW; rw [fromW_length, blankW_length]; omega
  have hl2 : (hiW ns m w).length = (hiN ns m w + 15) / 16 := by unfold hiW; rw [fromW_length, blankW_length]
  have hh0 : 0 < hiN ns m w := by unfold hiN; exact Nat.succ_pos _
  clear q
  generalize lowW ns w = lw at *
  generalize hiW ns m w = hw at *
  generalize hiN ns m w = hn at *
  generalize ns.length * w = ln at *
  obtain ⟨r, a1, s1, e1, hr, g1, g1'⟩ := pick_draw h 14 (by decide) a s ha (by omega)
  by_cases c0 : r = 0
  · obtain ⟨v, a2, s2, e2, hv, g2, g2'⟩ := pick_draw h 3 (by decide) a1 s1 (by omega) (by omega)
    refine ⟨(ns.length : Int), (m : Int), wrap64 ((w : Int) + wrap64 (v - 1)), (ln : Int), lw, (hn : Int), hw, a2, s2, Ev.succ ?_, ⟨by omega, by omega, by omega, by omega⟩, by omega, by omega⟩
    simp only [spec_l1Cur_sparse.j0]
    refine Ev.bind hof ?_
    simp only [e1, Option.bind_some, c0, ↓reduceIte, e2]
    exact Ev.now _
  by_cases c1 : r = 1
  · obtain ⟨v, a2, s2, e2, hv, g2, g2'⟩ := pick_draw h 3 (by decide) a1 s1 (by omega) (by omega)
    have hwv : wrap64 ((ns.length : Int) + wrap64 (v - 1)) = (ns.length : Int) + (v - 1) := by rw [w64 (n := v - 1) (by omega) (by omega), w64 (by omega) (by omega)]
    refine ⟨(ns.length : Int) + (v - 1), (m : Int), (w : Int), (ln : Int), lw, (hn : Int), hw, a2, s2, Ev.succ ?_, ⟨by omega, by omega, by omega, by omega⟩, by omega, by omega⟩
    simp only [spec_l1Cur_sparse.j0]
    refine Ev.bind hof ?_
    simp only [e1, Option.bind_some, c1, ↓reduceIte, e2, hwv, show ¬ ((1 : Int) = 0) from by decide]
    exact Ev.now _
  by_cases c2 : r = 2
  · obtain ⟨v, a2, s2, e2, hv, g2, g2'⟩ := pick_draw h 3 (by decide) a1 s1 (by omega) (by omega)
    have hwv : wrap64 ((m : Int) + wrap64 (v - 1)) = (m : Int) + (v - 1) := by rw [w64 (n := v - 1) (by omega) (by omega), w64 (by omega) (by omega)]
    refine ⟨(ns.length : Int), (m : Int) + (v - 1), (w : Int), (ln : Int), lw, (hn : Int), hw, a2, s2, Ev.succ ?_, ⟨by omega, by omega, by omega, by omega⟩, by omega, by omega⟩
    simp only [spec_l1Cur_sparse.j0]
    refine Ev.bind hof ?_
    simp only [e1, Option.bind_some, c2, ↓reduceIte, e2, hwv, show ¬ ((2 : Int) = 0) from by decide, show ¬ ((2 : Int) = 1) from by decide]
    exact Ev.now _
  by_cases c3 : r = 3
  · obtain ⟨bs, eb, hbs⟩ := spListB_ev hw hn (by omega) (by omega)
    obtain ⟨v, a2, s2, e2, hv, g2, g2'⟩ := pick_draw h (bs.length : Int) (by omega) a1 s1 (by omega) (by omega)
    have hset : (bs.set v.toNat (!(rdOf false bs v))).length = hn := by rw [List.length_set, hbs]
    have e3 := biSome_v (bs.set v.toNat (!(rdOf false bs v))) (by rw [hset]; omega)
    have hl3 : (fromW (fun p => rdOf false (bs.set v.toNat (!(rdOf false bs v))) (p : Int)) 0 (bs.set v.toNat (!(rdOf false bs v))).length (blankW ((bs.set v.toNat (!(rdOf false bs v))).length : Int))).length ≤ 3000 := by
      rw [fromW_length, blankW_length, hset]; omega
    generalize fromW (fun p => rdOf false (bs.set v.toNat (!(rdOf false bs v))) (p : Int)) 0 (bs.set v.toNat (!(rdOf false bs v))).length (blankW ((bs.set v.toNat (!(rdOf false bs v))).length : Int)) = nw at *
    refine ⟨(ns.length : Int), (m : Int), (w : Int), (ln : Int), lw, ((bs.set v.toNat (!(rdOf false bs v))).length : Int), nw, a2, s2, Ev.succ ?_, ⟨by omega, by omega, by omega, by omega⟩, by omega, by omega⟩
    simp only [spec_l1Cur_sparse.j0]
    refine Ev.bind hof ?_
    have hv2 : v < (bs.length : Int) := by omega
    simp only [e1, Option.bind_some, c3, ↓reduceIte, show ¬ ((3 : Int) = 0) from by decide, show ¬ ((3 : Int) = 1) from by decide, show ¬ ((3 : Int) = 2) from by decide]
    refine Ev.bind eb ?_
    simp only [e2, Option.bind_some, hv.1, hv2, ↓reduceIte]
    exact Ev.bind e3 (Ev.now _)
  by_cases c4 : r = 4
  · obtain ⟨n, ws, a2, s2, e2, hws, g2, g2'⟩ := spAny_ev h a1 s1 (by omega) (by omega)
    refine ⟨(ns.length : Int), (m : Int), (w : Int), n, ws, (hn : Int), hw, a2, s2, Ev.succ ?_, ⟨by omega, by omega, by omega, by omega⟩, by omega, by omega⟩
    simp only [spec_l1Cur_sparse.j0]
    refine Ev.bind hof ?_
    simp only [e1, Option.bind_some, c4, ↓reduceIte, show ¬ ((4 : Int) = 0) from by decide, show ¬ ((4 : Int) = 1) from by decide, show ¬ ((4 : Int) = 2) from by decide, show ¬ ((4 : Int) = 3) from by decide]
    exact Ev.bind e2 (Ev.now _)
  · refine ⟨(ns.length : Int), (m : Int), (w : Int), (ln : Int), lw, (hn : Int), hw, a1, s1, Ev.succ ?_, ⟨by omega, by omega, by omega, by omega⟩, by omega, by omega⟩
    simp only [spec_l1Cur_sparse.j0]
    refine Ev.bind hof ?_
    simp only [e1, Option.bind_some, c0, c1, c2, c3, c4, ↓reduceIte]
    exact Ev.now _
theorem sparse_draw {l : List Int} (h : small l) (a s : Int) (ha : 0 ≤ a) (ha' : a ≤ 800000) :
    ∃ c lim w ls lw hs hw a' s', Ev (fun k => spec_l1Cur_sparse.f k l a s) (c, lim, w, ls, lw, hs, hw, a', s') ∧ Drawn c lim lw hw ∧ a ≤ a' ∧ a' ≤ a + 2000 := by
  obtain ⟨m, a1, s1, e1, hm, g1, g1'⟩ := limit_draw h a s ha (by omega)
  obtain ⟨ns, a2, s2, e2, hns, g2, g2'⟩ := spSorted_ev h m (by omega) a1 s1 (by omega) (by omega)
  have e3 := spec_spSorted_ev ns m (by omega) (by omega)
  cases c : sortedV ns m with
  | true =>
    have hm1 := (sortedV_of c).2.1
    obtain ⟨m', rfl⟩ := Int.eq_ofNat_of_zero_le (show 0 ≤ m by omega)
    obtain ⟨c', lim, w, ls, lw, hs, hw, a4, s4, e4, hd, g4, g4'⟩ := spSparse_j0 h (nums_of c) a2 s2 (by omega) (by omega)
    refine ⟨c', lim, w, ls, lw, hs, hw, a4, s4, ?_, hd, by omega, by omega⟩
    rw [c] at e3
    unfold spec_l1Cur_sparse.f
    simp only [e1, Option.bind_some]
    refine Ev.bind e2 (Ev.bind e3 ?_)
    simp only [↓reduceIte]
    exact e4
  | false =>
    have hn : sortedV [] ((20 : Nat) : Int) = true := by decide
    obtain ⟨c', lim, w, ls, lw, hs, hw, a4, s4, e4, hd, g4, g4'⟩ := spSparse_j0 h (nums_of hn) a2 s2 (by omega) (by omega)
    refine ⟨c', lim, w, ls, lw, hs, hw, a4, s4, ?_, hd, by omega, by omega⟩
    rw [c] at e3
    unfold spec_l1Cur_sparse.f
    simp only [e1, Option.bind_some]
    refine Ev.bind e2 (Ev.bind e3 ?_)
    simp only [Bool.false_eq_true, ↓reduceIte]
    exact e4
theorem spPlace_draw {l : List Int} (h : small l) (n : Int) (hn : n ≤ 900000) (a s : Int) (ha : 0 ≤ a) (ha' : a ≤ 2000000) : ∃ r a' s', spec_l1Cur_place.f l a s n = some (r, a', s') ∧ a ≤ a' ∧ a' ≤ a + 2 := by
  obtain ⟨q, eq_, hq, hq'⟩ := most_zero n (by omega)
  have hq2 : q ≤ 900000 := by
    unfold spec_l1Most.f at eq_
    by_cases c : n > 0
    · rw [if_pos c] at eq_
      cases eq_
      exact hn
    · rw [if_neg c] at eq_
      cases eq_
      decide
  have hw : wrap64 (q + 4) = q + 4 := w64 (by omega) (by omega)
  obtain ⟨v, a2, s2, e2, hv, g2, g2'⟩ := pick_draw h (q + 4) (by omega) a s ha (by omega)
  refine ⟨wrap64 (v - 1), a2, s2, ?_, g2, g2'⟩
  simp only [spec_l1Cur_place.f, eq_, Option.bind_some, hw, e2]

theorem DrawLastAtMost_ev {l : List Int} (h : small l) : ∃ c lim w ls lw hs hw x, Ev (fun k => spec_DrawLastAtMost.f k l) (c, lim, w, ls, lw, hs, hw, x) ∧ Drawn c lim lw hw := by
  obtain ⟨c, lim, w, ls, lw, hs, hw, a1, s1, e1, hd, g1, g1'⟩ := sparse_draw h 0 0 (by decide) (by decide)
  obtain ⟨r, a2, s2, e2, g2, g2'⟩ := spPlace_draw h lim (by have := hd.lim; omega) a1 s1 (by omega) (by omega)
  refine ⟨c, lim, w, ls, lw, hs, hw, r, ?_, hd⟩
  unfold spec_DrawLastAtMost.f
  refine Ev.bind e1 ?_
  simp only [e2, Option.bind_some]
  exact Ev.now _
theorem FnSparseCounts : laws_FnSparseCounts.Pure := by
  intro l m hl0 _ hl hm0 _ hm
  refine Ev.rounds ?_
  have h0 : l.length ≤ 9223372036854775807 := by unfold maxLen at hl0; exact hl0
  have h1 : m.length ≤ 9223372036854775807 := by unfold maxLen at hm0; exact hm0
  unfold laws_FnSparseCounts.f laws_big.f
  by_cases c : (l.length : Int) > 1048576
  · simp only [c, ↓reduceIte, Option.bind_some]
    exact Ev.now _
  have hw : wrap64 (1048576 - (l.length : Int)) = 1048576 - (l.length : Int) := w64 (by omega) (by omega)
  simp only [c, ↓reduceIte, Option.bind_some, hw]
  by_cases c1 : (m.length : Int) > 1048576 - (l.length : Int)
  · simp only [c1, decide_true, ↓reduceIte]
    exact Ev.now _
  simp only [c1, decide_false, Bool.false_eq_true, ↓reduceIte]
  obtain ⟨c', lim, w, ls, lw, hs, hw', x, e, hd⟩ := DrawLastAtMost_ev (small_of (by omega) hl)
  have q1 := hd.lw
  have q2 := hd.hw
  refine Ev.bind e (Ev.bind (impl_LastAtMost_ev c' lim w ls lw hs hw' x (by omega) (by omega)) (Ev.bind (spec_LastAtMost_ev c' lim w ls lw hs hw' x (by omega) (by omega)) ?_))
  simp only [bne_self_eq_false, Bool.false_eq_true, ↓reduceIte]
  exact counts_core c' lim w ls lw hs hw' x (by omega) (by omega)

end Go.Proofs.Ytllaofiopnhdgaa.Pure
