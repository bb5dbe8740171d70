/- The parts of a Sparse are its slices, and merging two of them gives the whole again. -/
import Derived.Test.YtllaofiopnhdgaaPFnSparsePartsx18
import Derived.Test.YtllaofiopnhdgaaTBase
namespace Go.Proofs.Ytllaofiopnhdgaa.Pure
open Go.RowKit Go.Proofs.Ytllaofiopnhdgaa.PFnSparseParts Go.Proofs.YtllaofiopnhdgaaW.PrintWords Go.Proofs.YtllaofiopnhdgaaW.PrintLast Go.Proofs.Ytllaofiopnhdgaa.Base Go.Proofs.Ytllaofiopnhdgaa.Base Go.Proofs.Ytllaofiopnhdgaa.Base Go.Proofs.Ytllaofiopnhdgaa.Base Go.Proofs.Ytllaofiopnhdgaa.Base Go.Proofs.Ytllaofiopnhdgaa.Base
set_option linter.unusedVariables false
set_option linter.unusedSimpArgs false

theorem Yq1 {p : Prop} (h : p := by omega) : p := h
theorem Yq2 {p : Prop} (h : p := by decide) : p := h
theorem Yq3 {p : Prop} (h : p := by simp) : p := h
theorem Yq4 {p : Prop} (h : p := by rw [List.length_append, List.length_singleton]; omega) : p := h
theorem Yq5 {p : Prop} (h : p := by rw [show ([(-1), 0, lim, wrap64 (lim - 1)] : List Int).length = 4 from rfl]; omega) : p := h
theorem Yq6 {p : Prop} (h : p := by rw [List.length_nil]; omega) : p := h
theorem Fqa (a b c : Int) : Fp.f a b c = some (decide (b ≤ a ∧ a ≤ c)) := by
 unfold Fp.f
 by_cases h : b ≤ a <;> simp [h]
theorem Fma (a b c : Int) : Fr.f a b c = some (decide (b ≤ a ∧ a ≤ c)) := by
 unfold Fr.f
 by_cases h : b ≤ a <;> simp [h]
/-! ### shifts of small numbers -/
theorem shl_nat (a w : Nat) (ha : a ≤ 100000) (hw : w ≤ 30) : shl .i64 (a : Int) (w : Int) = ((a * 2 ^ w : Nat) : Int) := by
 have h1 : 2 ^ w ≤ 2 ^ 30 := Nat.pow_le_pow_right Yq2 hw
 have h2 : a * 2 ^ w ≤ 100000 * 2 ^ 30 := Nat.mul_le_mul ha h1
 have e30 : (2 : Nat) ^ 30 = 1073741824 := by decide
 unfold shl
 rw [show min ((w : Int).toNat) (IntKind.bits .i64) = w from by simp [IntKind.bits]; omega, IntKind.wrap_i64]
 have e : (a : Int) * 2 ^ w = ((a * 2 ^ w : Nat) : Int) := by simp
 rw [e]
 generalize a * 2 ^ w = t at *
 omega
theorem shr_nat (a w : Nat) (hw : w ≤ 60) : shr .i64 (a : Int) (w : Int) = ((a / 2 ^ w : Nat) : Int) := by
 unfold shr
 rw [show min ((w : Int).toNat) (IntKind.bits .i64) = w from by simp [IntKind.bits]; omega]
 simp
/-! ### the width -/
def m1 (c : Nat) : Nat := if c > 1 then c else 1
theorem m1_range {c : Nat} (h : c ≤ 60) : 1 ≤ m1 c ∧ m1 c ≤ 60 := by unfold m1; split <;> omega
def widthFrom (c l : Nat) : Nat → Nat → Nat
 | 0, w => w
 | d + 1, w => if m1 c * 2 ^ (w + 1) ≤ l then widthFrom c l d (w + 1) else w
def widthV (c l : Nat) : Nat := widthFrom c l 17 0
theorem width_top {c l : Nat} (hc : c ≤ 60) (hl : l ≤ 100000) : l < m1 c * 2 ^ 18 := by
 have h := m1_range hc
 have h2 : 1 * 2 ^ 18 ≤ m1 c * 2 ^ 18 := Nat.mul_le_mul_right _ h.1
 have e : (2 : Nat) ^ 18 = 262144 := by decide
 omega
theorem widthFrom_spec {c l : Nat} (hc : c ≤ 60) (hl : l ≤ 100000) (d : Nat) : ∀ w, w + d = 17 → widthFrom c l d w ≤ 17 ∧ l < m1 c * 2 ^ (widthFrom c l d w + 1) := by
 induction d with
 | zero =>
  intro w hw
  obtain rfl : w = 17 := by omega
  exact ⟨Nat.le_refl _, width_top hc hl⟩
 | succ d ih =>
  intro w hw
  unfold widthFrom
  by_cases g : m1 c * 2 ^ (w + 1) ≤ l
  ·
   rw [if_pos g]
   exact ih (w + 1) Yq1
  ·
   rw [if_neg g]
   exact ⟨Yq1, Yq1⟩
theorem widthV_spec {c l : Nat} (hc : c ≤ 60) (hl : l ≤ 100000) : widthV c l ≤ 17 ∧ l < m1 c * 2 ^ (widthV c l + 1) := widthFrom_spec hc hl 17 0 rfl
theorem width_div {c l : Nat} (hc : c ≤ 60) (hl : l ≤ 100000) : (l - 1) / 2 ^ widthV c l ≤ 120 := by
 have h := (widthV_spec hc hl).2
 have hm := m1_range hc
 rw [Nat.pow_succ] at h
 have hp := Nat.two_pow_pos (widthV c l)
 have h3 : (l - 1) / 2 ^ widthV c l < 120 + 1 := by
  rw [Nat.div_lt_iff_lt_mul hp]
  have h4 : m1 c * (2 ^ widthV c l * 2) ≤ 60 * (2 ^ widthV c l * 2) := Nat.mul_le_mul_right _ hm.2
  generalize 2 ^ widthV c l = t at *
  omega
 omega
theorem Fza (c : Nat) : FP.f (c : Int) 1 = some ((m1 c : Nat) : Int) := by
 unfold FP.f m1
 by_cases h : c > 1
 ·
  rw [if_pos Yq1, if_pos h]
 ·
  rw [if_neg Yq1, if_neg h]; rfl
theorem mx_m1 (c : Nat) : mx (c : Int) 1 = ((m1 c : Nat) : Int) := by
 unfold mx m1
 by_cases h : c > 1
 ·
  rw [if_neg Yq1, if_pos h]
 ·
  rw [if_neg h]
  by_cases h2 : (c : Int) < 1
  ·
   rw [if_pos h2]; rfl
  ·
   rw [if_neg h2]; omega
theorem FSa {c l : Nat} (hc : c ≤ 60) (hl : l ≤ 100000) (d : Nat) : ∀ w, w + d = 17 → Ev (fun k => Fs.l0 k (c : Int) (l : Int) (w : Int)) ((widthFrom c l d w : Nat) : Int) := by
 have hm := m1_range hc
 induction d with
 | zero =>
  intro w hw
  obtain rfl : w = 17 := by omega
  have hww : wrap64 (((17 : Nat) : Int) + 1) = ((18 : Nat) : Int) := by rw [w64 Yq1 Yq1]; rfl
  have hs := shl_nat (m1 c) 18 Yq1 Yq2
  have ht := width_top hc hl
  have g : ¬ (((m1 c * 2 ^ 18 : Nat) : Int) ≤ (l : Int)) := by omega
  refine Ev.succ ?_
  simp only [Fs.l0, Fza, Option.bind_some, hww, hs, g, ↓reduceIte, show (0 : Int) ≤ ((18 : Nat) : Int) from by decide]
  exact Ev.now _
 | succ d ih =>
  intro w hw
  have hww : wrap64 ((w : Int) + 1) = ((w + 1 : Nat) : Int) := by rw [w64 Yq1 Yq1]; rfl
  have hs := shl_nat (m1 c) (w + 1) Yq1 Yq1
  have h0 : (0 : Int) ≤ ((w + 1 : Nat) : Int) := by omega
  refine Ev.succ ?_
  unfold widthFrom
  by_cases g : m1 c * 2 ^ (w + 1) ≤ l
  ·
   have g' : ((m1 c * 2 ^ (w + 1) : Nat) : Int) ≤ (l : Int) := Int.ofNat_le.2 g
   simp only [Fs.l0, Fza, Option.bind_some, hww, hs, g', ↓reduceIte, h0]
   rw [if_pos g]
   exact ih (w + 1) Yq1
  ·
   have g' : ¬ (((m1 c * 2 ^ (w + 1) : Nat) : Int) ≤ (l : Int)) := fun h => g (Int.ofNat_le.1 h)
   simp only [Fs.l0, Fza, Option.bind_some, hww, hs, g', ↓reduceIte, h0]
   rw [if_neg g]
   exact Ev.now _
theorem FAa {c l : Nat} (hc : c ≤ 60) (hl : l ≤ 100000) : Ev (fun k => Fs.f k (c : Int) (l : Int)) ((widthV c l : Nat) : Int) := FSa hc hl 17 0 rfl
theorem FTa {c l : Nat} (hc : c ≤ 60) (hl : l ≤ 100000) (d : Nat) : ∀ w, w + d = 17 → Ev (fun k => Fj.l0 k (c : Int) (l : Int) (w : Int)) (((widthFrom c l d w : Nat) : Int), true) := by
 have hm := m1_range hc
 induction d with
 | zero =>
  intro w hw
  obtain rfl : w = 17 := by omega
  have hww : wrap64 (((17 : Nat) : Int) + 1) = ((18 : Nat) : Int) := by rw [w64 Yq1 Yq1]; rfl
  have hs := shl_nat (m1 c) 18 Yq1 Yq2
  have ht := width_top hc hl
  have g : ¬ (((m1 c * 2 ^ 18 : Nat) : Int) ≤ (l : Int)) := by omega
  refine Ev.succ ?_
  simp only [Fj.l0, mx_m1, hww, hs, g, ↓reduceIte, show (0 : Int) ≤ ((18 : Nat) : Int) from by decide]
  exact Ev.now _
 | succ d ih =>
  intro w hw
  have hww : wrap64 ((w : Int) + 1) = ((w + 1 : Nat) : Int) := by rw [w64 Yq1 Yq1]; rfl
  have hs := shl_nat (m1 c) (w + 1) Yq1 Yq1
  have h0 : (0 : Int) ≤ ((w + 1 : Nat) : Int) := by omega
  refine Ev.succ ?_
  unfold widthFrom
  by_cases g : m1 c * 2 ^ (w + 1) ≤ l
  ·
   have g' : ((m1 c * 2 ^ (w + 1) : Nat) : Int) ≤ (l : Int) := Int.ofNat_le.2 g
   simp only [Fj.l0, mx_m1, hww, hs, g', ↓reduceIte, h0]
   rw [if_pos g]
   exact ih (w + 1) Yq1
  ·
   have g' : ¬ (((m1 c * 2 ^ (w + 1) : Nat) : Int) ≤ (l : Int)) := fun h => g (Int.ofNat_le.1 h)
   simp only [Fj.l0, mx_m1, hww, hs, g', ↓reduceIte, h0]
   rw [if_neg g]
   exact Ev.now _
theorem FBa (a : Int) : Fia.f a = some (decide (1 ≤ a ∧ a ≤ 100000)) := by
 unfold Fia.f
 rw [Fma]
 rfl
theorem FCa (a : Int) : Fja.f a = some (decide (1 ≤ a ∧ a ≤ 100000)) := by
 unfold Fja.f
 rw [Fqa]
 rfl
theorem FDa {c l : Nat} (hc : c ≤ 60) (hl0 : 1 ≤ l) (hl : l ≤ 100000) : Ev (fun k => Fj.f k (c : Int) (l : Int)) (((widthV c l : Nat) : Int), true) := by
 unfold Fj.f
 have g1 : (0 : Int) ≤ (c : Int) ∧ (c : Int) ≤ 60 := by omega
 have g2 : (1 : Int) ≤ (l : Int) ∧ (l : Int) ≤ 100000 := by omega
 simp only [Fma, FBa, g1, g2, and_self, decide_true, Option.bind_some, ↓reduceIte, Bool.not_true]
 refine Ev.succ ?_
 simp only [Fj.j0, Bool.false_eq_true, ↓reduceIte]
 exact FTa hc hl 17 0 rfl
theorem FUa {c l : Int} (h : ¬ ((0 ≤ c ∧ c ≤ 60) ∧ (1 ≤ l ∧ l ≤ 100000))) : Ev (fun k => Fj.f k c l) ((0 : Int), false) := by
 unfold Fj.f
 by_cases g1 : 0 ≤ c ∧ c ≤ 60
 ·
  have g2 : ¬ (1 ≤ l ∧ l ≤ 100000) := fun g => h ⟨g1, g⟩
  simp only [Fma, FBa, g1, g2, and_self, decide_true, decide_false, Option.bind_some, ↓reduceIte, Bool.not_false]
  refine Ev.succ ?_
  simp only [Fj.j0, ↓reduceIte]
  exact Ev.now _
 ·
  simp only [Fma, g1, decide_false, Option.bind_some, Bool.false_eq_true, ↓reduceIte]
  refine Ev.succ ?_
  simp only [Fj.j0, ↓reduceIte]
  exact Ev.now _
/-! ### sorted numbers -/
def okAt (l : List Int) (m : Int) (i : Nat) : Bool := inB 0 (m - 1) (rd l (i : Int)) && (decide (i = 0) || decide (rd l ((i - 1 : Nat) : Int) ≤ rd l (i : Int)))
def sortedFrom (l : List Int) (m : Int) (i : Nat) : Bool := (List.range' i (l.length - i)).all (okAt l m) && (decide (l.length ≤ 60) && decide (1 ≤ m ∧ m ≤ 100000))
def sortedV (l : List Int) (m : Int) : Bool := sortedFrom l m 0
theorem sortedFrom_end (l : List Int) (m : Int) : sortedFrom l m l.length = (decide (l.length ≤ 60) && decide (1 ≤ m ∧ m ≤ 100000)) := by simp [sortedFrom]
theorem sortedFrom_step (l : List Int) (m : Int) (i : Nat) (h : i < l.length) : sortedFrom l m i = (okAt l m i && sortedFrom l m (i + 1)) := by
 unfold sortedFrom
 rw [show l.length - i = (l.length - (i + 1)) + 1 from Yq1, List.range'_succ, List.all_cons, Bool.and_assoc]
theorem sortedV_of {l : List Int} {m : Int} (h : sortedV l m = true) : l.length ≤ 60 ∧ (1 ≤ m ∧ m ≤ 100000) ∧ ∀ i : Nat, i < l.length → (0 ≤ rd l (i : Int) ∧ rd l (i : Int) ≤ m - 1) ∧ (0 < i → rd l ((i - 1 : Nat) : Int) ≤ rd l (i : Int)) := by
 unfold sortedV sortedFrom at h
 simp only [Bool.and_eq_true, decide_eq_true_eq, List.all_eq_true, List.mem_range'] at h
 refine ⟨h.2.1, h.2.2, fun i hi => ?_⟩
 have h2 := h.1 i ⟨i, Yq1, Yq1⟩
 unfold okAt inB at h2
 simp only [Bool.and_eq_true, Bool.or_eq_true, decide_eq_true_eq] at h2
 refine ⟨h2.1, fun h0 => ?_⟩
 rcases h2.2 with h3 | h3
 ·
  omega
 ·
  exact h3
theorem FVa (l : List Int) (m : Int) (hl : l.length ≤ 10000) (hm : -1000000000 ≤ m ∧ m ≤ 1000000000) (d : Nat) : ∀ i : Nat, i + d = l.length → Ev (fun k => Fv.l0 k l m l (l.length : Int) (i : Int)) (sortedFrom l m i) := by
 have wm : wrap64 (m - 1) = m - 1 := w64 Yq1 Yq1
 induction d with
 | zero =>
  intro i hi
  obtain rfl : i = l.length := by omega
  refine Ev.succ ?_
  have h1 : ¬ ((l.length : Int) < (l.length : Int)) := by omega
  simp only [Fv.l0, h1, ↓reduceIte]
  rw [sortedFrom_end]
  by_cases c : l.length ≤ 60
  ·
   have c' : (l.length : Int) ≤ 60 := by omega
   simp only [c, c', ↓reduceIte, FCa, Option.bind_some, decide_true, Bool.true_and]
   exact Ev.now _
  ·
   have c' : ¬ ((l.length : Int) ≤ 60) := by omega
   simp only [c, c', ↓reduceIte, decide_false, Bool.false_and]
   exact Ev.now _
 | succ d ih =>
  intro i hi
  have hil : i < l.length := by omega
  refine Ev.succ ?_
  have h1 : (i : Int) < (l.length : Int) := by omega
  have h2 : (0 : Int) ≤ (i : Int) := by omega
  have hw : wrap64 ((i : Int) + 1) = ((i + 1 : Nat) : Int) := by rw [w64 Yq1 Yq1]; rfl
  rw [sortedFrom_step l m i hil]
  unfold okAt inB
  simp only [Fv.l0, h1, h2, ↓reduceIte, Fqa, wm, hw, Option.bind_some]
  by_cases c : 0 ≤ rd l (i : Int) ∧ rd l (i : Int) ≤ m - 1
  ·
   simp only [c, and_self, decide_true, ↓reduceIte, Bool.true_and]
   by_cases c0 : i = 0
   ·
    have c0' : ¬ ((i : Int) > 0) := by omega
    simp only [c0', ↓reduceIte, c0, decide_true, Bool.true_or, Bool.true_and]
    have e := ih (i + 1) Yq1
    rw [c0] at e
    exact e
   ·
    have c0' : (i : Int) > 0 := by omega
    have hw1 : wrap64 ((i : Int) - 1) = ((i - 1 : Nat) : Int) := by rw [w64 Yq1 Yq1]; omega
    have h3 : (0 : Int) ≤ ((i - 1 : Nat) : Int) := by omega
    have h4 : ((i - 1 : Nat) : Int) < (l.length : Int) := by omega
    simp only [c0', ↓reduceIte, c0, decide_false, Bool.false_or, hw1, h3, h4]
    by_cases g : rd l ((i - 1 : Nat) : Int) ≤ rd l (i : Int)
    ·
     have g' : ¬ (rd l ((i - 1 : Nat) : Int) > rd l (i : Int)) := by omega
     simp only [g, g', ↓reduceIte, decide_true, Bool.true_and]
     exact ih (i + 1) Yq1
    ·
     have g' : rd l ((i - 1 : Nat) : Int) > rd l (i : Int) := by omega
     simp only [g, g', ↓reduceIte, decide_false, Bool.false_and]
     exact Ev.now _
  ·
   simp only [c, decide_false, Bool.false_eq_true, ↓reduceIte, Bool.false_and]
   exact Ev.now _
theorem FIa (l : List Int) (m : Int) (hl : l.length ≤ 10000) (hm : -1000000000 ≤ m ∧ m ≤ 1000000000) : Ev (fun k => Fv.f k l m) (sortedV l m) := FVa l m hl hm l.length 0 Yq1
theorem FWa (l : List Int) (m : Int) (hl : l.length ≤ 10000) (hm : -1000000000 ≤ m ∧ m ≤ 1000000000) (d : Nat) : ∀ i : Nat, i + d = l.length → Ev (fun k => FB.l0 k l m l (l.length : Int) (i : Int)) (sortedFrom l m i) := by
 have wm : wrap64 (m - 1) = m - 1 := w64 Yq1 Yq1
 induction d with
 | zero =>
  intro i hi
  obtain rfl : i = l.length := by omega
  refine Ev.succ ?_
  have h1 : ¬ ((l.length : Int) < (l.length : Int)) := by omega
  simp only [FB.l0, h1, ↓reduceIte, FBa, Option.bind_some]
  rw [sortedFrom_end, Bool.and_comm]
  by_cases c : 1 ≤ m ∧ m ≤ 100000
  ·
   simp only [c, and_self, decide_true, ↓reduceIte, Bool.true_and]
   exact Ev.some_ (by by_cases g : l.length ≤ 60 <;> simp [g] <;> omega)
  ·
   simp only [c, decide_false, Bool.false_eq_true, ↓reduceIte, Bool.false_and]
   exact Ev.now _
 | succ d ih =>
  intro i hi
  have hil : i < l.length := by omega
  refine Ev.succ ?_
  have h1 : (i : Int) < (l.length : Int) := by omega
  have h2 : (0 : Int) ≤ (i : Int) := by omega
  have hw : wrap64 ((i : Int) + 1) = ((i + 1 : Nat) : Int) := by rw [w64 Yq1 Yq1]; rfl
  rw [sortedFrom_step l m i hil]
  unfold okAt inB
  simp only [FB.l0, h1, h2, ↓reduceIte, Fma, wm, hw, Option.bind_some]
  by_cases c : 0 ≤ rd l (i : Int) ∧ rd l (i : Int) ≤ m - 1
  ·
   simp only [c, and_self, decide_true, ↓reduceIte, Bool.true_and]
   by_cases c0 : i = 0
   ·
    have c0' : ¬ ((i : Int) > 0) := by omega
    simp only [c0', ↓reduceIte, c0, decide_true, Bool.true_or, Bool.true_and]
    have e := ih (i + 1) Yq1
    rw [c0] at e
    exact e
   ·
    have c0' : (i : Int) > 0 := by omega
    have hw1 : wrap64 ((i : Int) - 1) = ((i - 1 : Nat) : Int) := by rw [w64 Yq1 Yq1]; omega
    have h3 : (0 : Int) ≤ ((i - 1 : Nat) : Int) := by omega
    have h4 : ((i - 1 : Nat) : Int) < (l.length : Int) := by omega
    simp only [c0', ↓reduceIte, c0, decide_false, Bool.false_or, hw1, h3, h4]
    by_cases g : rd l ((i - 1 : Nat) : Int) ≤ rd l (i : Int)
    ·
     have g' : ¬ (rd l ((i - 1 : Nat) : Int) > rd l (i : Int)) := by omega
     simp only [g, g', ↓reduceIte, decide_true, Bool.true_and]
     exact ih (i + 1) Yq1
    ·
     have g' : rd l ((i - 1 : Nat) : Int) > rd l (i : Int) := by omega
     simp only [g, g', ↓reduceIte, decide_false, Bool.false_and]
     exact Ev.now _
  ·
   simp only [c, decide_false, Bool.false_eq_true, ↓reduceIte, Bool.false_and]
   exact Ev.now _
theorem FXa (l : List Int) (m : Int) (hl : l.length ≤ 10000) (hm : -1000000000 ≤ m ∧ m ≤ 1000000000) : Ev (fun k => FB.f k l m) (sortedV l m) := FWa l m hl hm l.length 0 Yq1
theorem FEa (n : Int) (h0 : 0 ≤ n) (h1 : n ≤ 1000000) : Fca.f n = some (n, List.replicate ((n + 15) / 16).toNat 0) := by
 unfold Fca.f
 rw [w64 (n := n + 15) Yq1 Yq1, tdiv_pos Yq1, w64 Yq1 Yq1, if_pos Yq1, if_pos Yq1]
theorem FJa (n : Int) (h0 : 0 ≤ n) (h1 : n ≤ 1000000) : Fda.f n = some ((n + 15) / 16) := by
 unfold Fda.f
 rw [w64 (n := n + 16) Yq1 Yq1, w64 (n := n + 16 - 1) Yq1 Yq1, tdiv_pos Yq1, w64 Yq1 Yq1, show n + 16 - 1 = n + 15 from by omega]
theorem FKa (n : Int) (h0 : 0 ≤ n) (h1 : n ≤ 1000000) : Fea.f n = some (n, List.replicate ((n + 15) / 16).toNat 0) := by
 unfold Fea.f
 rw [FJa n h0 h1]
 simp only [Option.bind_some]
 rw [if_pos Yq1, if_pos Yq1]
theorem pow15 {t : Nat} (ht : t ≤ 15) : (2 : Nat) ^ t ≤ 32768 := Nat.le_trans (Nat.pow_le_pow_right Yq2 ht) Yq2
theorem pow_cast (t : Nat) : (2 : Int) ^ t = ((2 ^ t : Nat) : Int) := by
 rw [Int.natCast_pow]
 rfl
theorem not_bits (b : Nat) (hb : b ≤ 32768) (j : Nat) : (18446744073709551615 - b).testBit j = (decide (j < 64) && !b.testBit j) := by
 have h := Nat.testBit_two_pow_sub_succ (x := b) (n := 64) Yq1 j
 rw [show 2 ^ 64 - (b + 1) = 18446744073709551615 - b from by omega] at h
 exact h
theorem andNot_off {x : Int} {t : Nat} (x0 : 0 ≤ x) (x1 : x ≤ 65535) (ht : t ≤ 15) (h : bitI x t = false) : Go.bits .andNot .i64 x (2 ^ t) = x := by
 obtain ⟨a, rfl⟩ := Int.eq_ofNat_of_zero_le x0
 have p := pow15 ht
 rw [pow_cast, (bits_nat64 a (2 ^ t) Yq1 Yq1).2.2.2]
 have e : a &&& (18446744073709551615 - 2 ^ t) = a := by
  apply Nat.eq_of_testBit_eq
  intro j
  rw [Nat.testBit_and, not_bits (2 ^ t) p, Nat.testBit_two_pow]
  unfold bitI at h
  rw [Int.toNat_natCast] at h
  by_cases c : t = j
  ·
   subst c
   rw [h]
   rfl
  ·
   by_cases c2 : j < 64
   ·
    simp [c, c2]
   ·
    have h3 : a.testBit j = false := Nat.testBit_lt_two_pow (Nat.lt_of_lt_of_le (show a < 2 ^ 64 from Yq1) (Nat.pow_le_pow_right Yq2 Yq1))
    rw [h3]
    rfl
 rw [e]
theorem and_le16 (a b : Nat) (ha : a ≤ 65535) (hb : b ≤ 32768) : a ||| b < 65536 := Nat.or_lt_two_pow (n := 16) Yq1 Yq1
theorem or_bit {x : Int} {t : Nat} (x0 : 0 ≤ x) (x1 : x ≤ 65535) (ht : t ≤ 15) : 0 ≤ Go.bits .or .i64 x (2 ^ t) ∧ Go.bits .or .i64 x (2 ^ t) ≤ 65535 ∧ ∀ j, bitI (Go.bits .or .i64 x (2 ^ t)) j = (bitI x j || decide (t = j)) := by
 obtain ⟨a, rfl⟩ := Int.eq_ofNat_of_zero_le x0
 have p := pow15 ht
 rw [pow_cast, (bits_nat64 a (2 ^ t) Yq1 Yq1).2.1]
 have hlt : a ||| 2 ^ t < 65536 := and_le16 a (2 ^ t) Yq1 p
 refine ⟨Int.natCast_nonneg _, Int.ofNat_le.2 (Nat.le_of_lt_succ hlt), fun j => ?_⟩
 unfold bitI
 rw [Int.toNat_natCast, Int.toNat_natCast, Nat.testBit_or, Nat.testBit_two_pow]
theorem rd_set_nat (ws : List Int) (k j : Nat) (y : Int) (hk : k < ws.length) : rd (ws.set k y) (j : Int) = if k = j then y else rd ws (j : Int) := by
 unfold rd
 rw [Int.toNat_natCast, List.getD_eq_getElem?_getD, List.getD_eq_getElem?_getD, List.getElem?_set]
 by_cases c : k = j
 ·
  subst c
  simp [hk]
 ·
  simp [c]
theorem set_rd (ws : List Int) (k : Nat) (hk : k < ws.length) : ws.set k (rd ws (k : Int)) = ws := by
 rw [rd_nat ws k hk]
 exact List.set_getElem_self hk
def setW (ws : List Int) (i : Nat) : List Int := ws.set (i / 16) (Go.bits .or .i64 (rd ws ((i / 16 : Nat) : Int)) (2 ^ (i % 16)))
def Low (ws : List Int) (i : Nat) : Prop := (∀ x ∈ ws, 0 ≤ x ∧ x ≤ 65535) ∧ ∀ p, i ≤ p → bitV ws p = false
theorem Low.next {ws : List Int} {i : Nat} (h : Low ws i) : Low ws (i + 1) := ⟨h.1, fun p hp => h.2 p Yq1⟩
theorem Low.set {ws : List Int} {i : Nat} (h : Low ws i) (hi : i / 16 < ws.length) : Low (setW ws i) (i + 1) := by
 have r := rd_range h.1 ((i / 16 : Nat) : Int)
 have o := or_bit (t := i % 16) r.1 r.2 Yq1
 refine ⟨fun x hx => ?_, fun p hp => ?_⟩
 ·
  rcases List.mem_or_eq_of_mem_set hx with h1 | rfl
  ·
   exact h.1 x h1
  ·
   exact ⟨o.1, o.2.1⟩
 ·
  unfold bitV setW
  rw [rd_set_nat _ _ _ _ hi]
  by_cases c : i / 16 = p / 16
  ·
   have h2 := h.2 p Yq1
   unfold bitV at h2
   rw [if_pos c, o.2.2, c, h2, Bool.false_or, decide_eq_false_iff_not]
   omega
  ·
   rw [if_neg c]
   exact h.2 p Yq1
theorem shl_bit (i : Nat) : shl .i64 1 ((i % 16 : Nat) : Int) = 2 ^ (i % 16) := by
 rw [shl_one Yq1 Yq1, Int.toNat_natCast]
theorem FLa (n : Int) (ws : List Int) (i : Nat) (v : Bool) (h : Low ws i) (hi : i / 16 < ws.length) (hi2 : i ≤ 1000000) : Fy.f n ws (i : Int) v = some (if v = true then setW ws i else ws) := by
 unfold Fy.f
 have e1 : Int.tdiv (i : Int) 16 = ((i / 16 : Nat) : Int) := by rw [tdiv_pos Yq1]; rfl
 have e2 : Int.tmod (i : Int) 16 = ((i % 16 : Nat) : Int) := by rw [tmod_pos Yq1]; rfl
 have r := rd_range h.1 ((i / 16 : Nat) : Int)
 have hb : bitI (rd ws ((i / 16 : Nat) : Int)) (i % 16) = false := h.2 i (Nat.le_refl _)
 rw [e1, e2, w64 (n := ((i / 16 : Nat) : Int)) Yq1 Yq1, if_pos Yq1, if_pos Yq1, if_pos Yq1, shl_bit, andNot_off r.1 r.2 Yq1 hb, Int.toNat_natCast, set_rd ws _ hi]
 simp only [Option.bind_some]
 cases v <;> rfl
theorem FYa (n : Int) (ws : List Int) (i : Nat) (hi : i / 16 < ws.length) (hi2 : i ≤ 1000000) : FT.f n ws (i : Int) = some (setW ws i) := by
 unfold FT.f
 have e1 : Int.tdiv (i : Int) 16 = ((i / 16 : Nat) : Int) := by rw [tdiv_pos Yq1]; rfl
 have e2 : Int.tmod (i : Int) 16 = ((i % 16 : Nat) : Int) := by rw [tmod_pos Yq1]; rfl
 rw [e1, e2, w64 (n := ((i / 16 : Nat) : Int)) Yq1 Yq1, if_pos Yq1, if_pos Yq1, if_pos Yq1, shl_bit, Int.toNat_natCast]
 rfl
theorem low_zero (m : Nat) : Low (List.replicate m 0) 0 := by
 refine ⟨fun x hx => ?_, fun p _ => ?_⟩
 ·
  have := List.eq_of_mem_replicate hx
  omega
 ·
  unfold bitV
  have e : rd (List.replicate m 0) ((p / 16 : Nat) : Int) = 0 := by
   unfold rd
   rw [List.getD_eq_getElem?_getD, List.getElem?_replicate]
   split <;> rfl
  rw [e, bitI_zero]
def blankW (n : Int) : List Int := List.replicate ((n + 15) / 16).toNat 0
/-- The vector whose ones are the places from i on where p holds. -/
def fromW (p : Nat → Bool) : Nat → Nat → List Int → List Int
 | _, 0, ws => ws
 | i, d + 1, ws => fromW p (i + 1) d (if p i = true then setW ws i else ws)
theorem if_length (p : Nat → Bool) (ws : List Int) (i : Nat) : (if p i = true then setW ws i else ws).length = ws.length := by
 by_cases c : p i = true
 ·
  rw [if_pos c, setW, List.length_set]
 ·
  rw [if_neg c]
theorem if_low (p : Nat → Bool) (ws : List Int) (i : Nat) (h : Low ws i) (hi : i / 16 < ws.length) : Low (if p i = true then setW ws i else ws) (i + 1) := by
 by_cases c : p i = true
 ·
  rw [if_pos c]; exact h.set hi
 ·
  rw [if_neg c]; exact h.next
theorem fromW_length (p : Nat → Bool) (d : Nat) : ∀ i ws, (fromW p i d ws).length = ws.length := by
 induction d with
 | zero => intro i ws; rfl
 | succ d ih => intro i ws; rw [fromW, ih, if_length]
theorem fromW_none (p : Nat → Bool) : ∀ d i ws, (∀ j, i ≤ j → j < i + d → p j = false) → fromW p i d ws = ws := by
 intro d
 induction d with
 | zero => intro i ws _; rfl
 | succ d ih =>
  intro i ws h
  rw [fromW, h i (Nat.le_refl _) Yq1, if_neg Yq2]
  exact ih (i + 1) ws (fun j h1 h2 => h j Yq1 Yq1)
theorem fromW_add (p : Nat → Bool) (d2 : Nat) : ∀ d1 i ws, fromW p i (d1 + d2) ws = fromW p (i + d1) d2 (fromW p i d1 ws) := by
 intro d1
 induction d1 with
 | zero => intro i ws; rw [Nat.zero_add]; rfl
 | succ d ih => intro i ws; rw [show d + 1 + d2 = (d + d2) + 1 from Yq1, fromW, fromW, ih, show i + 1 + d = i + (d + 1) from by omega]
theorem FMa (n : Int) (l : List Int) (hl : ∀ x ∈ l, 0 ≤ x ∧ x ≤ 65535) (i : Nat) (hi : i / 16 < l.length) (hi2 : i ≤ 1000000) : Faa.f n l (i : Int) = some (bitV l i) := by
 unfold Faa.f
 have e1 : Int.tdiv (i : Int) 16 = ((i / 16 : Nat) : Int) := by rw [tdiv_pos Yq1]; rfl
 have e2 : Int.tmod (i : Int) 16 = ((i % 16 : Nat) : Int) := by rw [tmod_pos Yq1]; rfl
 rw [e1, e2, w64 (n := ((i / 16 : Nat) : Int)) Yq1 Yq1, if_pos Yq1, if_pos Yq1, if_pos Yq1]
 have hr := rd_range hl ((i / 16 : Nat) : Int)
 rw [and_one_bit hr.1 hr.2 Yq1 Yq1, Int.toNat_natCast]
 rfl
theorem bit_of {v j : Nat} (hv : v < 4611686018427387904) (hj : j ≤ 60) : (Go.bits .and .i64 (shr .i64 (v : Int) (j : Int)) 1 == 1) = v.testBit j := by
 rw [shr_nat v j hj]
 have hlt : v / 2 ^ j < 9223372036854775808 := Nat.lt_of_le_of_lt (Nat.div_le_self _ _) Yq1
 have e2 := (bits_nat64 (v / 2 ^ j) 1 hlt Yq2).1
 rw [show ((1 : Nat) : Int) = 1 from rfl] at e2
 rw [e2, Nat.and_one_is_mod, Nat.testBit_eq_decide_div_mod_eq]
 have := Nat.mod_lt (v / 2 ^ j) (show 0 < 2 from Yq2)
 by_cases c : v / 2 ^ j % 2 = 1
 ·
  simp [c]
 ·
  have c0 : v / 2 ^ j % 2 = 0 := by omega
  simp [c0]
theorem add_wrap {a b y : Nat} (h : y = a + b) (hy : y ≤ 1000000) : wrap64 ((a : Int) + (b : Int)) = (y : Int) := by
 subst h
 rw [w64 Yq1 Yq1]
 rfl
theorem succ_wrap {a y : Nat} (h : y = a + 1) (hy : y ≤ 1000000) : wrap64 ((a : Int) + 1) = (y : Int) := by
 subst h
 rw [w64 Yq1 Yq1]
 rfl
theorem rd_snoc (l : List Int) (v : Int) : rd (l ++ [v]) (l.length : Int) = v := by
 rw [rd_nat _ l.length (by rw [List.length_append]; exact Nat.lt_succ_self _), List.getElem_append_right (Nat.le_refl _)]
 simp
theorem rd_snoc_lt (l : List Int) (v : Int) {i : Nat} (h : i < l.length) : rd (l ++ [v]) (i : Int) = rd l (i : Int) := by
 rw [rd_nat _ i (by rw [List.length_append]; omega), List.getElem_append_left h, ← rd_nat l i h]
theorem fromW_congr (p q : Nat → Bool) (d : Nat) : ∀ i ws, (∀ j, i ≤ j → j < i + d → p j = q j) → fromW p i d ws = fromW q i d ws := by
 induction d with
 | zero => intro i ws _; rfl
 | succ d ih =>
  intro i ws h
  rw [fromW, fromW, h i (Nat.le_refl _) Yq1]
  exact ih (i + 1) _ (fun j h1 h2 => h j Yq1 Yq1)
theorem fromW_snoc (p : Nat → Bool) (q : Nat) (ws : List Int) : fromW p 0 (q + 1) ws = if p q = true then setW (fromW p 0 q ws) q else fromW p 0 q ws := by
 rw [fromW_add p 1 q 0 ws, Nat.zero_add]
 rfl
theorem fromW_low (p : Nat → Bool) (ws : List Int) (h : Low ws 0) (q : Nat) (hq : q ≤ 16 * ws.length) : Low (fromW p 0 q ws) q := by
 induction q with
 | zero => exact h
 | succ q ih =>
  have h1 := ih Yq1
  rw [fromW_snoc]
  exact if_low p _ q h1 (by rw [fromW_length]; omega)
theorem Low.mono {ws : List Int} {i j : Nat} (h : Low ws i) (hij : i ≤ j) : Low ws j := ⟨h.1, fun p hp => h.2 p Yq1⟩
/-! ### a vector out of a list of bits -/
theorem blankW_length (n : Nat) : (blankW (n : Int)).length = (n + 15) / 16 := by
 unfold blankW
 rw [List.length_replicate]
 omega
theorem blankW_low (n : Int) : Low (blankW n) 0 := low_zero _
theorem biSome_l0v (bs : List Bool) (n : Int) (hb : bs.length ≤ 100000) (d : Nat) : ∀ (i : Nat) (ws : List Int), i + d = bs.length → bs.length ≤ 16 * ws.length → Ev (fun k => Fm.l0 k bs (bs.length : Int) (i : Int) n ws) (n, fromW (fun p => rdOf false bs (p : Int)) i d ws) := by
 induction d with
 | zero =>
  intro i ws hi hw
  refine Ev.succ ?_
  have h1 : ¬ ((i : Int) < (bs.length : Int)) := by omega
  simp only [Fm.l0, h1, ↓reduceIte]
  exact Ev.now _
 | succ d ih =>
  intro i ws hi hw
  have h1 : (i : Int) < (bs.length : Int) := by omega
  have h2 : (0 : Int) ≤ (i : Int) := by omega
  have hww : wrap64 ((i : Int) + 1) = ((i + 1 : Nat) : Int) := by rw [w64 Yq1 Yq1]; rfl
  refine Ev.succ ?_
  rw [fromW]
  by_cases c : rdOf false bs (i : Int) = true
  ·
   have e2 := FYa n ws i Yq1 Yq1
   simp only [Fm.l0, h1, h2, ↓reduceIte, c, e2, Option.bind_some, hww]
   exact ih (i + 1) (setW ws i) Yq1 (by rw [setW, List.length_set]; omega)
  ·
   simp only [Fm.l0, h1, h2, ↓reduceIte, c, hww, Bool.false_eq_true]
   exact ih (i + 1) ws Yq1 hw
theorem biSome_v (bs : List Bool) (hb : bs.length ≤ 100000) : Ev (fun k => Fm.f k bs) ((bs.length : Int), fromW (fun p => rdOf false bs (p : Int)) 0 bs.length (blankW (bs.length : Int))) := by
 unfold Fm.f
 rw [FEa (bs.length : Int) Yq1 Yq1]
 simp only [Option.bind_some]
 exact biSome_l0v bs _ hb bs.length 0 _ Yq1 (by rw [List.length_replicate]; omega)
/-! ### the bits of the numbers -/
def lowP (ns : List Int) (w : Nat) (p : Nat) : Bool := (rd ns ((p / w : Nat) : Int)).toNat.testBit (p % w)
def hpos (ns : List Int) (w i : Nat) : Nat := (rd ns (i : Int)).toNat / 2 ^ w + i
def hiP (ns : List Int) (w : Nat) (p : Nat) : Bool := (List.range ns.length).any fun i => hpos ns w i == p
theorem hiP_true {ns : List Int} {w i : Nat} (h : i < ns.length) : hiP ns w (hpos ns w i) = true := by
 unfold hiP
 rw [List.any_eq_true]
 exact ⟨i, List.mem_range.2 h, Yq3⟩
theorem lowP_at (ns : List Int) {w i j : Nat} (hj : j < w) : lowP ns w (i * w + j) = (rd ns (i : Int)).toNat.testBit j := by
 unfold lowP
 have e1 : (i * w + j) / w = i := by
  rw [Nat.mul_comm, Nat.mul_add_div Yq1, Nat.div_eq_of_lt hj, Nat.add_zero]
 have e2 : (i * w + j) % w = j := by
  rw [Nat.mul_comm, Nat.mul_add_mod, Nat.mod_eq_of_lt hj]
 rw [e1, e2]
theorem rdB_set (l : List Bool) (i p : Nat) (v : Bool) (h : i < l.length) : rdOf false (l.set i v) (p : Int) = if p = i then v else rdOf false l (p : Int) := by
 unfold rdOf
 rw [List.getD_eq_getElem?_getD, List.getD_eq_getElem?_getD, Int.toNat_natCast]
 by_cases c : p = i
 ·
  subst c
  rw [if_pos rfl, List.getElem?_set_self h]
  rfl
 ·
  rw [if_neg c, List.getElem?_set_ne Yq1]
theorem rdB_zeros (n p : Nat) : rdOf false (List.replicate n false) (p : Int) = false := by
 unfold rdOf
 rw [List.getD_eq_getElem?_getD, List.getElem?_replicate]
 split <;> rfl
theorem FZa (a w v : Nat) (hv : v ≤ 200000) (hw : w ≤ 20) (ha : a ≤ 100000) (d : Nat) : ∀ (j : Nat) (l : List Bool), j + d = w → a + w ≤ l.length → ∃ r, Ev (fun k => Fx.l0 k l (a : Int) (w : Int) (v : Int) (j : Int)) r ∧ r.length = l.length ∧ ∀ p : Nat, rdOf false r (p : Int) = if a + j ≤ p ∧ p < a + w then v.testBit (p - a) else rdOf false l (p : Int) := by
 induction d with
 | zero =>
  intro j l hj hl
  refine ⟨l, Ev.succ ?_, rfl, fun p => ?_⟩
  ·
   have h1 : ¬ ((j : Int) < (w : Int)) := by omega
   simp only [Fx.l0, h1, ↓reduceIte]
   exact Ev.now _
  ·
   rw [if_neg Yq1]
 | succ d ih =>
  intro j l hj hl
  have h1 : (j : Int) < (w : Int) := by omega
  have h2 : (0 : Int) ≤ (j : Int) := by omega
  have w1 : wrap64 ((a : Int) + (j : Int)) = ((a + j : Nat) : Int) := by rw [w64 Yq1 Yq1]; rfl
  have w2 : wrap64 ((j : Int) + 1) = ((j + 1 : Nat) : Int) := by rw [w64 Yq1 Yq1]; rfl
  have h3 : (0 : Int) ≤ ((a + j : Nat) : Int) := by omega
  have h4 : ((a + j : Nat) : Int) < (l.length : Int) := by omega
  have hb := bit_of (v := v) (j := j) Yq1 Yq1
  obtain ⟨r, e, hr, hp⟩ := ih (j + 1) (l.set (a + j) (v.testBit j)) Yq1 (by rw [List.length_set]; exact hl)
  refine ⟨r, Ev.succ ?_, by rw [hr, List.length_set], fun p => ?_⟩
  ·
   simp only [Fx.l0, h1, h2, w1, w2, h3, h4, hb, ↓reduceIte, Int.toNat_natCast]
   exact e
  ·
   rw [hp p]
   by_cases c : a + (j + 1) ≤ p ∧ p < a + w
   ·
    rw [if_pos c, if_pos Yq1]
   ·
    rw [if_neg c, rdB_set _ _ _ _ Yq1]
    by_cases c2 : p = a + j
    ·
     rw [if_pos c2, if_pos Yq1, c2, show a + j - a = j from by omega]
    ·
     rw [if_neg c2, if_neg Yq1]
theorem mod_bit {n w j : Nat} (h : j < w) : (n % 2 ^ w).testBit j = n.testBit j := by
 rw [Nat.testBit_mod_two_pow]
 simp [h]
/-- What a list of numbers becomes. -/
def hiN (ns : List Int) (m w : Nat) : Nat := ns.length + (m - 1) / 2 ^ w + 1
def lowW (ns : List Int) (w : Nat) : List Int := fromW (lowP ns w) 0 (ns.length * w) (blankW ((ns.length * w : Nat) : Int))
def hiW (ns : List Int) (m w : Nat) : List Int := fromW (hiP ns w) 0 (hiN ns m w) (blankW ((hiN ns m w : Nat) : Int))
def sparseV (ns : List Int) (m w : Nat) : Int × Int × Int × Int × List Int × Int × List Int := ((ns.length : Int), (m : Int), (w : Int), ((ns.length * w : Nat) : Int), lowW ns w, ((hiN ns m w : Nat) : Int), hiW ns m w)
structure Nums (ns : List Int) (m w : Nat) : Prop where
 len : ns.length ≤ 60
 m1 : 1 ≤ m
 m2 : m ≤ 100000
 wid : w = widthV ns.length m
 range : ∀ i : Nat, i < ns.length → 0 ≤ rd ns (i : Int) ∧ rd ns (i : Int) ≤ (m : Int) - 1
 sorted : ∀ i j : Nat, i ≤ j → j < ns.length → rd ns (i : Int) ≤ rd ns (j : Int)
theorem Nums.w17 {ns : List Int} {m w : Nat} (h : Nums ns m w) : w ≤ 17 := by rw [h.wid]; exact (widthV_spec h.len h.m2).1
theorem Nums.hi {ns : List Int} {m w : Nat} (h : Nums ns m w) : hiN ns m w ≤ 181 := by
 have h1 := width_div h.len h.m2
 have h2 := h.len
 unfold hiN
 rw [h.wid]
 omega
theorem Nums.low {ns : List Int} {m w : Nat} (h : Nums ns m w) : ns.length * w ≤ 1020 := by
 have h1 := Nat.mul_le_mul h.len h.w17
 omega
theorem Nums.pos {ns : List Int} {m w : Nat} (h : Nums ns m w) {i : Nat} (hi : i < ns.length) : hpos ns w i < hiN ns m w := by
 have h1 := h.range i hi
 have h2 : (rd ns (i : Int)).toNat / 2 ^ w ≤ (m - 1) / 2 ^ w := Nat.div_le_div_right Yq1
 unfold hpos hiN
 omega
theorem Nums.up {ns : List Int} {m w : Nat} (h : Nums ns m w) {i j : Nat} (hij : i < j) (hj : j < ns.length) : hpos ns w i < hpos ns w j := by
 have h1 := h.sorted i j Yq1 hj
 have h2 : (rd ns (i : Int)).toNat / 2 ^ w ≤ (rd ns (j : Int)).toNat / 2 ^ w := Nat.div_le_div_right Yq1
 unfold hpos
 omega
theorem Nums.back {ns : List Int} {m w : Nat} (h : Nums ns m w) {i p : Nat} (hi : i < ns.length) (hp : hiP ns w p = true) (hlt : p < hpos ns w i) : ∃ j, j < i ∧ hpos ns w j = p := by
 unfold hiP at hp
 rw [List.any_eq_true] at hp
 obtain ⟨j, hj, e⟩ := hp
 have hj' := List.mem_range.1 hj
 have e' : hpos ns w j = p := by simpa using e
 refine ⟨j, ?_, e'⟩
 rcases Nat.lt_trichotomy j i with c | c | c
 ·
  exact c
 ·
  subst c; omega
 ·
  have := h.up c hj'; omega
theorem Fab {ns : List Int} {m w : Nat} (h : Nums ns m w) (d : Nat) : ∀ (i : Nat) (lo hi : List Bool), i + d = ns.length → lo.length = ns.length * w → hi.length = hiN ns m w →
  (∀ p : Nat, p < ns.length * w → rdOf false lo (p : Int) = if p < i * w then lowP ns w p else false) → (∀ p : Nat, rdOf false hi (p : Int) = (List.range i).any fun j => hpos ns w j == p) →
  Ev (fun k => Fk.l0 k ns (m : Int) (w : Int) lo hi ns (ns.length : Int) (i : Int)) (sparseV ns m w) := by
 have hw17 := h.w17
 have hlow := h.low
 have hhi := h.hi
 induction d with
 | zero =>
  intro i lo hi hid hlo hhl hp1 hp2
  obtain rfl : i = ns.length := by omega
  refine Ev.succ ?_
  have h1 : ¬ ((ns.length : Int) < (ns.length : Int)) := by omega
  have b1 : lo.length ≤ 100000 := by omega
  have b2 : hi.length ≤ 100000 := by omega
  have e1 : fromW (fun p => rdOf false lo (p : Int)) 0 lo.length (blankW (lo.length : Int)) = lowW ns w := by
   rw [hlo]
   exact fromW_congr _ _ _ _ _ (fun j _ hj => by rw [hp1 j Yq1, if_pos Yq1])
  have e2 : fromW (fun p => rdOf false hi (p : Int)) 0 hi.length (blankW (hi.length : Int)) = hiW ns m w := by
   rw [hhl]
   exact fromW_congr _ _ _ _ _ (fun j _ _ => hp2 j)
  have f1 := biSome_v lo b1
  have f2 := biSome_v hi b2
  rw [e1, hlo] at f1
  rw [e2, hhl] at f2
  simp only [Fk.l0, h1, ↓reduceIte]
  exact Ev.bind f1 (Ev.bind f2 (Ev.now _))
 | succ d ih =>
  intro i lo hi hid hlo hhl hp1 hp2
  have hin : i < ns.length := by omega
  have hr := h.range i hin
  have hpos_ := h.pos hin
  have hm2 := h.m2
  have hlen := h.len
  obtain ⟨x, hx⟩ := Int.eq_ofNat_of_zero_le hr.1
  have hxt : (rd ns (i : Int)).toNat = x := by rw [hx]; rfl
  have hx5 : x ≤ 200000 := by omega
  have h1 : (i : Int) < (ns.length : Int) := by omega
  have h2 : (0 : Int) ≤ (i : Int) := by omega
  have h3 : (0 : Int) ≤ (w : Int) := by omega
  have hiw : i * w + w ≤ ns.length * w := by rw [← Nat.succ_mul]; exact Nat.mul_le_mul_right _ hin
  have w1 : wrap64 ((i : Int) * (w : Int)) = ((i * w : Nat) : Int) := by
   have e : (i : Int) * (w : Int) = ((i * w : Nat) : Int) := by simp
   rw [e]
   generalize i * w = t at *
   exact w64 Yq1 Yq1
  have w3 : wrap64 ((i : Int) + 1) = ((i + 1 : Nat) : Int) := succ_wrap rfl (Nat.le_trans hin (Nat.le_trans hlen Yq2))
  have h5 : (0 : Int) ≤ ((hpos ns w i : Nat) : Int) := Int.natCast_nonneg _
  have h6 : ((hpos ns w i : Nat) : Int) < (hi.length : Int) := by rw [hhl]; exact Int.ofNat_lt.2 hpos_
  have hw20 : w ≤ 20 := Nat.le_trans hw17 Yq2
  have hw60 : w ≤ 60 := Nat.le_trans hw17 Yq2
  have hw30 : w ≤ 30 := Nat.le_trans hw17 Yq2
  have b1 : i * w ≤ 100000 := Nat.le_trans (Nat.le_trans (Nat.le_add_right _ _) hiw) (Nat.le_trans hlow Yq2)
  have b2 : i * w + w ≤ lo.length := by rw [hlo]; exact hiw
  obtain ⟨r, er, hrl, hrp⟩ := FZa (i * w) w (x % 2 ^ w) (Nat.le_trans (Nat.mod_le _ _) hx5) hw20 b1 w 0 lo (Nat.zero_add _) b2
  have w2 : wrap64 (((x / 2 ^ w : Nat) : Int) + (i : Int)) = ((hpos ns w i : Nat) : Int) := add_wrap (show hpos ns w i = x / 2 ^ w + i from by unfold hpos; rw [hxt]) (Nat.le_trans (Nat.le_of_lt hpos_) (Nat.le_trans hhi Yq2))
  have hs1 : shl .i64 1 (w : Int) = ((2 ^ w : Nat) : Int) := by
   have e := shl_nat 1 w Yq2 hw30
   rw [Nat.one_mul] at e
   exact e
  have h4 : ¬ (((2 ^ w : Nat) : Int) = 0) := fun e => absurd (Int.ofNat.inj e) (Nat.pos_iff_ne_zero.1 (Nat.two_pow_pos w))
  have e5 : Int.tmod (x : Int) ((2 ^ w : Nat) : Int) = ((x % 2 ^ w : Nat) : Int) := by rw [tmod_pos (Int.natCast_nonneg _)]; rfl
  have e6 := shr_nat x w hw60
  refine Ev.succ ?_
  simp only [Fk.l0, h1, h2, h3, h4, hs1, w1, hx, e5, e6, ↓reduceIte]
  refine Ev.bind (show Ev (fun k => Fx.f k lo ((i * w : Nat) : Int) (w : Int) ((x % 2 ^ w : Nat) : Int)) r from er) ?_
  simp only [w2, h5, h6, w3, ↓reduceIte, Int.toNat_natCast]
  clear hs1 h4 e5 e6 er
  have k1 : ∀ p : Nat, p < ns.length * w → rdOf false r (p : Int) = if p < (i + 1) * w then lowP ns w p else false := by
   clear hr hx h1 h2 h3 w1 w2 w3 h5 h6 hp2 hhl ih hpos_ hlow hhi
   intro p hp
   rw [hrp p, Nat.succ_mul]
   by_cases c : i * w + 0 ≤ p ∧ p < i * w + w
   ·
    obtain ⟨j, rfl⟩ : ∃ j, p = i * w + j := ⟨p - i * w, Yq1⟩
    rw [if_pos c, if_pos c.2, Nat.add_sub_cancel_left, mod_bit Yq1, lowP_at ns Yq1, hxt]
   ·
    rw [if_neg c, hp1 p hp]
    by_cases c2 : p < i * w
    ·
     rw [if_pos c2, if_pos Yq1]
    ·
     rw [if_neg c2, if_neg Yq1]
  have k2 : ∀ p : Nat, rdOf false (hi.set (hpos ns w i) true) (p : Int) = (List.range (i + 1)).any fun j => hpos ns w j == p := by
   intro p
   rw [rdB_set _ _ _ _ (by rw [hhl]; exact hpos_), hp2 p, List.range_succ, List.any_append]
   simp only [List.any_cons, List.any_nil, Bool.or_false]
   by_cases c : p = hpos ns w i
   ·
    rw [if_pos c, c]; simp
   ·
    rw [if_neg c]
    have c2 : (hpos ns w i == p) = false := beq_eq_false_iff_ne.2 (fun e => c e.symm)
    rw [c2, Bool.or_false]
  exact ih (i + 1) r (hi.set (hpos ns w i) true) (by rw [← hid, Nat.add_assoc, Nat.add_comm 1 d]) (by rw [hrl]; exact hlo) (by rw [List.length_set]; exact hhl) k1 k2
theorem FFa {ns : List Int} {m w : Nat} (h : Nums ns m w) : Ev (fun k => Fk.f k ns (m : Int)) (sparseV ns m w) := by
 have hw17 := h.w17
 have hlow := h.low
 have hhi := h.hi
 have hlen := h.len
 have h1 := h.m1
 have h2 := h.m2
 unfold Fk.f
 refine Ev.bind (FAa hlen h2) ?_
 rw [← h.wid]
 have w1 : wrap64 ((ns.length : Int) * (w : Int)) = ((ns.length * w : Nat) : Int) := by
  have e : (ns.length : Int) * (w : Int) = ((ns.length * w : Nat) : Int) := by simp
  rw [e]
  generalize ns.length * w = t at *
  exact w64 Yq1 Yq1
 have w2 : wrap64 ((m : Int) - 1) = ((m - 1 : Nat) : Int) := by rw [w64 Yq1 Yq1]; omega
 have hw60 : w ≤ 60 := by omega
 have k1 : ns.length * w ≤ 281474976710656 := by omega
 have k2 : hiN ns m w ≤ 281474976710656 := by omega
 have hhi2 : hiN ns m w ≤ 1000000 := by omega
 have hhi3 : ns.length + (m - 1) / 2 ^ w ≤ 1000000 := Nat.le_trans (Nat.le_succ _) hhi2
 have w3 : wrap64 ((ns.length : Int) + (((m - 1) / 2 ^ w : Nat) : Int)) = ((ns.length + (m - 1) / 2 ^ w : Nat) : Int) := add_wrap rfl hhi3
 have w4 : wrap64 (((ns.length + (m - 1) / 2 ^ w : Nat) : Int) + 1) = ((hiN ns m w : Nat) : Int) := succ_wrap (show hiN ns m w = ns.length + (m - 1) / 2 ^ w + 1 from rfl) hhi2
 clear hhi3
 have e6 := shr_nat (m - 1) w hw60
 simp only [w1, w2, e6, w3, w4, Int.toNat_natCast, show (0 : Int) ≤ ((ns.length * w : Nat) : Int) from Int.natCast_nonneg _, show (0 : Int) ≤ (w : Int) from Int.natCast_nonneg _, show (0 : Int) ≤ ((hiN ns m w : Nat) : Int) from Int.natCast_nonneg _, k1, k2, ↓reduceIte]
 clear e6
 exact Fab h ns.length 0 _ _ Yq1 (by rw [List.length_replicate]) (by rw [List.length_replicate]) (fun p _ => by rw [rdB_zeros, if_neg Yq1]) (fun p => by rw [rdB_zeros]; simp)
/-! ### the program's -/
theorem Fbb (q : Nat → Bool) (n : Int) (b : List Int) (hb : Low b 0) (a w v : Nat) (hv : v ≤ 200000) (hw : w ≤ 20) (ha : a ≤ 100000) (hl : a + w ≤ 16 * b.length) (hq : ∀ j, j < w → q (a + j) = v.testBit j) (d : Nat) : ∀ j : Nat, j + d = w →
  Ev (fun k => FC.l0 k (a : Int) (v : Int) (w : Int) (j : Int) n (fromW q 0 (a + j) b)) (fromW q 0 (a + w) b) := by
 induction d with
 | zero =>
  intro j hj
  obtain rfl : j = w := by omega
  refine Ev.succ ?_
  have h1 : ¬ ((j : Int) < (j : Int)) := by omega
  simp only [FC.l0, h1, ↓reduceIte]
  exact Ev.now _
 | succ d ih =>
  intro j hj
  have h1 : (j : Int) < (w : Int) := by omega
  have h2 : (0 : Int) ≤ (j : Int) := by omega
  have w1 : wrap64 ((a : Int) + (j : Int)) = ((a + j : Nat) : Int) := by rw [w64 Yq1 Yq1]; rfl
  have w2 : wrap64 ((j : Int) + 1) = ((j + 1 : Nat) : Int) := by rw [w64 Yq1 Yq1]; rfl
  have hbt := bit_of (v := v) (j := j) Yq1 Yq1
  have hL := fromW_low q b hb (a + j) Yq1
  have hs := FLa n (fromW q 0 (a + j) b) (a + j) (v.testBit j) hL (by rw [fromW_length]; omega) Yq1
  refine Ev.succ ?_
  simp only [FC.l0, h1, h2, w1, w2, hbt, hs, ↓reduceIte, Option.bind_some]
  have e := ih (j + 1) Yq1
  rw [show a + (j + 1) = (a + j) + 1 from Yq1, fromW_snoc, hq j Yq1] at e
  exact e
theorem Fcb {ns : List Int} {m w : Nat} (h : Nums ns m w) (ms : List Int) (hms : ms.length = ns.length) (hmv : ∀ i : Nat, i < ns.length → rd ms (i : Int) = (((rd ns (i : Int)).toNat % 2 ^ w : Nat) : Int)) (n : Int) (d : Nat) : ∀ i : Nat, i + d = ns.length →
  Ev (fun k => FD.l0 k (w : Int) ms (ms.length : Int) (i : Int) n (fromW (lowP ns w) 0 (i * w) (blankW ((ns.length * w : Nat) : Int)))) (n, lowW ns w) := by
 have hw17 := h.w17
 have hlow := h.low
 induction d with
 | zero =>
  intro i hi
  obtain rfl : i = ns.length := by omega
  refine Ev.succ ?_
  have h1 : ¬ ((ns.length : Int) < (ms.length : Int)) := by omega
  simp only [FD.l0, h1, ↓reduceIte]
  exact Ev.now _
 | succ d ih =>
  intro i hi
  have hin : i < ns.length := by omega
  have hr := h.range i hin
  have hm2 := h.m2
  have hlen := h.len
  have h1 : (i : Int) < (ms.length : Int) := by omega
  have h2 : (0 : Int) ≤ (i : Int) := by omega
  have w1 : wrap64 ((i : Int) * (w : Int)) = ((i * w : Nat) : Int) := by
   have e : (i : Int) * (w : Int) = ((i * w : Nat) : Int) := by simp
   have hiw : i * w ≤ ns.length * w := Nat.mul_le_mul_right _ Yq1
   rw [e]
   generalize i * w = t at *
   exact w64 Yq1 Yq1
  have w3 : wrap64 ((i : Int) + 1) = ((i + 1 : Nat) : Int) := by rw [w64 Yq1 Yq1]; rfl
  have hiw : i * w + w ≤ ns.length * w := by rw [← Nat.succ_mul]; exact Nat.mul_le_mul_right _ hin
  have hmod : (rd ns (i : Int)).toNat % 2 ^ w ≤ (rd ns (i : Int)).toNat := Nat.mod_le _ _
  refine Ev.succ ?_
  simp only [FD.l0, h1, h2, w1, w3, hmv i hin, ↓reduceIte]
  have e := Fbb (lowP ns w) n (blankW ((ns.length * w : Nat) : Int)) (blankW_low _) (i * w) w ((rd ns (i : Int)).toNat % 2 ^ w) Yq1 Yq1 Yq1 (by rw [blankW_length]; omega) (fun j hj => by rw [lowP_at ns hj, mod_bit hj]) w 0 Yq1
  rw [Nat.add_zero] at e
  refine Ev.bind (show Ev (fun k => FC.f k n (fromW (lowP ns w) 0 (i * w) (blankW ((ns.length * w : Nat) : Int))) ((i * w : Nat) : Int) (w : Int) (((rd ns (i : Int)).toNat % 2 ^ w : Nat) : Int)) (fromW (lowP ns w) 0 (i * w + w) (blankW ((ns.length * w : Nat) : Int))) from e) ?_
  rw [show i * w + w = (i + 1) * w from (Nat.succ_mul i w).symm]
  exact ih (i + 1) Yq1
theorem Fdb {ns : List Int} {m w : Nat} (h : Nums ns m w) (ms : List Int) (hms : ms.length = ns.length) (hmv : ∀ i : Nat, i < ns.length → rd ms (i : Int) = (((rd ns (i : Int)).toNat % 2 ^ w : Nat) : Int)) : Ev (fun k => FD.f k ms (w : Int)) (((ns.length * w : Nat) : Int), lowW ns w) := by
 have hlow := h.low
 unfold FD.f
 have w1 : wrap64 ((ms.length : Int) * (w : Int)) = ((ns.length * w : Nat) : Int) := by
  have e : (ms.length : Int) * (w : Int) = ((ns.length * w : Nat) : Int) := by rw [hms]; simp
  rw [e]
  generalize ns.length * w = t at *
  exact w64 Yq1 Yq1
 rw [w1, FKa _ (Int.natCast_nonneg _) Yq1]
 simp only [Option.bind_some]
 have e := Fcb h ms hms hmv ((ns.length * w : Nat) : Int) ns.length 0 Yq1
 rw [Nat.zero_mul] at e
 exact e
/-- How far the places are told behind so many numbers. -/
def upTo (ns : List Int) (w : Nat) : Nat → Nat
 | 0 => 0
 | i + 1 => hpos ns w i + 1
theorem upTo_le {ns : List Int} {m w : Nat} (h : Nums ns m w) {i : Nat} (hi : i < ns.length) : upTo ns w i ≤ hpos ns w i := by
 cases i with
 | zero => exact Nat.zero_le _
 | succ i => exact h.up (Nat.lt_succ_self i) hi
theorem hi_step {ns : List Int} {m w : Nat} (h : Nums ns m w) {i : Nat} (hi : i < ns.length) (b : List Int) : fromW (hiP ns w) 0 (hpos ns w i + 1) b = setW (fromW (hiP ns w) 0 (upTo ns w i) b) (hpos ns w i) := by
 have hu := upTo_le h hi
 rw [fromW_snoc, if_pos (hiP_true hi)]
 congr 1
 rw [show hpos ns w i = upTo ns w i + (hpos ns w i - upTo ns w i) from Yq1, fromW_add, Nat.zero_add]
 refine fromW_none _ _ _ _ (fun j h1 h2 => ?_)
 cases hq : hiP ns w j with
 | false => rfl
 | true =>
  obtain ⟨t, ht, e⟩ := h.back hi hq Yq1
  cases i with
  | zero => omega
  | succ i =>
   have : hpos ns w t ≤ hpos ns w i := by
    rcases Nat.lt_or_ge t i with c | c
    ·
     exact Nat.le_of_lt (h.up c Yq1)
    ·
     rw [show t = i from by omega]; exact Nat.le_refl _
   simp only [upTo] at h1
   omega
theorem hi_end {ns : List Int} {m w : Nat} (h : Nums ns m w) (b : List Int) : fromW (hiP ns w) 0 (hiN ns m w) b = fromW (hiP ns w) 0 (upTo ns w ns.length) b := by
 have hle : upTo ns w ns.length ≤ hiN ns m w := by
  cases hn : ns.length with
  | zero => exact Nat.zero_le _
  | succ n => exact h.pos Yq1
 rw [show hiN ns m w = upTo ns w ns.length + (hiN ns m w - upTo ns w ns.length) from Yq1, fromW_add, Nat.zero_add]
 refine fromW_none _ _ _ _ (fun j h1 h2 => ?_)
 cases hq : hiP ns w j with
 | false => rfl
 | true =>
  unfold hiP at hq
  rw [List.any_eq_true] at hq
  obtain ⟨t, ht, e⟩ := hq
  have ht' := List.mem_range.1 ht
  have e' : hpos ns w t = j := by simpa using e
  cases hn : ns.length with
  | zero => omega
  | succ n =>
   rw [hn] at h1
   simp only [upTo] at h1
   have : hpos ns w t ≤ hpos ns w n := by
    rcases Nat.lt_or_ge t n with c | c
    ·
     exact Nat.le_of_lt (h.up c Yq1)
    ·
     rw [show t = n from by omega]; exact Nat.le_refl _
   omega
theorem and_mask {x w : Nat} (hx : x ≤ 100000) (hw : w ≤ 17) : Go.bits .and .i64 (x : Int) (wrap64 ((shl .i64 1 (w : Int)) - 1)) = ((x % 2 ^ w : Nat) : Int) := by
 have hs1 : shl .i64 1 (w : Int) = ((2 ^ w : Nat) : Int) := by
  have e := shl_nat 1 w Yq2 Yq1
  rw [Nat.one_mul] at e
  exact e
 have hp := Nat.two_pow_pos w
 have hle : 2 ^ w ≤ 2 ^ 17 := Nat.pow_le_pow_right Yq2 hw
 have e17 : (2 : Nat) ^ 17 = 131072 := by decide
 have w1 : wrap64 (((2 ^ w : Nat) : Int) - 1) = ((2 ^ w - 1 : Nat) : Int) := by
  generalize 2 ^ w = t at *
  rw [w64 Yq1 Yq1]
  omega
 rw [hs1, w1, (bits_nat64 x (2 ^ w - 1) Yq1 Yq1).1, Nat.and_two_pow_sub_one_eq_mod]
theorem Feb {ns : List Int} {m w : Nat} (h : Nums ns m w) (d : Nat) : ∀ (i : Nat) (ms : List Int), i + d = ns.length → ms.length = i → (∀ j : Nat, j < i → rd ms (j : Int) = (((rd ns (j : Int)).toNat % 2 ^ w : Nat) : Int)) →
  Ev (fun k => Fi.l0 k ns (m : Int) (w : Int) ms ns (ns.length : Int) (i : Int) ((hiN ns m w : Nat) : Int) (fromW (hiP ns w) 0 (upTo ns w i) (blankW ((hiN ns m w : Nat) : Int)))) (sparseV ns m w) := by
 have hw17 := h.w17
 have hhi := h.hi
 induction d with
 | zero =>
  intro i ms hi hms hmv
  obtain rfl : i = ns.length := by omega
  refine Ev.succ ?_
  have h1 : ¬ ((ns.length : Int) < (ns.length : Int)) := by omega
  simp only [Fi.l0, h1, ↓reduceIte]
  refine Ev.bind (Fdb h ms hms hmv) ?_
  refine Ev.some_ ?_
  unfold sparseV hiW
  rw [hi_end h]
 | succ d ih =>
  intro i ms hi hms hmv
  have hin : i < ns.length := by omega
  have hr := h.range i hin
  have hpos_ := h.pos hin
  have hm2 := h.m2
  have hlen := h.len
  obtain ⟨x, hx⟩ := Int.eq_ofNat_of_zero_le hr.1
  have hxt : (rd ns (i : Int)).toNat = x := by rw [hx]; rfl
  have h1 : (i : Int) < (ns.length : Int) := by omega
  have h2 : (0 : Int) ≤ (i : Int) := by omega
  have h3 : (0 : Int) ≤ (w : Int) := by omega
  have h4 : ms.length < 17592186044416 := by omega
  have hw60 : w ≤ 60 := by omega
  have hx5 : x ≤ 100000 := by omega
  have w3 : wrap64 ((i : Int) + 1) = ((i + 1 : Nat) : Int) := by rw [w64 Yq1 Yq1]; rfl
  have hu := upTo_le h hin
  have hL := (fromW_low (hiP ns w) (blankW ((hiN ns m w : Nat) : Int)) (blankW_low _) (upTo ns w i) (by rw [blankW_length]; omega)).mono hu
  have hs := FLa ((hiN ns m w : Nat) : Int) _ (hpos ns w i) true hL (by rw [fromW_length, blankW_length]; omega) Yq1
  have w2 : wrap64 (((x / 2 ^ w : Nat) : Int) + (i : Int)) = ((hpos ns w i : Nat) : Int) := add_wrap (show hpos ns w i = x / 2 ^ w + i from by unfold hpos; rw [hxt]) (Nat.le_trans (Nat.le_of_lt hpos_) (Nat.le_trans hhi Yq2))
  have hmask := and_mask (x := x) (w := w) hx5 hw17
  have e6 := shr_nat x w hw60
  refine Ev.succ ?_
  simp only [Fi.l0, h1, h2, h3, h4, hx, e6, w2, w3, hmask, hs, ↓reduceIte, Option.bind_some]
  clear e6 hmask
  rw [← hi_step h hin]
  have hv : ∀ j : Nat, j < i + 1 → rd (ms ++ [((x % 2 ^ w : Nat) : Int)]) (j : Int) = (((rd ns (j : Int)).toNat % 2 ^ w : Nat) : Int) := by
   intro j hj
   rcases Nat.lt_or_ge j i with c | c
   ·
    rw [rd_snoc_lt ms _ (by rw [hms]; exact c)]
    exact hmv j c
   ·
    have c' : j = i := Nat.le_antisymm (Nat.le_of_lt_succ hj) c
    rw [c', hxt]
    have e := rd_snoc ms ((x % 2 ^ w : Nat) : Int)
    rw [hms] at e
    exact e
  have e := ih (i + 1) (ms ++ [((x % 2 ^ w : Nat) : Int)]) (by rw [← hi, Nat.add_assoc, Nat.add_comm 1 d]) (by rw [List.length_append, hms]; rfl) hv
  rw [show upTo ns w (i + 1) = hpos ns w i + 1 from rfl] at e
  exact e
theorem FGa {ns : List Int} {m w : Nat} (h : Nums ns m w) : Ev (fun k => Fi.f k ns (m : Int)) (sparseV ns m w) := by
 have hw17 := h.w17
 have hhi := h.hi
 have hlen := h.len
 have h1 := h.m1
 have h2 := h.m2
 unfold Fi.f
 refine Ev.bind (FDa hlen h1 h2) ?_
 rw [← h.wid]
 have w2 : wrap64 ((m : Int) - 1) = ((m - 1 : Nat) : Int) := by rw [w64 Yq1 Yq1]; omega
 have hw60 : w ≤ 60 := by omega
 have k2 : hiN ns m w ≤ 281474976710656 := by omega
 have hhi2 : hiN ns m w ≤ 1000000 := by omega
 have hhi3 : ns.length + (m - 1) / 2 ^ w ≤ 1000000 := Nat.le_trans (Nat.le_succ _) hhi2
 have w3 : wrap64 ((ns.length : Int) + (((m - 1) / 2 ^ w : Nat) : Int)) = ((ns.length + (m - 1) / 2 ^ w : Nat) : Int) := add_wrap rfl hhi3
 have w4 : wrap64 (((ns.length + (m - 1) / 2 ^ w : Nat) : Int) + 1) = ((hiN ns m w : Nat) : Int) := succ_wrap (show hiN ns m w = ns.length + (m - 1) / 2 ^ w + 1 from rfl) hhi2
 clear hhi3
 have e6 := shr_nat (m - 1) w hw60
 simp only [w2, e6, w3, w4, show (0 : Int) ≤ (w : Int) from Int.natCast_nonneg _, ↓reduceIte]
 clear e6
 rw [FKa _ (Int.natCast_nonneg _) Yq1]
 simp only [Option.bind_some]
 exact Feb h ns.length 0 [] Yq1 rfl (fun j hj => absurd hj Yq1)
/-! ### the numbers of a Sparse -/
theorem or_add {q f w : Nat} (hf : f < 2 ^ w) (hb : 2 ^ w * q + f < 9223372036854775808) : Go.bits .or .i64 ((2 ^ w * q : Nat) : Int) (f : Int) = ((2 ^ w * q + f : Nat) : Int) := by
 rw [(bits_nat64 (2 ^ w * q) f (Nat.lt_of_le_of_lt (Nat.le_add_right _ _) hb) (Nat.lt_of_le_of_lt (Nat.le_add_left _ _) hb)).2.1, Nat.two_pow_add_eq_or_of_lt hf]
def fieldV (ws : List Int) (a : Nat) : Nat → Nat
 | 0 => 0
 | j + 1 => fieldV ws a j + (if bitV ws (a + j) = true then 2 ^ j else 0)
theorem fieldV_lt (ws : List Int) (a : Nat) (j : Nat) : fieldV ws a j < 2 ^ j := by
 induction j with
 | zero => exact Nat.one_pos
 | succ j ih =>
  unfold fieldV
  rw [Nat.pow_succ]
  split <;> omega
theorem Ffb (n : Int) (ws : List Int) (hws : ∀ x ∈ ws, 0 ≤ x ∧ x ≤ 65535) (a : Nat) (ha : a ≤ 100000) (j : Nat) : ∀ x : Nat, j ≤ 20 → (∀ t, t < j → (a + t) / 16 < ws.length) → x * 2 ^ j + 2 ^ j ≤ 1048576 → Ev (fun k => FA.l0 k (a : Int) (x : Int) ((j : Int) - 1) n ws) ((x * 2 ^ j + fieldV ws a j : Nat) : Int) := by
 induction j with
 | zero =>
  intro x _ _ _
  refine Ev.succ ?_
  have h1 : ¬ (((0 : Nat) : Int) - 1 ≥ 0) := by decide
  simp only [FA.l0, h1, ↓reduceIte]
  exact Ev.some_ (by simp [fieldV])
 | succ j ih =>
  intro x hj hin hx
  have e1 : (((j + 1 : Nat) : Int) - 1) = (j : Int) := by omega
  have h1 : (j : Int) ≥ 0 := Int.natCast_nonneg _
  have w1 : wrap64 ((a : Int) + (j : Int)) = ((a + j : Nat) : Int) := add_wrap rfl Yq1
  have w2 : wrap64 ((j : Int) - 1) = (j : Int) - 1 := w64 Yq1 Yq1
  have hat := FMa n ws hws (a + j) (hin j (Nat.lt_succ_self j)) Yq1
  have hpj := Nat.two_pow_pos j
  rw [Nat.pow_succ] at hx ⊢
  have hx2 : x ≤ 1048576 := by
   have h9 : x * 1 ≤ x * (2 ^ j * 2) := Nat.mul_le_mul_left _ Yq1
   omega
  have w3 : wrap64 ((x : Int) * 2) = ((2 * x : Nat) : Int) := by rw [w64 Yq1 Yq1]; omega
  have w4 : wrap64 (((2 * x : Nat) : Int) + 1) = ((2 * x + 1 : Nat) : Int) := by rw [w64 Yq1 Yq1]; rfl
  have hm : x * (2 ^ j * 2) = 2 * x * 2 ^ j := by rw [Nat.mul_comm (2 ^ j) 2, ← Nat.mul_assoc, Nat.mul_comm x 2]
  rw [hm] at hx ⊢
  refine Ev.succ ?_
  simp only [FA.l0, e1, h1, w1, w2, w3, hat, ↓reduceIte, Option.bind_some]
  unfold fieldV
  by_cases c : bitV ws (a + j) = true
  ·
   simp only [c, ↓reduceIte, w4]
   have e := ih (2 * x + 1) Yq1 (fun t ht => hin t Yq1) (by rw [Nat.add_mul]; omega)
   rw [show (2 * x + 1) * 2 ^ j + fieldV ws a j = 2 * x * 2 ^ j + (fieldV ws a j + 2 ^ j) from by rw [Nat.add_mul]; omega] at e
   exact e
  ·
   simp only [c, ↓reduceIte, Bool.false_eq_true]
   have e := ih (2 * x) Yq1 (fun t ht => hin t Yq1) Yq1
   exact e
theorem Fgb (n : Int) (ws : List Int) (hws : ∀ x ∈ ws, 0 ≤ x ∧ x ≤ 65535) (a w : Nat) (ha : a ≤ 100000) (hw : w ≤ 17) (hin : ∀ t, t < w → (a + t) / 16 < ws.length) : Ev (fun k => FA.f k n ws (a : Int) (w : Int)) ((fieldV ws a w : Nat) : Int) := by
 unfold FA.f
 rw [w64 (n := (w : Int) - 1) Yq1 Yq1]
 have hp : 2 ^ w ≤ 2 ^ 17 := Nat.pow_le_pow_right Yq2 hw
 have e17 : (2 : Nat) ^ 17 = 131072 := by decide
 have e := Ffb n ws hws a ha w 0 Yq1 hin (by rw [Nat.zero_mul]; omega)
 rw [Nat.zero_mul, Nat.zero_add] at e
 exact e
theorem Fhb (a b c n : Int) (l : List Int) (d : Int) (l2 : List Int) (hl : ∀ x ∈ l, 0 ≤ x ∧ x ≤ 65535) (i : Nat) (hi : i / 16 < l.length) (hi2 : i ≤ 1000000) : Fsa.f a b c n l d l2 (i : Int) = some (bitV l i) := by
 unfold Fsa.f
 have e1 : Int.tdiv (i : Int) 16 = ((i / 16 : Nat) : Int) := by rw [tdiv_pos Yq1]; rfl
 have e2 : Int.tmod (i : Int) 16 = ((i % 16 : Nat) : Int) := by rw [tmod_pos Yq1]; rfl
 rw [e1, e2, w64 (n := ((i / 16 : Nat) : Int)) Yq1 Yq1, if_pos Yq1, if_pos Yq1, if_pos Yq1]
 have hr := rd_range hl ((i / 16 : Nat) : Int)
 rw [and_one_bit hr.1 hr.2 Yq1 Yq1, Int.toNat_natCast]
 rfl
theorem Fib (a b c n : Int) (l : List Int) (d : Int) (l2 : List Int) (hl : ∀ x ∈ l2, 0 ≤ x ∧ x ≤ 65535) (i : Nat) (hi : i / 16 < l2.length) (hi2 : i ≤ 1000000) : Fna.f a b c n l d l2 (i : Int) = some (bitV l2 i) := by
 unfold Fna.f
 have e1 : Int.tdiv (i : Int) 16 = ((i / 16 : Nat) : Int) := by rw [tdiv_pos Yq1]; rfl
 have e2 : Int.tmod (i : Int) 16 = ((i % 16 : Nat) : Int) := by rw [tmod_pos Yq1]; rfl
 rw [e1, e2, w64 (n := ((i / 16 : Nat) : Int)) Yq1 Yq1, if_pos Yq1, if_pos Yq1, if_pos Yq1]
 have hr := rd_range hl ((i / 16 : Nat) : Int)
 rw [and_one_bit hr.1 hr.2 Yq1 Yq1, Int.toNat_natCast]
 rfl
theorem Fjb (c0 c1 c2 n : Int) (ws : List Int) (n5 : Int) (w6 : List Int) (hws : ∀ x ∈ ws, 0 ≤ x ∧ x ≤ 65535) (a w : Nat) (ha : a ≤ 100000) (hw : w ≤ 17) (hin : ∀ t, t < w → (a + t) / 16 < ws.length) (d : Nat) : ∀ j : Nat, j + d = w →
  Ev (fun k => Fz.l0 k (a : Int) ((fieldV ws a j : Nat) : Int) (w : Int) (j : Int) c0 c1 c2 n ws n5 w6) ((fieldV ws a w : Nat) : Int) := by
 induction d with
 | zero =>
  intro j hj
  obtain rfl : j = w := by omega
  refine Ev.succ ?_
  have h1 : ¬ ((j : Int) < (j : Int)) := by omega
  simp only [Fz.l0, h1, ↓reduceIte]
  exact Ev.now _
 | succ d ih =>
  intro j hj
  have hjw : j < w := by omega
  have h1 : (j : Int) < (w : Int) := by omega
  have h2 : (0 : Int) ≤ (j : Int) := by omega
  have w1 : wrap64 ((a : Int) + (j : Int)) = ((a + j : Nat) : Int) := add_wrap rfl Yq1
  have w2 : wrap64 ((j : Int) + 1) = ((j + 1 : Nat) : Int) := succ_wrap rfl Yq1
  have hat := Fhb c0 c1 c2 n ws n5 w6 hws (a + j) (hin j hjw) Yq1
  have hs1 : shl .i64 1 (j : Int) = ((2 ^ j : Nat) : Int) := by
   have e := shl_nat 1 j Yq2 Yq1
   rw [Nat.one_mul] at e
   exact e
  have hlt := fieldV_lt ws a j
  have hp : 2 ^ j ≤ 2 ^ 17 := Nat.pow_le_pow_right Yq2 Yq1
  have e17 : (2 : Nat) ^ 17 = 131072 := by decide
  have ho : Go.bits .or .i64 ((fieldV ws a j : Nat) : Int) ((2 ^ j : Nat) : Int) = ((fieldV ws a j + 2 ^ j : Nat) : Int) := by
   have e := (bits_nat64 (fieldV ws a j) (2 ^ j) Yq1 Yq1).2.1
   have e2 := Nat.two_pow_add_eq_or_of_lt hlt 1
   rw [Nat.mul_one] at e2
   rw [e, Nat.or_comm, ← e2, Nat.add_comm]
  have e := ih (j + 1) Yq1
  refine Ev.succ ?_
  simp only [Fz.l0, h1, h2, w1, w2, hat, hs1, ↓reduceIte, Option.bind_some]
  rw [show fieldV ws a (j + 1) = fieldV ws a j + (if bitV ws (a + j) = true then 2 ^ j else 0) from rfl] at e
  by_cases c : bitV ws (a + j) = true
  ·
   simp only [c, ↓reduceIte, ho] at e ⊢
   exact e
  ·
   simp only [c, ↓reduceIte, Bool.false_eq_true, Nat.add_zero] at e ⊢
   exact e
theorem Fkb (c0 c1 c2 n : Int) (ws : List Int) (n5 : Int) (w6 : List Int) (hws : ∀ x ∈ ws, 0 ≤ x ∧ x ≤ 65535) (a w : Nat) (ha : a ≤ 100000) (hw : w ≤ 17) (hin : ∀ t, t < w → (a + t) / 16 < ws.length) : Ev (fun k => Fz.f k c0 c1 c2 n ws n5 w6 (a : Int) (w : Int)) ((fieldV ws a w : Nat) : Int) := Fjb c0 c1 c2 n ws n5 w6 hws a w ha hw hin w 0 Yq1
/-- The number told by the place p of the i-th one. -/
def numV (lw : List Int) (w p i : Nat) : Nat := 2 ^ w * (p - i) + fieldV lw (i * w) w
def decV (hw lw : List Int) (c w : Nat) : Nat → Nat → List Int → List Int
 | 0, _, acc => acc
 | d + 1, p, acc => decV hw lw c w d (p + 1) (if bitV hw p = true ∧ acc.length < c then acc ++ [((numV lw w p acc.length : Nat) : Int)] else acc)
theorem decV_full (hw lw : List Int) (c w : Nat) (d : Nat) : ∀ (p : Nat) (acc : List Int), c ≤ acc.length → decV hw lw c w d p acc = acc := by
 induction d with
 | zero => intro p acc _; rfl
 | succ d ih =>
  intro p acc h
  rw [decV, if_neg Yq1]
  exact ih (p + 1) acc h
theorem decV_len (hw lw : List Int) (c w : Nat) (d : Nat) : ∀ (p : Nat) (acc : List Int), acc.length ≤ c → (decV hw lw c w d p acc).length ≤ c := by
 induction d with
 | zero => intro p acc h; exact h
 | succ d ih =>
  intro p acc h
  rw [decV]
  refine ih (p + 1) _ ?_
  split
  ·
   rw [List.length_append, List.length_singleton]; omega
  ·
   exact h
/-- What is known of a Sparse whose vectors are right. -/
structure Vecs (c w : Nat) (ls : Int) (lw : List Int) (hs : Nat) (hw : List Int) : Prop where
 c60 : c ≤ 60
 w17 : w ≤ 17
 lsz : ls = ((c * w : Nat) : Int)
 llen : c * w ≤ 16 * lw.length
 lval : ∀ x ∈ lw, 0 ≤ x ∧ x ≤ 65535
 hsz : hs ≤ 4096
 hlen : hs ≤ 16 * hw.length
 hval : ∀ x ∈ hw, 0 ≤ x ∧ x ≤ 65535
theorem Vecs.field {c w : Nat} {ls : Int} {lw : List Int} {hs : Nat} {hw : List Int} (h : Vecs c w ls lw hs hw) {i : Nat} (hi : i < c) : (i * w ≤ 100000) ∧ ∀ t, t < w → (i * w + t) / 16 < lw.length := by
 have h1 : i * w + w ≤ c * w := by rw [← Nat.succ_mul]; exact Nat.mul_le_mul_right _ hi
 have h2 : c * w ≤ 60 * 17 := Nat.mul_le_mul h.c60 h.w17
 have h3 := h.llen
 exact ⟨Yq1, fun t ht => Yq1⟩
theorem num_lt {lw : List Int} {w p i : Nat} (hw : w ≤ 17) (hp : p ≤ 4096) : numV lw w p i < 2000000000 ∧ 2 ^ w * (p - i) + fieldV lw (i * w) w < 2000000000 := by
 have hl := fieldV_lt lw (i * w) w
 have hp2 : 2 ^ w ≤ 2 ^ 17 := Nat.pow_le_pow_right Yq2 hw
 have e17 : (2 : Nat) ^ 17 = 131072 := by decide
 have h2 : 2 ^ w * (p - i) ≤ 131072 * 4096 := Nat.mul_le_mul Yq1 Yq1
 have h3 : 2 ^ w * (p - i) + fieldV lw (i * w) w < 2000000000 := by
  generalize 2 ^ w * (p - i) = y at *
  omega
 exact ⟨h3, h3⟩
theorem Flb {c w : Nat} {ls : Int} {lw : List Int} {hs : Nat} {hw : List Int} (h : Vecs c w ls lw hs hw) (lim : Int) (d : Nat) : ∀ (p : Nat) (acc : List Int), p + d = hs → acc.length ≤ p → acc.length ≤ c → Ev (fun k => Fh.l0 k acc (p : Int) (c : Int) lim (w : Int) ls lw (hs : Int) hw) (decV hw lw c w d p acc) := by
 induction d with
 | zero =>
  intro p acc hp _ _
  have h1 : ¬ ((p : Int) < (hs : Int)) := by omega
  refine Ev.succ ?_
  simp only [Fh.l0, h1, ↓reduceIte]
  refine Ev.succ ?_
  simp only [Fh.j1, Bool.false_eq_true, ↓reduceIte]
  exact Ev.now _
 | succ d ih =>
  intro p acc hp hap hac
  have hsz := h.hsz
  have h1 : (p : Int) < (hs : Int) := by omega
  refine Ev.succ ?_
  simp only [Fh.l0, h1, ↓reduceIte]
  refine Ev.succ ?_
  by_cases g : acc.length < c
  ·
   have g' : ((acc.length : Int) < (c : Int)) := by omega
   have hat := FMa (hs : Int) hw h.hval p (by have := h.hlen; omega) Yq1
   have w2 : wrap64 ((p : Int) + 1) = ((p + 1 : Nat) : Int) := succ_wrap rfl Yq1
   simp only [Fh.j1, g', decide_true, ↓reduceIte, hat, Option.bind_some]
   by_cases b : bitV hw p = true
   ·
    have hF := h.field g
    have h17 := h.w17
    have h60 := h.c60
    have w1 : wrap64 ((acc.length : Int) * (w : Int)) = ((acc.length * w : Nat) : Int) := by
     have e : (acc.length : Int) * (w : Int) = ((acc.length * w : Nat) : Int) := by simp
     have h9 := hF.1
     rw [e]
     generalize acc.length * w = t at *
     exact w64 Yq1 Yq1
    have w3 : wrap64 ((p : Int) - (acc.length : Int)) = ((p - acc.length : Nat) : Int) := by rw [w64 Yq1 Yq1]; omega
    have hs1 := shl_nat (p - acc.length) w Yq1 Yq1
    have hn := (num_lt (lw := lw) (i := acc.length) h17 (show p ≤ 4096 from Yq1)).2
    have w4 : wrap64 ((((p - acc.length) * 2 ^ w : Nat) : Int) + ((fieldV lw (acc.length * w) w : Nat) : Int)) = ((numV lw w p acc.length : Nat) : Int) := by
     unfold numV
     rw [Nat.mul_comm (p - acc.length)]
     generalize 2 ^ w * (p - acc.length) = y at *
     rw [w64 Yq1 Yq1]
     rfl
    have h3 : (0 : Int) ≤ (w : Int) := Int.natCast_nonneg _
    have h4 : acc.length < 17592186044416 := by omega
    simp only [b, ↓reduceIte, h3, w1]
    refine Ev.bind (Fgb ls lw h.lval (acc.length * w) w hF.1 h17 hF.2) ?_
    simp only [h4, w3, hs1, w4, w2, ↓reduceIte]
    have e := ih (p + 1) (acc ++ [((numV lw w p acc.length : Nat) : Int)]) Yq1 Yq4 Yq4
    rw [decV, if_pos ⟨b, g⟩]
    exact e
   ·
    simp only [b, ↓reduceIte, w2, Bool.false_eq_true]
    have e := ih (p + 1) acc Yq1 Yq1 hac
    rw [decV, if_neg (fun q => b q.1)]
    exact e
  ·
   have g' : ¬ ((acc.length : Int) < (c : Int)) := by omega
   simp only [Fh.j1, g', decide_false, Bool.false_eq_true, ↓reduceIte]
   rw [decV_full hw lw c w (d + 1) p acc Yq1]
   exact Ev.now _
theorem FNa {c w : Nat} {ls : Int} {lw : List Int} {hs : Nat} {hw : List Int} (h : Vecs c w ls lw hs hw) (lim : Int) : Ev (fun k => Fh.f k (c : Int) lim (w : Int) ls lw (hs : Int) hw) (decV hw lw c w hs 0 []) := Flb h lim hs 0 [] Yq1 (Nat.le_refl _) (Nat.zero_le _)
/-- What the program does behind its loop. -/
theorem Fmb {c w : Nat} {ls : Int} {lw : List Int} {hs : Nat} {hw : List Int} (h : Vecs c w ls lw hs hw) (lim : Int) {r : List Int × Bool} (hend : Ev (fun k => Fa.l0 k (w : Int) (decV hw lw c w hs 0 []) (hs : Int) (hs : Int) (c : Int) lim (w : Int) ls lw (hs : Int) hw) r) (d : Nat) : ∀ (p : Nat) (acc : List Int), p + d = hs → acc.length ≤ p → acc.length ≤ c → decV hw lw c w d p acc = decV hw lw c w hs 0 [] → Ev (fun k => Fa.l0 k (w : Int) acc (hs : Int) (p : Int) (c : Int) lim (w : Int) ls lw (hs : Int) hw) r := by
 induction d with
 | zero =>
  intro p acc hp _ _ he
  obtain rfl : p = hs := by omega
  rw [decV] at he
  rw [he]
  exact hend
 | succ d ih =>
  intro p acc hp hap hac he
  have hsz := h.hsz
  have h1 : (p : Int) < (hs : Int) := by omega
  have hat := Fib (c : Int) lim (w : Int) ls lw (hs : Int) hw h.hval p (by have := h.hlen; omega) Yq1
  have w2 : wrap64 ((p : Int) + 1) = ((p + 1 : Nat) : Int) := succ_wrap rfl Yq1
  refine Ev.succ ?_
  simp only [Fa.l0, h1, ↓reduceIte, hat, Option.bind_some]
  rw [decV] at he
  by_cases b : bitV hw p = true
  ·
   by_cases g : acc.length < c
   ·
    have g' : ((acc.length : Int) < (c : Int)) := by omega
    have hF := h.field g
    have h17 := h.w17
    have h60 := h.c60
    have w1 : wrap64 ((acc.length : Int) * (w : Int)) = ((acc.length * w : Nat) : Int) := by
     have e : (acc.length : Int) * (w : Int) = ((acc.length * w : Nat) : Int) := by simp
     have h9 := hF.1
     rw [e]
     generalize acc.length * w = t at *
     exact w64 Yq1 Yq1
    have w3 : wrap64 ((p : Int) - (acc.length : Int)) = ((p - acc.length : Nat) : Int) := by rw [w64 Yq1 Yq1]; omega
    have hs1 := shl_nat (p - acc.length) w Yq1 Yq1
    rw [Nat.mul_comm (p - acc.length)] at hs1
    have hn := (num_lt (lw := lw) (i := acc.length) h17 (show p ≤ 4096 from Yq1)).2
    have ho : Go.bits .or .i64 ((2 ^ w * (p - acc.length) : Nat) : Int) ((fieldV lw (acc.length * w) w : Nat) : Int) = ((numV lw w p acc.length : Nat) : Int) := or_add (fieldV_lt lw (acc.length * w) w) (Nat.lt_trans hn Yq2)
    have h3 : (0 : Int) ≤ (w : Int) := Int.natCast_nonneg _
    have h4 : acc.length < 17592186044416 := by omega
    rw [if_pos ⟨b, g⟩] at he
    simp only [b, g', ↓reduceIte, h3, w1]
    refine Ev.bind (Fkb (c : Int) lim (w : Int) ls lw (hs : Int) hw h.lval (acc.length * w) w hF.1 h17 hF.2) ?_
    simp only [h4, w3, hs1, ho, w2, ↓reduceIte]
    exact ih (p + 1) _ Yq1 Yq4 Yq4 he
   ·
    have g' : ¬ ((acc.length : Int) < (c : Int)) := by omega
    rw [if_neg (fun q => g q.2)] at he
    simp only [b, g', ↓reduceIte, w2]
    exact ih (p + 1) acc Yq1 Yq1 hac he
  ·
   rw [if_neg (fun q => b q.1)] at he
   simp only [b, ↓reduceIte, w2, Bool.false_eq_true]
   exact ih (p + 1) acc Yq1 Yq1 hac he
theorem Fnb (n : Int) (l : List Int) (hn0 : 0 ≤ n) (hn1 : n ≤ 4096) (hl : (l.length : Int) = (n + 15) / 16) : Ev (fun k => Fl.l0 k l (l.length : Int) 0 n l) (l.all (inB 0 65535) && lastOk n l) := by
 have h := Ev.up (L := fun k i => Fl.l0 k l (l.length : Int) (i : Int) n l) (r := fun i => (l.drop i).all (inB 0 65535) && lastOk n l) l.length ?_ ?_ 0 (Nat.zero_le _)
 ·
  exact h
 ·
  refine Ev.succ ?_
  have h1 : ¬ ((l.length : Int) < (l.length : Int)) := by omega
  simp only [Fl.l0, h1, ↓reduceIte, List.drop_length, List.all_nil, Bool.true_and, lastOk, tmod_pos hn0]
  by_cases h2 : n % 16 = 0
  ·
   simp only [h2, ↓reduceIte, decide_true, Bool.true_or]
   exact Ev.now _
  ·
   have e2 : wrap64 ((l.length : Int) - 1) = (l.length : Int) - 1 := w64 Yq1 Yq1
   simp only [h2, ↓reduceIte, decide_false, Bool.false_or, e2, show 0 ≤ (l.length : Int) - 1 from Yq1, show (l.length : Int) - 1 < (l.length : Int) from Yq1, show 0 ≤ n % 16 from by omega]
   exact Ev.now _
 ·
  intro i hi ih
  refine Ev.succ ?_
  have h1 : (i : Int) < (l.length : Int) := by omega
  have h2 : (0 : Int) ≤ (i : Int) := by omega
  have hw : wrap64 ((i : Int) + 1) = ((i + 1 : Nat) : Int) := by rw [w64 Yq1 Yq1]; rfl
  simp only [Fl.l0, h1, h2, ↓reduceIte, hw, Fma, Option.bind_some]
  rw [drop_cons _ _ hi, List.all_cons, ← rd_nat _ _ hi]
  by_cases c : 0 ≤ rd l (i : Int) ∧ rd l (i : Int) ≤ 65535
  ·
   have c2 : inB 0 65535 (rd l (i : Int)) = true := by simp [inB, c]
   simp only [c, and_self, decide_true, ↓reduceIte, c2, Bool.true_and]
   exact ih
  ·
   have c2 : inB 0 65535 (rd l (i : Int)) = false := by simp [inB]; omega
   simp only [c, decide_false, Bool.false_eq_true, ↓reduceIte, c2, Bool.false_and]
   exact Ev.now _
theorem Fxa (n : Int) (l : List Int) (hl : l.length ≤ 9223372036854775807) : Ev (fun k => Fl.f k n l) (goodBits n l) := by
 unfold goodBits
 by_cases h0 : 0 ≤ n ∧ n ≤ 4096
 ·
  have e0 : inB 0 4096 n = true := by simp [inB, h0]
  simp only [Fl.f, Fma, h0, and_self, decide_true, Option.bind_some, ↓reduceIte, e0, Bool.true_and, FJa n h0.1 Yq1]
  refine Ev.succ ?_
  by_cases h1 : (l.length : Int) = (n + 15) / 16
  ·
   simp only [Fl.j0, h1, bne_self_eq_false, Bool.false_eq_true, ↓reduceIte, decide_true, Bool.true_and]
   rw [← h1]
   exact Fnb n l h0.1 h0.2 h1
  ·
   have e2 : ((l.length : Int) != (n + 15) / 16) = true := by simp [h1]
   simp only [Fl.j0, e2, ↓reduceIte, h1, decide_false, Bool.false_and]
   exact Ev.now _
 ·
  have e0 : inB 0 4096 n = false := by simp [inB]; omega
  simp only [Fl.f, Fma, h0, decide_false, Option.bind_some, ↓reduceIte, e0, Bool.false_and, Bool.false_eq_true]
  refine Ev.succ ?_
  simp only [Fl.j0, ↓reduceIte]
  exact Ev.now _
theorem Fob (l : List Int) (a b : Int) (hl : l.length ≤ 9223372036854775807) : Ev (fun k => Fu.f k l a b) (l.all (inB a b)) := by
 have h := Ev.up (L := fun k i => Fu.l0 k a b l (l.length : Int) (i : Int)) (r := fun i => (l.drop i).all (inB a b)) l.length ?_ ?_ 0 (Nat.zero_le _)
 ·
  exact h
 ·
  refine Ev.succ ?_
  have h1 : ¬ ((l.length : Int) < (l.length : Int)) := by omega
  simp only [Fu.l0, h1, ↓reduceIte]
  exact Ev.some_ Yq3
 ·
  intro i hi ih
  refine Ev.succ ?_
  have h1 : (i : Int) < (l.length : Int) := by omega
  have h2 : (0 : Int) ≤ (i : Int) := by omega
  have hw : wrap64 ((i : Int) + 1) = ((i + 1 : Nat) : Int) := by rw [w64 Yq1 Yq1]; rfl
  simp only [Fu.l0, h1, h2, ↓reduceIte, hw, Fqa, Option.bind_some]
  rw [drop_cons _ _ hi, List.all_cons, ← rd_nat _ _ hi]
  by_cases c : a ≤ rd l (i : Int) ∧ rd l (i : Int) ≤ b
  ·
   have c2 : inB a b (rd l (i : Int)) = true := by simp [inB, c]
   simp only [c, and_self, decide_true, ↓reduceIte, c2, Bool.true_and]
   exact ih
  ·
   have c2 : inB a b (rd l (i : Int)) = false := by simp [inB]; omega
   simp only [c, decide_false, Bool.false_eq_true, ↓reduceIte, c2, Bool.false_and]
   exact Ev.now _
theorem Fya (n : Int) (l : List Int) (hl : l.length ≤ 9223372036854775807) : Ev (fun k => FO.f k n l) (goodBits n l) := by
 unfold goodBits
 by_cases h0 : 0 ≤ n ∧ n ≤ 4096
 ·
  have e0 : inB 0 4096 n = true := by simp [inB, h0]
  have e1 : wrap64 (Int.tdiv (wrap64 (n + 15)) 16) = (n + 15) / 16 := by rw [w64 (n := n + 15) Yq1 Yq1, tdiv_pos Yq1, w64 Yq1 Yq1]
  simp only [FO.f, Fqa, h0, and_self, decide_true, Option.bind_some, ↓reduceIte, e0, e1, Bool.true_and]
  by_cases h1 : (l.length : Int) = (n + 15) / 16
  ·
   simp only [h1, ↓reduceIte, decide_true, Bool.true_and]
   refine Ev.bind (Fob l 0 65535 hl) ?_
   cases l.all (inB 0 65535) with
   | false =>
    simp only [Bool.false_eq_true, ↓reduceIte, Bool.false_and]
    exact Ev.now _
   | true =>
    simp only [↓reduceIte, Bool.true_and, lastOk, tmod_pos h0.1, h1]
    by_cases h2 : n % 16 = 0
    ·
     simp only [h2, ↓reduceIte, decide_true, Bool.true_or]
     exact Ev.now _
    ·
     have e2 : wrap64 ((n + 15) / 16 - 1) = (n + 15) / 16 - 1 := w64 Yq1 Yq1
     simp only [h2, ↓reduceIte, decide_false, Bool.false_or, e2, show 0 ≤ (n + 15) / 16 - 1 from Yq1, show (n + 15) / 16 - 1 < (n + 15) / 16 from Yq1, show 0 ≤ n % 16 from by omega]
     exact Ev.now _
  ·
   simp only [h1, ↓reduceIte, decide_false, Bool.false_and]
   exact Ev.now _
 ·
  have e0 : inB 0 4096 n = false := by simp [inB]; omega
  simp only [FO.f, Fqa, h0, decide_false, Option.bind_some, ↓reduceIte, e0, Bool.false_and, Bool.false_eq_true]
  exact Ev.now _
theorem nums_of {l : List Int} {m : Nat} (h : sortedV l (m : Int) = true) : Nums l m (widthV l.length m) := by
 obtain ⟨h1, h2, h3⟩ := sortedV_of h
 refine ⟨h1, Yq1, Yq1, rfl, fun i hi => (h3 i hi).1, ?_⟩
 intro i j hij hj
 obtain ⟨d, rfl⟩ : ∃ d, j = i + d := ⟨j - i, Yq1⟩
 clear hij
 induction d with
 | zero => exact Int.le_refl _
 | succ d ih =>
  have e := (h3 (i + (d + 1)) hj).2 Yq1
  rw [show i + (d + 1) - 1 = i + d from by omega] at e
  exact Int.le_trans (ih Yq1) e
theorem Fpb (l1 l2 : List Int) (he : l1.length = l2.length) (hl : l1.length ≤ 9223372036854775807) (d : Nat) : ∀ i : Nat, i + d = l1.length → Ev (fun k => FG.l0 k l1 l2 (l1.length : Int) (i : Int)) (decide (l1.drop i = l2.drop i)) := by
 induction d with
 | zero =>
  intro i hi
  have h1 : ¬ ((i : Int) < (l1.length : Int)) := by omega
  refine Ev.succ ?_
  simp only [FG.l0, h1, ↓reduceIte]
  rw [List.drop_of_length_le Yq1, List.drop_of_length_le Yq1]
  exact Ev.now _
 | succ d ih =>
  intro i hi
  have hi1 : i < l1.length := by omega
  have hi2 : i < l2.length := by omega
  have h1 : (i : Int) < (l1.length : Int) := by omega
  have h2 : (0 : Int) ≤ (i : Int) := by omega
  have h3 : (i : Int) < (l2.length : Int) := by omega
  have hw : wrap64 ((i : Int) + 1) = ((i + 1 : Nat) : Int) := by rw [w64 Yq1 Yq1]; rfl
  refine Ev.succ ?_
  simp only [FG.l0, h1, h2, h3, ↓reduceIte, hw, rd_nat l1 i hi1, rd_nat l2 i hi2]
  rw [drop_cons l1 i hi1, drop_cons l2 i hi2]
  by_cases c : l1[i] = l2[i]
  ·
   have e := ih (i + 1) Yq1
   simp only [c, ↓reduceIte, List.cons.injEq, true_and]
   exact e
  ·
   simp only [c, ↓reduceIte, List.cons.injEq, false_and, decide_false]
   exact Ev.now _
theorem FOa (a b : Int) (l1 l2 : List Int) (hl : l1.length ≤ 9223372036854775807) : Ev (fun k => FU.f k a l1 b l2) (decide (a = b) && decide (l1 = l2)) := by
 unfold FU.f FG.f
 by_cases c : a = b
 ·
  simp only [c, ↓reduceIte, decide_true, Bool.true_and]
  by_cases g : l1.length = l2.length
  ·
   have g' : (l1.length : Int) = (l2.length : Int) := by omega
   simp only [g', ↓reduceIte]
   have e := Fpb l1 l2 g hl l1.length 0 Yq1
   rw [List.drop_zero, List.drop_zero] at e
   rw [g'] at e
   exact Ev.bind e (Ev.now _)
  ·
   have g' : ¬ ((l1.length : Int) = (l2.length : Int)) := by omega
   have n : ¬ (l1 = l2) := fun e => g (by rw [e])
   simp only [g', ↓reduceIte, n, decide_false, Option.bind_some]
   exact Ev.now _
 ·
  simp only [c, ↓reduceIte, decide_false, Bool.false_and]
  exact Ev.now _
theorem Fqb (l1 l2 : List Int) (he : l1.length = l2.length) (hl : l1.length ≤ 9223372036854775807) (d : Nat) : ∀ i : Nat, i + d = l1.length → Ev (fun k => FH.l0 k l1 l2 (l1.length : Int) (i : Int)) (decide (l1.drop i = l2.drop i)) := by
 induction d with
 | zero =>
  intro i hi
  have h1 : ¬ ((i : Int) < (l1.length : Int)) := by omega
  refine Ev.succ ?_
  simp only [FH.l0, h1, ↓reduceIte]
  rw [List.drop_of_length_le Yq1, List.drop_of_length_le Yq1]
  exact Ev.now _
 | succ d ih =>
  intro i hi
  have hi1 : i < l1.length := by omega
  have hi2 : i < l2.length := by omega
  have h1 : (i : Int) < (l1.length : Int) := by omega
  have h2 : (0 : Int) ≤ (i : Int) := by omega
  have h3 : (i : Int) < (l2.length : Int) := by omega
  have hw : wrap64 ((i : Int) + 1) = ((i + 1 : Nat) : Int) := by rw [w64 Yq1 Yq1]; rfl
  refine Ev.succ ?_
  simp only [FH.l0, h1, h2, h3, ↓reduceIte, hw, rd_nat l1 i hi1, rd_nat l2 i hi2]
  rw [drop_cons l1 i hi1, drop_cons l2 i hi2]
  by_cases c : l1[i] = l2[i]
  ·
   have e := ih (i + 1) Yq1
   simp only [c, ↓reduceIte, List.cons.injEq, true_and]
   exact e
  ·
   simp only [c, ↓reduceIte, List.cons.injEq, false_and, decide_false]
   exact Ev.now _
theorem FPa (a b : Int) (l1 l2 : List Int) (hl : l1.length ≤ 9223372036854775807) : Ev (fun k => FV.f k a l1 b l2) (decide (a = b) && decide (l1 = l2)) := by
 unfold FV.f FH.f
 by_cases c : a = b
 ·
  simp only [c, ↓reduceIte, decide_true, Bool.true_and]
  by_cases g : l1.length = l2.length
  ·
   have g' : (l1.length : Int) = (l2.length : Int) := by omega
   simp only [g', ↓reduceIte]
   have e := Fqb l1 l2 g hl l1.length 0 Yq1
   rw [List.drop_zero, List.drop_zero] at e
   rw [g'] at e
   exact Ev.bind e (Ev.now _)
  ·
   have g' : ¬ ((l1.length : Int) = (l2.length : Int)) := by omega
   have n : ¬ (l1 = l2) := fun e => g (by rw [e])
   simp only [g', ↓reduceIte, n, decide_false, Option.bind_some]
   exact Ev.now _
 ·
  simp only [c, ↓reduceIte, decide_false, Bool.false_and]
  exact Ev.now _
/-- What is asked ahead of the numbers, and of them. -/
def condS (c lim w ls : Int) (lw : List Int) (hs : Int) (hw : List Int) : Bool := decide ((0 ≤ c ∧ c ≤ 60) ∧ 1 ≤ lim ∧ lim ≤ 100000) && (decide (((widthV c.toNat lim.toNat : Nat) : Int) = w) && (goodBits ls lw && (goodBits hs hw && decide (ls = w * c))))
def listS (c w : Int) (lw : List Int) (hs : Int) (hw : List Int) : List Int := decV hw lw c.toNat w.toNat hs.toNat 0 []
def finS (c lim w : Int) (lw : List Int) (hs : Int) (hw : List Int) (l : List Int) : Bool := decide ((l.length : Int) = c) && (sortedV l lim && (decide (lowW l w.toNat = lw) && (decide (((hiN l lim.toNat w.toNat : Nat) : Int) = hs) && decide (hiW l lim.toNat w.toNat = hw))))
def goodS (c lim w ls : Int) (lw : List Int) (hs : Int) (hw : List Int) : Bool := condS c lim w ls lw hs hw && finS c lim w lw hs hw (listS c w lw hs hw)
theorem Fwa (k0 : Int) (c lim w ls : Int) (lw : List Int) (hs : Int) (hw : List Int) : Ev (fun k => Fa.j0 k k0 true c lim w ls lw hs hw) ([], false) := by
 refine Ev.succ ?_
 simp only [Fa.j0, ↓reduceIte]
 exact Ev.now _
theorem Frb {c m w : Nat} {ls : Int} {lw : List Int} {hs : Nat} {hw : List Int} (hv : Vecs c w ls lw hs hw) (hww : widthV c m = w) (hm : m ≤ 100000) (l : List Int) (hl : l.length ≤ c) : ∃ r, Ev (fun k => Fa.l0 k (w : Int) l (hs : Int) (hs : Int) (c : Int) (m : Int) (w : Int) ls lw (hs : Int) hw) r ∧ r.2 = finS c m w lw hs hw l ∧ (r.2 = true → r.1 = l) := by
 have h60 := hv.c60
 have h1 : ¬ ((hs : Int) < (hs : Int)) := by omega
 unfold finS
 by_cases g : (l.length : Int) = (c : Int)
 ·
  have hs_ := FXa l (m : Int) Yq1 Yq1
  cases hso : sortedV l (m : Int) with
  | false =>
   refine ⟨([], false), Ev.succ ?_, by simp [g], Yq3⟩
   simp only [Fa.l0, h1, g, ↓reduceIte]
   refine Ev.bind hs_ ?_
   rw [hso]
   refine Ev.succ ?_
   simp only [Fa.j2, Bool.not_false, ↓reduceIte]
   exact Ev.now _
  | true =>
   have hn := nums_of hso
   rw [show l.length = c from Yq1, hww] at hn
   have hsp := FGa hn
   have hls : ((l.length * w : Nat) : Int) = ls := by rw [hv.lsz, show l.length = c from by omega]
   have hb1 := FOa ((l.length * w : Nat) : Int) ls (lowW l w) lw (by unfold lowW; rw [fromW_length, blankW_length]; have := hn.low; omega)
   have hb2 := FOa ((hiN l m w : Nat) : Int) (hs : Int) (hiW l m w) hw (by unfold hiW; rw [fromW_length, blankW_length]; have := hn.hi; omega)
   rw [decide_eq_true hls, Bool.true_and] at hb1
   simp only [g, decide_true, Bool.true_and, Int.toNat_natCast]
   cases hlo : decide (lowW l w = lw) with
   | false =>
    refine ⟨(l, false), Ev.succ ?_, rfl, Yq3⟩
    simp only [Fa.l0, h1, g, ↓reduceIte]
    refine Ev.bind hs_ ?_
    rw [hso]
    refine Ev.succ ?_
    simp only [Fa.j2, Bool.not_true, Bool.false_eq_true, ↓reduceIte]
    refine Ev.bind hsp ?_
    refine Ev.bind hb1 ?_
    rw [hlo]
    simp only [Bool.false_eq_true, ↓reduceIte]
    exact Ev.now _
   | true =>
    refine ⟨(l, decide (((hiN l m w : Nat) : Int) = (hs : Int)) && decide (hiW l m w = hw)), Ev.succ ?_, by rw [Bool.true_and], fun _ => rfl⟩
    simp only [Fa.l0, h1, g, ↓reduceIte]
    refine Ev.bind hs_ ?_
    rw [hso]
    refine Ev.succ ?_
    simp only [Fa.j2, Bool.not_true, Bool.false_eq_true, ↓reduceIte]
    refine Ev.bind hsp ?_
    refine Ev.bind hb1 ?_
    rw [hlo]
    simp only [↓reduceIte]
    exact Ev.bind hb2 (Ev.now _)
 ·
  refine ⟨([], false), Ev.succ ?_, by simp [g], Yq3⟩
  simp only [Fa.l0, h1, g, ↓reduceIte]
  refine Ev.succ ?_
  simp only [Fa.j2, ↓reduceIte]
  exact Ev.now _
theorem condS_of {c lim w ls : Int} {lw : List Int} {hs : Int} {hw : List Int} (h : condS c lim w ls lw hs hw = true) : ∃ c' m' w' hs' : Nat, c = (c' : Int) ∧ lim = (m' : Int) ∧ w = (w' : Int) ∧ hs = (hs' : Int) ∧ 1 ≤ m' ∧ m' ≤ 100000 ∧ widthV c' m' = w' ∧ goodBits ls lw = true ∧ goodBits hs hw = true ∧ Vecs c' w' ls lw hs' hw := by
 unfold condS at h
 simp only [Bool.and_eq_true, decide_eq_true_eq] at h
 obtain ⟨⟨⟨a1, a2⟩, a3, a4⟩, b, g1, g2, e⟩ := h
 obtain ⟨c', rfl⟩ := Int.eq_ofNat_of_zero_le a1
 obtain ⟨m', rfl⟩ := Int.eq_ofNat_of_zero_le (show 0 ≤ lim from Yq1)
 rw [Int.toNat_natCast, Int.toNat_natCast] at b
 have s1 := goodBits_size g1
 have s2 := goodBits_size g2
 obtain ⟨hs', rfl⟩ := Int.eq_ofNat_of_zero_le s2.1
 have hws := widthV_spec (c := c') (l := m') Yq1 Yq1
 have els : ls = ((c' * widthV c' m' : Nat) : Int) := by rw [e, ← b, Int.mul_comm]; simp
 refine ⟨c', m', widthV c' m', hs', rfl, rfl, b.symm, rfl, Yq1, Yq1, rfl, g1, g2, ⟨Yq1, hws.1, els, ?_, s1.2.2.2, Yq1, Yq1, s2.2.2.2⟩⟩
 have h1 := s1.2.2.1
 rw [els] at h1
 generalize c' * widthV c' m' = t at *
 omega
theorem FHa (c lim w ls : Int) (lw : List Int) (hs : Int) (hw : List Int) (hl1 : lw.length ≤ 9223372036854775807) (hl2 : hw.length ≤ 9223372036854775807) : ∃ r, Ev (fun k => Fa.f k c lim w ls lw hs hw) r ∧ r.2 = goodS c lim w ls lw hs hw ∧ (r.2 = true → r.1 = listS c w lw hs hw) := by
 unfold goodS
 cases hc : condS c lim w ls lw hs hw with
 | true =>
  obtain ⟨c', m', w', hs', rfl, rfl, rfl, rfl, q1, q2, q3, g1, g2, hv⟩ := condS_of hc
  have h60 := hv.c60
  obtain ⟨r, e, r1, r2⟩ := Frb hv q3 q2 (decV hw lw c' w' hs' 0 []) (decV_len hw lw c' w' hs' 0 [] (Nat.zero_le _))
  refine ⟨r, ?_, ?_, ?_⟩
  ·
   have e0 := Fmb hv (m' : Int) e hs' 0 [] Yq1 (Nat.le_refl _) (Nat.zero_le _) rfl
   have hw0 := FDa h60 q1 q2
   rw [q3] at hw0
   have wl : wrap64 ((w' : Int) * (c' : Int)) = ls := by
    have e1 : (w' : Int) * (c' : Int) = ((c' * w' : Nat) : Int) := by rw [Int.mul_comm]; simp
    have hb : c' * w' ≤ 60 * 17 := Nat.mul_le_mul h60 hv.w17
    rw [e1, hv.lsz]
    generalize c' * w' = t at *
    exact w64 Yq1 Yq1
   unfold Fa.f
   refine Ev.bind hw0 ?_
   simp only [↓reduceIte]
   refine Ev.bind (Fxa ls lw hl1) ?_
   rw [g1]
   simp only [↓reduceIte]
   refine Ev.bind (Fxa (hs' : Int) hw hl2) ?_
   rw [g2]
   simp only [↓reduceIte, wl, bne_self_eq_false]
   refine Ev.succ ?_
   simp only [Fa.j0, Bool.false_eq_true, ↓reduceIte]
   exact e0
  ·
   rw [r1, Bool.true_and]
   rfl
  ·
   exact r2
 | false =>
  refine ⟨([], false), ?_, rfl, fun h => by cases h⟩
  unfold condS at hc
  unfold Fa.f
  by_cases a : (0 ≤ c ∧ c ≤ 60) ∧ 1 ≤ lim ∧ lim ≤ 100000
  ·
   obtain ⟨c', rfl⟩ := Int.eq_ofNat_of_zero_le a.1.1
   obtain ⟨m', rfl⟩ := Int.eq_ofNat_of_zero_le (show 0 ≤ lim from Yq1)
   have hw0 := FDa (c := c') (l := m') Yq1 Yq1 Yq1
   have hw17 := (widthV_spec (c := c') (l := m') Yq1 Yq1).1
   refine Ev.bind hw0 ?_
   simp only [↓reduceIte]
   simp only [a, and_self, decide_true, Bool.true_and, Int.toNat_natCast] at hc
   by_cases b : ((widthV c' m' : Nat) : Int) = w
   ·
    simp only [b, decide_true, Bool.true_and, ↓reduceIte] at hc ⊢
    refine Ev.bind (Fxa ls lw hl1) ?_
    cases g1 : goodBits ls lw with
    | false => simp only [Bool.false_eq_true, ↓reduceIte]; exact Fwa _ _ _ _ _ _ _ _
    | true =>
     simp only [↓reduceIte]
     refine Ev.bind (Fxa hs hw hl2) ?_
     cases g2 : goodBits hs hw with
     | false => simp only [Bool.false_eq_true, ↓reduceIte]; exact Fwa _ _ _ _ _ _ _ _
     | true =>
      rw [g1, g2, Bool.true_and, Bool.true_and, decide_eq_false_iff_not] at hc
      have wl : wrap64 (w * (c' : Int)) = w * (c' : Int) := by
       have e1 : w * (c' : Int) = ((widthV c' m' * c' : Nat) : Int) := by rw [← b]; simp
       have hb : widthV c' m' * c' ≤ 17 * 60 := Nat.mul_le_mul hw17 Yq1
       rw [e1]
       generalize widthV c' m' * c' = t at *
       exact w64 Yq1 Yq1
      have ne : (ls != w * (c' : Int)) = true := bne_iff_ne.2 hc
      simp only [↓reduceIte, wl, ne]
      exact Fwa _ _ _ _ _ _ _ _
   ·
    simp only [b, ↓reduceIte]
    exact Fwa _ _ _ _ _ _ _ _
  ·
   refine Ev.bind (FUa a) ?_
   simp only [Bool.false_eq_true, ↓reduceIte]
   exact Fwa _ _ _ _ _ _ _ _
theorem spGood_bad1 (c lim w ls : Int) (lw : List Int) (hs : Int) (hw : List Int) : Ev (fun k => Fb.j1 k true c lim w ls lw hs hw) false := by
 refine Ev.succ ?_
 simp only [Fb.j1, ↓reduceIte]
 exact Ev.now _
theorem spGood_bad0 (c lim w ls : Int) (lw : List Int) (hs : Int) (hw : List Int) : Ev (fun k => Fb.j0 k true c lim w ls lw hs hw) false := by
 refine Ev.succ ?_
 simp only [Fb.j0, ↓reduceIte]
 exact Ev.now _
theorem spGood_fin {c m w : Nat} {ls : Int} {lw : List Int} {hs : Nat} {hw : List Int} (hv : Vecs c w ls lw hs hw) (hww : widthV c m = w) (hm : m ≤ 100000) (hl1 : lw.length ≤ 9223372036854775807) (hl2 : hw.length ≤ 9223372036854775807) (hH : c + (m - 1) / 2 ^ w + 1 = hs) : Ev (fun k => Fb.j1 k false (c : Int) (m : Int) (w : Int) ls lw (hs : Int) hw) (finS c m w lw hs hw (decV hw lw c w hs 0 [])) := by
 have h60 := hv.c60
 have hll := decV_len hw lw c w hs 0 [] (Nat.zero_le _)
 have hsl := FNa hv (m : Int)
 generalize decV hw lw c w hs 0 [] = l at *
 clear hH
 unfold finS
 refine Ev.succ ?_
 simp only [Fb.j1, Bool.false_eq_true, ↓reduceIte]
 refine Ev.bind hsl ?_
 by_cases g : (l.length : Int) = (c : Int)
 ·
  have hs_ := FIa l (m : Int) Yq1 Yq1
  simp only [g, ↓reduceIte, decide_true, Bool.true_and, Int.toNat_natCast]
  refine Ev.bind hs_ ?_
  cases hso : sortedV l (m : Int) with
  | false =>
   refine Ev.succ ?_
   simp only [Fb.j2, Bool.not_false, ↓reduceIte, Bool.false_and]
   exact Ev.now _
  | true =>
   have hn := nums_of hso
   rw [show l.length = c from Yq1, hww] at hn
   have hls : ls = ((l.length * w : Nat) : Int) := by rw [hv.lsz, show l.length = c from by omega]
   have hb1 := FPa ls ((l.length * w : Nat) : Int) lw (lowW l w) hl1
   have hb2 := FPa (hs : Int) ((hiN l m w : Nat) : Int) hw (hiW l m w) hl2
   rw [decide_eq_true hls, Bool.true_and] at hb1
   refine Ev.succ ?_
   simp only [Fb.j2, Bool.not_true, Bool.false_eq_true, ↓reduceIte, Bool.true_and]
   refine Ev.bind (FFa hn) ?_
   refine Ev.bind hb1 ?_
   by_cases e1 : lowW l w = lw
   ·
    have e1' : lw = lowW l w := e1.symm
    simp only [decide_eq_true e1', decide_eq_true e1, ↓reduceIte, Bool.true_and]
    refine Ev.bind hb2 (Ev.some_ ?_)
    rw [decide_eq_decide.2 (eq_comm (a := (hs : Int)) (b := ((hiN l m w : Nat) : Int))), decide_eq_decide.2 (eq_comm (a := hw) (b := hiW l m w))]
   ·
    have e1' : ¬ (lw = lowW l w) := fun e => e1 e.symm
    simp only [decide_eq_false e1', decide_eq_false e1, Bool.false_eq_true, ↓reduceIte, Bool.false_and]
    exact Ev.now _
 ·
  simp only [g, ↓reduceIte, decide_false, Bool.false_and]
  refine Ev.succ ?_
  simp only [Fb.j2, ↓reduceIte]
  exact Ev.now _
theorem finS_hs {c m w : Nat} {lw : List Int} {hs : Nat} {hw l : List Int} (hH : ¬ (c + (m - 1) / 2 ^ w + 1 = hs)) : finS c m w lw hs hw l = false := by
 unfold finS
 by_cases g : (l.length : Int) = (c : Int)
 ·
  have e : ¬ (((hiN l m w : Nat) : Int) = (hs : Int)) := by
   intro e
   have e2 : hiN l m w = hs := Int.ofNat.inj e
   unfold hiN at e2
   rw [show l.length = c from Int.ofNat.inj g] at e2
   exact hH e2
  simp only [Int.toNat_natCast, e, decide_false, Bool.false_and, Bool.and_false]
 ·
  simp only [g, decide_false, Bool.false_and]
theorem FQa (c lim w ls : Int) (lw : List Int) (hs : Int) (hw : List Int) (hl1 : lw.length ≤ 9223372036854775807) (hl2 : hw.length ≤ 9223372036854775807) : Ev (fun k => Fb.f k c lim w ls lw hs hw) (goodS c lim w ls lw hs hw) := by
 unfold goodS
 cases hc : condS c lim w ls lw hs hw with
 | true =>
  obtain ⟨c', m', w', hs', rfl, rfl, rfl, rfl, q1, q2, q3, g1, g2, hv⟩ := condS_of hc
  have h60 := hv.c60
  have h17 := hv.w17
  have k1 : (0 : Int) ≤ (c' : Int) ∧ (c' : Int) ≤ 60 := by omega
  have k2 : (1 : Int) ≤ (m' : Int) ∧ (m' : Int) ≤ 100000 := by omega
  have hw0 := FAa h60 q2
  rw [q3] at hw0
  have wl : wrap64 ((c' : Int) * (w' : Int)) = ls := by
   have e1 : (c' : Int) * (w' : Int) = ((c' * w' : Nat) : Int) := by simp
   have hb : c' * w' ≤ 60 * 17 := Nat.mul_le_mul h60 h17
   rw [e1, hv.lsz]
   generalize c' * w' = t at *
   exact w64 Yq1 Yq1
  have wm : wrap64 ((m' : Int) - 1) = ((m' - 1 : Nat) : Int) := by rw [w64 Yq1 Yq1]; omega
  have hw60 : w' ≤ 60 := by omega
  have hd : (m' - 1) / 2 ^ w' ≤ 120 := by rw [← q3]; exact width_div h60 q2
  have w3 : wrap64 ((c' : Int) + (((m' - 1) / 2 ^ w' : Nat) : Int)) = ((c' + (m' - 1) / 2 ^ w' : Nat) : Int) := add_wrap rfl (Nat.le_trans (Nat.add_le_add h60 hd) Yq2)
  have w4 : wrap64 (((c' + (m' - 1) / 2 ^ w' : Nat) : Int) + 1) = ((c' + (m' - 1) / 2 ^ w' + 1 : Nat) : Int) := succ_wrap rfl (Nat.le_trans (Nat.add_le_add_right (Nat.add_le_add h60 hd) 1) Yq2)
  have e6 := shr_nat (m' - 1) w' hw60
  unfold Fb.f
  simp only [Fqa, FCa, k1, k2, and_self, decide_true, Option.bind_some, ↓reduceIte]
  refine Ev.bind hw0 ?_
  refine Ev.succ ?_
  simp only [Fb.j0, bne_self_eq_false, Bool.false_eq_true, ↓reduceIte]
  refine Ev.bind (Fya ls lw hl1) ?_
  rw [g1]
  simp only [↓reduceIte]
  refine Ev.bind (Fya (hs' : Int) hw hl2) ?_
  rw [g2]
  simp only [↓reduceIte, wl, wm, e6, w3, w4, show (0 : Int) ≤ (w' : Int) from Int.natCast_nonneg _, Bool.true_and]
  by_cases hH : c' + (m' - 1) / 2 ^ w' + 1 = hs'
  ·
   rw [hH, bne_self_eq_false]
   exact spGood_fin hv q3 q2 hl1 hl2 hH
  ·
   have hne : ((hs' : Int) != ((c' + (m' - 1) / 2 ^ w' + 1 : Nat) : Int)) = true := bne_iff_ne.2 (fun e => hH (Int.ofNat.inj e).symm)
   rw [hne, finS_hs hH]
   exact spGood_bad1 _ _ _ _ _ _ _
 | false =>
  unfold condS at hc
  unfold Fb.f
  simp only [Fqa, FCa, Option.bind_some, Bool.false_and]
  by_cases a1 : 0 ≤ c ∧ c ≤ 60
  ·
   simp only [a1, and_self, decide_true, ↓reduceIte]
   by_cases a2 : 1 ≤ lim ∧ lim ≤ 100000
   ·
    obtain ⟨c', rfl⟩ := Int.eq_ofNat_of_zero_le a1.1
    obtain ⟨m', rfl⟩ := Int.eq_ofNat_of_zero_le (show 0 ≤ lim from Yq1)
    have hw0 := FAa (c := c') (l := m') Yq1 Yq1
    have hw17 := (widthV_spec (c := c') (l := m') Yq1 Yq1).1
    simp only [a2, and_self, decide_true, ↓reduceIte]
    refine Ev.bind hw0 ?_
    simp only [a1, a2, and_self, decide_true, Bool.true_and, Int.toNat_natCast] at hc
    by_cases b : ((widthV c' m' : Nat) : Int) = w
    ·
     simp only [b, decide_true, Bool.true_and] at hc
     rw [b, bne_self_eq_false]
     refine Ev.succ ?_
     simp only [Fb.j0, Bool.false_eq_true, ↓reduceIte]
     refine Ev.bind (Fya ls lw hl1) ?_
     cases g1 : goodBits ls lw with
     | false => simp only [Bool.false_eq_true, ↓reduceIte]; exact spGood_bad1 _ _ _ _ _ _ _
     | true =>
      simp only [↓reduceIte]
      refine Ev.bind (Fya hs hw hl2) ?_
      cases g2 : goodBits hs hw with
      | false => simp only [Bool.false_eq_true, ↓reduceIte]; exact spGood_bad1 _ _ _ _ _ _ _
      | true =>
       rw [g1, g2, Bool.true_and, Bool.true_and, decide_eq_false_iff_not] at hc
       have wl : wrap64 ((c' : Int) * w) = w * (c' : Int) := by
        have e1 : (c' : Int) * w = ((widthV c' m' * c' : Nat) : Int) := by rw [← b, Int.mul_comm]; simp
        have e2 : w * (c' : Int) = ((widthV c' m' * c' : Nat) : Int) := by rw [← b]; simp
        have hb : widthV c' m' * c' ≤ 17 * 60 := Nat.mul_le_mul hw17 Yq1
        rw [e1, e2]
        generalize widthV c' m' * c' = t at *
        exact w64 Yq1 Yq1
       simp only [↓reduceIte, wl, hc]
       exact spGood_bad1 _ _ _ _ _ _ _
    ·
     have hne : (w != ((widthV c' m' : Nat) : Int)) = true := bne_iff_ne.2 (fun e => b e.symm)
     rw [hne]
     exact spGood_bad0 _ _ _ _ _ _ _
   ·
    simp only [a2, decide_false, Bool.false_eq_true, ↓reduceIte]
    exact spGood_bad0 _ _ _ _ _ _ _
  ·
   simp only [a1, decide_false, Bool.false_eq_true, ↓reduceIte]
   exact spGood_bad0 _ _ _ _ _ _ _
theorem setW_bit {ws : List Int} (h : ∀ x ∈ ws, 0 ≤ x ∧ x ≤ 65535) {i : Nat} (hi : i / 16 < ws.length) (j : Nat) : bitV (setW ws i) j = (bitV ws j || decide (i = j)) := by
 have r := rd_range h ((i / 16 : Nat) : Int)
 have o := or_bit (t := i % 16) r.1 r.2 Yq1
 unfold bitV setW
 rw [rd_set_nat _ _ _ _ hi]
 by_cases c : i / 16 = j / 16
 ·
  rw [if_pos c, o.2.2, c]
  congr 1
  by_cases e : i = j
  ·
   rw [decide_eq_true Yq1, decide_eq_true e]
  ·
   rw [decide_eq_false Yq1, decide_eq_false e]
 ·
  rw [if_neg c, decide_eq_false (show ¬ i = j from fun e => c (by rw [e])), Bool.or_false]
theorem fromW_bit (p : Nat → Bool) (ws : List Int) (h : Low ws 0) (q : Nat) (hq : q ≤ 16 * ws.length) (j : Nat) : bitV (fromW p 0 q ws) j = (decide (j < q) && p j) := by
 induction q with
 | zero => rw [decide_eq_false (Nat.not_lt_zero j), Bool.false_and]; exact h.2 j (Nat.zero_le _)
 | succ q ih =>
  have h1 := ih Yq1
  have hl := (fromW_low p ws h q Yq1).1
  rw [fromW_snoc]
  cases c : p q with
  | true =>
   rw [if_pos rfl, setW_bit hl (by rw [fromW_length]; omega), h1]
   by_cases e : q = j
   ·
    subst e
    rw [decide_eq_true rfl, Bool.or_true, decide_eq_true (Nat.lt_succ_self q), c]
    rfl
   ·
    rw [decide_eq_false e, Bool.or_false]
    by_cases e2 : j < q
    ·
     rw [decide_eq_true e2, decide_eq_true (show j < q + 1 from Yq1)]
    ·
     rw [decide_eq_false e2, decide_eq_false (show ¬ j < q + 1 from Yq1)]
  | false =>
   rw [if_neg Yq2, h1]
   by_cases e : q = j
   ·
    subst e
    rw [c, Bool.and_false, Bool.and_false]
   ·
    by_cases e2 : j < q
    ·
     rw [decide_eq_true e2, decide_eq_true (show j < q + 1 from Yq1)]
    ·
     rw [decide_eq_false e2, decide_eq_false (show ¬ j < q + 1 from Yq1)]
theorem goodBits_from (p : Nat → Bool) (n : Nat) (hn : n ≤ 4096) : goodBits (n : Int) (fromW p 0 n (blankW (n : Int))) = true := by
 have hb := blankW_length n
 have hlow := fromW_low p (blankW (n : Int)) (blankW_low _) n Yq1
 have hlen : (fromW p 0 n (blankW (n : Int))).length = (n + 15) / 16 := by rw [fromW_length, hb]
 generalize fromW p 0 n (blankW (n : Int)) = ws at *
 clear hb
 unfold goodBits inB lastOk
 simp only [Bool.and_eq_true, Bool.or_eq_true, decide_eq_true_eq, List.all_eq_true, beq_iff_eq]
 refine ⟨Yq1, Yq1, hlow.1, ?_⟩
 by_cases c : (n : Int) % 16 = 0
 ·
  exact .inl c
 ·
  right
  have hr := rd_range hlow.1 (((ws.length - 1 : Nat)) : Int)
  rw [show (ws.length : Int) - 1 = ((ws.length - 1 : Nat) : Int) from by omega]
  have hbit : ∀ j, n % 16 ≤ j → bitI (rd ws ((ws.length - 1 : Nat) : Int)) j = false := by
   intro j hj
   by_cases h16 : 16 ≤ j
   ·
    exact bitI_high hr.1 hr.2 h16
   ·
    have := hlow.2 ((ws.length - 1) * 16 + j) Yq1
    unfold bitV at this
    rw [show ((ws.length - 1) * 16 + j) / 16 = ws.length - 1 from Yq1, show ((ws.length - 1) * 16 + j) % 16 = j from by omega] at this
    exact this
  generalize rd ws ((ws.length - 1 : Nat) : Int) = x at *
  obtain ⟨a, rfl⟩ := Int.eq_ofNat_of_zero_le hr.1
  have hlt : a < 2 ^ (n % 16) := by
   apply Nat.lt_pow_two_of_testBit
   intro i hi
   have := hbit i hi
   unfold bitI at this
   rw [Int.toNat_natCast] at this
   exact this
  rw [show (n : Int) % 16 = ((n % 16 : Nat) : Int) from Yq1, shr_nat a (n % 16) Yq1, Nat.div_eq_of_lt hlt]
  rfl
theorem fieldV_mod (ws : List Int) (a v : Nat) (j : Nat) : (∀ t, t < j → bitV ws (a + t) = v.testBit t) → fieldV ws a j = v % 2 ^ j := by
 induction j with
 | zero => intro _; rw [Nat.pow_zero, Nat.mod_one]; rfl
 | succ j ih =>
  intro h
  have h1 := ih (fun t ht => h t Yq1)
  unfold fieldV
  rw [h1, h j (Nat.lt_succ_self j), Nat.mod_pow_succ, Nat.testBit_eq_decide_div_mod_eq]
  have h2 : v / 2 ^ j % 2 < 2 := Nat.mod_lt _ Yq2
  generalize v / 2 ^ j % 2 = b at *
  by_cases c : b = 1
  ·
   subst c
   simp
  ·
   obtain rfl : b = 0 := by omega
   simp
theorem round_field {ns : List Int} {m w : Nat} (h : Nums ns m w) {i : Nat} (hi : i < ns.length) : fieldV (lowW ns w) (i * w) w = (rd ns (i : Int)).toNat % 2 ^ w := by
 refine fieldV_mod _ _ _ w (fun t ht => ?_)
 have hb := blankW_length (ns.length * w)
 unfold lowW
 rw [fromW_bit (lowP ns w) _ (blankW_low _) _ Yq1, lowP_at ns ht]
 have h1 : (i + 1) * w ≤ ns.length * w := Nat.mul_le_mul_right _ hi
 rw [Nat.add_mul, Nat.one_mul] at h1
 rw [decide_eq_true (show i * w + t < ns.length * w from Yq1), Bool.true_and]
theorem round_num {ns : List Int} {m w : Nat} (h : Nums ns m w) {i : Nat} (hi : i < ns.length) : ((numV (lowW ns w) w (hpos ns w i) i : Nat) : Int) = ns[i] := by
 have hr := h.range i hi
 rw [rd_nat ns i hi] at hr
 unfold numV
 rw [round_field h hi]
 unfold hpos
 rw [Nat.add_sub_cancel, Nat.div_add_mod, rd_nat ns i hi]
 omega
theorem round_dec {ns : List Int} {m w : Nat} (h : Nums ns m w) (d : Nat) : ∀ p i : Nat, p + d = hiN ns m w → i ≤ ns.length → (∀ i', i' < i → hpos ns w i' < p) → (i < ns.length → p ≤ hpos ns w i) → decV (hiW ns m w) (lowW ns w) ns.length w d p (ns.take i) = ns := by
 induction d with
 | zero =>
  intro p i hp hi _ h2
  have e : i = ns.length := by
   by_cases c : i < ns.length
   ·
    have := h2 c
    have := h.pos c
    omega
   ·
    omega
  subst e
  rw [decV, List.take_length]
 | succ d ih =>
  intro p i hp hi h1 h2
  have hlt : (ns.take i).length = i := by rw [List.length_take]; omega
  have hb := blankW_length (hiN ns m w)
  have hbit : bitV (hiW ns m w) p = hiP ns w p := by
   unfold hiW
   rw [fromW_bit (hiP ns w) _ (blankW_low _) _ Yq1, decide_eq_true (show p < hiN ns m w from Yq1), Bool.true_and]
  rw [decV, hbit, hlt]
  by_cases c : i < ns.length
  ·
   by_cases e : hpos ns w i = p
   ·
    have hp1 : hiP ns w p = true := by rw [← e]; exact hiP_true c
    have hn := round_num h c
    rw [e] at hn
    rw [if_pos ⟨hp1, c⟩, hn, ← List.take_succ_eq_append_getElem c]
    refine ih (p + 1) (i + 1) Yq1 c (fun i' hi' => ?_) (fun c2 => ?_)
    ·
     by_cases e2 : i' = i
     ·
      subst e2; omega
     ·
      have := h1 i' Yq1; omega
    ·
     have := h.up (show i < i + 1 from Yq1) c2
     omega
   ·
    have hp0 : ¬ (hiP ns w p = true) := by
     intro q
     obtain ⟨j, hj, e2⟩ := h.back c q (by have := h2 c; omega)
     have := h1 j hj
     omega
    rw [if_neg (fun q => hp0 q.1)]
    exact ih (p + 1) i Yq1 hi (fun i' hi' => by have := h1 i' hi'; omega) (fun c2 => by have := h2 c2; omega)
  ·
   rw [if_neg (fun q => c q.2)]
   exact ih (p + 1) i Yq1 hi (fun i' hi' => by have := h1 i' hi'; omega) (fun c2 => absurd c2 c)
theorem round_list {ns : List Int} {m w : Nat} (h : Nums ns m w) : listS (ns.length : Int) (w : Int) (lowW ns w) ((hiN ns m w : Nat) : Int) (hiW ns m w) = ns := by
 have e := round_dec h (hiN ns m w) 0 0 Yq1 (Nat.zero_le _) (fun i' hi' => absurd hi' (Nat.not_lt_zero _)) (fun _ => Nat.zero_le _)
 rw [List.take_zero] at e
 unfold listS
 rw [Int.toNat_natCast, Int.toNat_natCast, Int.toNat_natCast]
 exact e
/-- A sparse vector that was built is right, and holds the numbers that it was built of. -/
theorem round_good {ns : List Int} {m w : Nat} (h : Nums ns m w) (hs : sortedV ns (m : Int) = true) : goodS (ns.length : Int) (m : Int) (w : Int) ((ns.length * w : Nat) : Int) (lowW ns w) ((hiN ns m w : Nat) : Int) (hiW ns m w) = true := by
 have h1 := h.len
 have h2 := h.m1
 have h3 := h.m2
 have h4 := h.low
 have h5 := h.hi
 unfold goodS condS finS
 rw [round_list h, hs]
 have g1 : goodBits ((ns.length * w : Nat) : Int) (lowW ns w) = true := goodBits_from _ _ Yq1
 have g2 : goodBits ((hiN ns m w : Nat) : Int) (hiW ns m w) = true := goodBits_from _ _ Yq1
 rw [g1, g2, Int.toNat_natCast, Int.toNat_natCast, Int.toNat_natCast, ← h.wid]
 have e : ((ns.length * w : Nat) : Int) = (w : Int) * (ns.length : Int) := by rw [Int.natCast_mul, Int.mul_comm]
 rw [e]
 simp only [decide_true, Bool.and_true, Bool.and_eq_true, decide_eq_true_eq]
 omega
/-! ### numbers below another one -/
def cntB (l : List Int) (x : Int) : Nat := (l.filter fun y => decide (y < x)).length
theorem cntB_succ (l : List Int) (x : Int) : cntB l (x + 1) = cntB l x + (l.filter fun y => decide (y = x)).length := by
 unfold cntB
 induction l with
 | nil => rfl
 | cons y l ih =>
  rw [List.filter_cons, List.filter_cons, List.filter_cons]
  rcases Int.lt_trichotomy y x with c | c | c
  ·
   have a1 : y < x + 1 := by omega
   have a2 : ¬ (y = x) := by omega
   simp only [a1, c, a2, decide_true, decide_false, ↓reduceIte, Bool.false_eq_true, List.length_cons]
   omega
  ·
   have a1 : y < x + 1 := by omega
   have a2 : ¬ (y < x) := by omega
   simp only [a1, c, a2, decide_true, decide_false, ↓reduceIte, Bool.false_eq_true, List.length_cons]
   subst c
   simp only [a1, a2, decide_true, decide_false, ↓reduceIte, Bool.false_eq_true, List.length_cons]
   omega
  ·
   have a1 : ¬ (y < x + 1) := by omega
   have a2 : ¬ (y < x) := by omega
   have a3 : ¬ (y = x) := by omega
   simp only [a1, a2, a3, decide_false, ↓reduceIte, Bool.false_eq_true]
   exact ih
theorem goodS_of {c lim w ls : Int} {lw : List Int} {hs : Int} {hw : List Int} (h : goodS c lim w ls lw hs hw = true) : ((listS c w lw hs hw).length : Int) = c ∧ (listS c w lw hs hw).length ≤ 60 ∧ (1 ≤ lim ∧ lim ≤ 100000) ∧ ∀ i j : Nat, (hi : i < (listS c w lw hs hw).length) → (hj : j < (listS c w lw hs hw).length) → i ≤ j → (listS c w lw hs hw)[i] ≤ (listS c w lw hs hw)[j] := by
 unfold goodS finS at h
 simp only [Bool.and_eq_true, decide_eq_true_eq] at h
 obtain ⟨_, h1, h2, _⟩ := h
 generalize listS c w lw hs hw = l at *
 obtain ⟨q1, q2, _⟩ := sortedV_of h2
 refine ⟨h1, q1, q2, fun i j hi hj hij => ?_⟩
 obtain ⟨m, rfl⟩ := Int.eq_ofNat_of_zero_le (show 0 ≤ lim from Yq1)
 have e := (nums_of h2).sorted i j hij hj
 rw [rd_nat l i hi, rd_nat l j hj] at e
 exact e
theorem spList_of {c lim w ls : Int} {lw : List Int} {hs : Int} {hw : List Int} (h : goodS c lim w ls lw hs hw = true) : Ev (fun k => Fh.f k c lim w ls lw hs hw) (listS c w lw hs hw) := by
 unfold goodS at h
 rw [Bool.and_eq_true] at h
 obtain ⟨c', m', w', hs', rfl, rfl, rfl, rfl, q1, q2, q3, g1, g2, hv⟩ := condS_of h.1
 exact FNa hv (m' : Int)
theorem Fsb (l : List Int) (x : Int) (hl : l.length ≤ 1000000) (d : Nat) : ∀ i : Nat, i + d = l.length → ∃ t : Int, Ev (fun k => Fw.l0 k l x (l.length : Int) (i : Int)) t ∧ (decide (t ≥ 0) = (l.drop i).any fun y => decide (y = x)) := by
 induction d with
 | zero =>
  intro i hi
  have h1 : ¬ ((i : Int) < (l.length : Int)) := by omega
  refine ⟨-1, Ev.succ ?_, ?_⟩
  ·
   simp only [Fw.l0, h1, ↓reduceIte]
   exact Ev.now _
  ·
   rw [List.drop_of_length_le Yq1]
   rfl
 | succ d ih =>
  intro i hi
  have hil : i < l.length := by omega
  have h1 : (i : Int) < (l.length : Int) := by omega
  have h2 : (0 : Int) ≤ (i : Int) := by omega
  have hw : wrap64 ((i : Int) + 1) = ((i + 1 : Nat) : Int) := by rw [w64 Yq1 Yq1]; rfl
  rw [drop_cons l i hil, List.any_cons]
  by_cases c : x = l[i]
  ·
   refine ⟨(i : Int), Ev.succ ?_, ?_⟩
   ·
    simp only [Fw.l0, h1, h2, ↓reduceIte, rd_nat l i hil, c]
    exact Ev.now _
   ·
    rw [decide_eq_true c.symm, Bool.true_or]
    exact decide_eq_true Yq1
  ·
   obtain ⟨t, e, ht⟩ := ih (i + 1) Yq1
   refine ⟨t, Ev.succ ?_, ?_⟩
   ·
    simp only [Fw.l0, h1, h2, ↓reduceIte, rd_nat l i hil, c, hw]
    exact e
   ·
    rw [show decide (l[i] = x) = false from decide_eq_false (fun q => c q.symm), Bool.false_or]
    exact ht
theorem Ftb (l : List Int) (x : Int) (hl : l.length ≤ 1000000) : Ev (fun k => FS.f k l x) (l.any fun y => decide (y = x)) := by
 obtain ⟨t, e, ht⟩ := Fsb l x hl l.length 0 Yq1
 rw [List.drop_zero] at ht
 unfold FS.f
 rw [← ht]
 exact Ev.bind (show Ev (fun k => Fw.f k l x) t from e) (Ev.now _)
theorem any_cnt (l : List Int) (x : Int) : (l.any fun y => decide (y = x)) = decide (cntB l (x + 1) > cntB l x) := by
 rw [cntB_succ]
 cases h : l.any fun y => decide (y = x) with
 | true =>
  obtain ⟨y, hy, e⟩ := List.any_eq_true.1 h
  have hm : y ∈ l.filter fun y => decide (y = x) := List.mem_filter.2 ⟨hy, e⟩
  have hp := List.length_pos_of_mem hm
  exact (decide_eq_true Yq1).symm
 | false =>
  have hn : l.filter (fun y => decide (y = x)) = [] := by
   rw [List.filter_eq_nil_iff]
   intro y hy
   have := List.any_eq_false.1 h y hy
   exact this
  rw [hn]
  exact (decide_eq_false Yq3).symm
theorem Fub (c lim w ls : Int) (lw : List Int) (hs : Int) (hw : List Int) (x : Int) (hl1 : lw.length ≤ 9223372036854775807) (hl2 : hw.length ≤ 9223372036854775807) (g : goodS c lim w ls lw hs hw = true) (a : 0 ≤ x ∧ x ≤ lim - 1) : Ev (fun k => FW.f k c lim w ls lw hs hw x) (decide (cntB (listS c w lw hs hw) (x + 1) > cntB (listS c w lw hs hw) x), true) := by
 obtain ⟨r, e, r1, r2⟩ := FHa c lim w ls lw hs hw hl1 hl2
 unfold FW.f
 refine Ev.bind e ?_
 have hr := r2 (by rw [r1, g])
 obtain ⟨_, hlen, hlim, hsort⟩ := goodS_of g
 rw [r1, g, hr]
 have wm : wrap64 (lim - 1) = lim - 1 := w64 Yq1 Yq1
 have hb := Ftb (listS c w lw hs hw) x Yq1
 rw [any_cnt] at hb
 simp only [↓reduceIte, Fma, wm, Option.bind_some, a, and_self, decide_true]
 exact Ev.bind hb (Ev.now _)
theorem sortedV_intro {l : List Int} {m : Int} (h1 : l.length ≤ 60) (h2 : 1 ≤ m ∧ m ≤ 100000) (h3 : ∀ x ∈ l, 0 ≤ x ∧ x ≤ m - 1) (h4 : l.Pairwise (· ≤ ·)) : sortedV l m = true := by
 unfold sortedV sortedFrom
 rw [Bool.and_eq_true, List.all_eq_true]
 refine ⟨fun i hi => ?_, by simp [h1, h2]⟩
 have hi' : i < l.length := by
  have := (List.mem_range'.1 hi)
  obtain ⟨j, hj, e⟩ := this
  omega
 unfold okAt inB
 rw [rd_nat l i hi', decide_eq_true (h3 _ (List.getElem_mem hi')), Bool.true_and]
 by_cases c : i = 0
 ·
  simp [c]
 ·
  have e := List.pairwise_iff_getElem.1 h4 (i - 1) i Yq1 hi' Yq1
  rw [rd_nat l (i - 1) Yq1]
  simp [e]
/-- Sorted numbers below a limit. -/
structure Fine (l : List Int) (m : Nat) : Prop where
 len : l.length ≤ 60
 m1 : 1 ≤ m
 m2 : m ≤ 100000
 range : ∀ x ∈ l, 0 ≤ x ∧ x ≤ (m : Int) - 1
 sorted : l.Pairwise (· ≤ ·)
theorem Fine.v {l : List Int} {m : Nat} (h : Fine l m) : sortedV l (m : Int) = true := by
 have h1 := h.m1
 have h2 := h.m2
 exact sortedV_intro h.len Yq1 h.range h.sorted
theorem Fine.nums {l : List Int} {m : Nat} (h : Fine l m) : Nums l m (widthV l.length m) := nums_of h.v
theorem fine_of {l : List Int} {m : Nat} (h : sortedV l (m : Int) = true) : Fine l m := by
 obtain ⟨h1, h2, h3⟩ := sortedV_of h
 have n := nums_of h
 refine ⟨h1, Yq1, Yq1, fun x hx => ?_, ?_⟩
 ·
  obtain ⟨i, hi, rfl⟩ := List.getElem_of_mem hx
  have := (h3 i hi).1
  rw [rd_nat l i hi] at this
  exact this
 ·
  rw [List.pairwise_iff_getElem]
  intro i j hi hj hij
  have := n.sorted i j Yq1 hj
  rw [rd_nat l i hi, rd_nat l j hj] at this
  exact this
theorem Fine.sub {l l' : List Int} {m : Nat} (h : Fine l m) (hs : l'.Sublist l) : Fine l' m :=
 ⟨Nat.le_trans hs.length_le h.len, h.m1, h.m2, fun x hx => h.range x (hs.subset hx), h.sorted.sublist hs⟩
/-- What a good sparse vector is. -/
theorem good_is {c lim w ls : Int} {lw : List Int} {hs : Int} {hw : List Int} (h : goodS c lim w ls lw hs hw = true) : ∃ (l : List Int) (m : Nat), Fine l m ∧ c = (l.length : Int) ∧ lim = (m : Int) ∧ w = ((widthV l.length m : Nat) : Int) ∧ ls = ((l.length * widthV l.length m : Nat) : Int) ∧ lw = lowW l (widthV l.length m) ∧ hs = ((hiN l m (widthV l.length m) : Nat) : Int) ∧ hw = hiW l m (widthV l.length m) := by
 unfold goodS at h
 rw [Bool.and_eq_true] at h
 obtain ⟨h1, h2⟩ := h
 obtain ⟨c', m', w', hs', rfl, rfl, rfl, rfl, q1, q2, q3, g1, g2, hv⟩ := condS_of h1
 unfold finS at h2
 simp only [Bool.and_eq_true, decide_eq_true_eq, Int.toNat_natCast] at h2
 obtain ⟨e1, e2, e3, e4, e5⟩ := h2
 generalize listS (c' : Int) (w' : Int) lw (hs' : Int) hw = l at *
 have e6 : l.length = c' := by omega
 subst e6
 subst q3
 exact ⟨l, m', fine_of e2, rfl, rfl, rfl, hv.lsz, e3.symm, e4.symm, e5.symm⟩
/-- The numbers of a sparse vector that was built. -/
theorem numbers_built {l : List Int} {m : Nat} (h : Fine l m) : Ev (fun k => Fa.f k (l.length : Int) (m : Int) ((widthV l.length m : Nat) : Int) ((l.length * widthV l.length m : Nat) : Int) (lowW l (widthV l.length m)) ((hiN l m (widthV l.length m) : Nat) : Int) (hiW l m (widthV l.length m))) (l, true) := by
 have n := h.nums
 have h4 := n.low
 have h5 := n.hi
 obtain ⟨r, e, r1, r2⟩ := FHa (l.length : Int) (m : Int) ((widthV l.length m : Nat) : Int) ((l.length * widthV l.length m : Nat) : Int) (lowW l (widthV l.length m)) ((hiN l m (widthV l.length m) : Nat) : Int) (hiW l m (widthV l.length m)) (by unfold lowW; rw [fromW_length, blankW_length]; omega) (by unfold hiW; rw [fromW_length, blankW_length]; omega)
 have r3 := r1.trans (round_good n h.v)
 have r4 := (r2 r3).trans (round_list n)
 rw [show (l, true) = r from by rw [← r4, ← r3]]
 exact e
theorem Fvb {l : List Int} {m : Nat} (h : Fine l m) : Ev (fun k => Fb.f k (l.length : Int) (m : Int) ((widthV l.length m : Nat) : Int) ((l.length * widthV l.length m : Nat) : Int) (lowW l (widthV l.length m)) ((hiN l m (widthV l.length m) : Nat) : Int) (hiW l m (widthV l.length m))) true := by
 have n := h.nums
 have h4 := n.low
 have h5 := n.hi
 have e := FQa (l.length : Int) (m : Int) ((widthV l.length m : Nat) : Int) ((l.length * widthV l.length m : Nat) : Int) (lowW l (widthV l.length m)) ((hiN l m (widthV l.length m) : Nat) : Int) (hiW l m (widthV l.length m)) (by unfold lowW; rw [fromW_length, blankW_length]; omega) (by unfold hiW; rw [fromW_length, blankW_length]; omega)
 rw [round_good n h.v] at e
 exact e
def slice8 (l : List Int) (m : Nat) : Int × Int × Int × Int × List Int × Int × List Int × Bool := ((l.length : Int), (m : Int), ((widthV l.length m : Nat) : Int), ((l.length * widthV l.length m : Nat) : Int), lowW l (widthV l.length m), ((hiN l m (widthV l.length m) : Nat) : Int), hiW l m (widthV l.length m), true)
def none8 : Int × Int × Int × Int × List Int × Int × List Int × Bool := (0, 0, 0, 0, [], 0, [], false)
theorem part_sub (l : List Int) (a b : Nat) : ((l.take b).drop a).Sublist l := (List.drop_sublist _ _).trans (List.take_sublist _ _)
theorem slice_built {l : List Int} {m : Nat} (h : Fine l m) {a b : Nat} (hab : a ≤ b) (hb : b ≤ l.length) : Ev (fun k => FJ.f k (l.length : Int) (m : Int) ((widthV l.length m : Nat) : Int) ((l.length * widthV l.length m : Nat) : Int) (lowW l (widthV l.length m)) ((hiN l m (widthV l.length m) : Nat) : Int) (hiW l m (widthV l.length m)) (a : Int) (b : Int)) (slice8 ((l.take b).drop a) m) := by
 have e := FGa (h.sub (part_sub l a b)).nums
 have c1 : ¬ ((a : Int) < 0) := by omega
 have c2 : ¬ ((a : Int) > (b : Int)) := by omega
 have c3 : ¬ ((b : Int) > (l.length : Int)) := by omega
 have c4 : (0 : Int) ≤ (a : Int) := by omega
 have c5 : (a : Int) ≤ (b : Int) := by omega
 have c6 : (b : Int) ≤ (l.length : Int) := by omega
 unfold FJ.f
 refine Ev.bind (numbers_built h) ?_
 simp only [↓reduceIte, c1, c2, c3, c4, c5, c6, Int.toNat_natCast]
 exact Ev.bind e (Ev.now _)
theorem slice_spec {l : List Int} {m : Nat} (h : Fine l m) {a b : Nat} (hab : a ≤ b) (hb : b ≤ l.length) : Ev (fun k => Fo.f k (l.length : Int) (m : Int) ((widthV l.length m : Nat) : Int) ((l.length * widthV l.length m : Nat) : Int) (lowW l (widthV l.length m)) ((hiN l m (widthV l.length m) : Nat) : Int) (hiW l m (widthV l.length m)) (a : Int) (b : Int)) (slice8 ((l.take b).drop a) m) := by
 have e := FFa (h.sub (part_sub l a b)).nums
 have g := spList_of (round_good h.nums h.v)
 rw [round_list h.nums] at g
 have c3 : ¬ ((b : Int) > (l.length : Int)) := by omega
 have c4 : (0 : Int) ≤ (a : Int) := by omega
 have c5 : (a : Int) ≤ (b : Int) := by omega
 have c6 : (b : Int) ≤ (l.length : Int) := by omega
 unfold Fo.f
 refine Ev.bind (Fvb h) ?_
 simp only [↓reduceIte, Fqa, Option.bind_some, c4, c5, and_self, decide_true, c3, decide_false]
 refine Ev.succ ?_
 simp only [Fo.j0, Bool.false_eq_true, ↓reduceIte]
 refine Ev.bind g ?_
 simp only [c4, c5, c6, ↓reduceIte, Int.toNat_natCast]
 exact Ev.bind e (Ev.now _)
theorem slice_impl_bad {c lim w ls : Int} {lw : List Int} {hs : Int} {hw : List Int} {a b : Int} (hl1 : lw.length ≤ 9223372036854775807) (hl2 : hw.length ≤ 9223372036854775807) (h : ¬ (goodS c lim w ls lw hs hw = true ∧ 0 ≤ a ∧ a ≤ b ∧ b ≤ c)) : Ev (fun k => FJ.f k c lim w ls lw hs hw a b) none8 := by
 obtain ⟨r, e, r1, r2⟩ := FHa c lim w ls lw hs hw hl1 hl2
 unfold FJ.f
 refine Ev.bind e ?_
 cases g : goodS c lim w ls lw hs hw with
 | false =>
  rw [r1, g]
  simp only [Bool.false_eq_true, ↓reduceIte]
  exact Ev.now _
 | true =>
  have hr := r2 (by rw [r1, g])
  have hlen := (goodS_of g).1
  rw [r1, g, hr]
  simp only [↓reduceIte]
  by_cases c1 : a < 0
  ·
   simp only [c1, ↓reduceIte]
   exact Ev.now _
  by_cases c2 : a > b
  ·
   simp only [c1, c2, ↓reduceIte]
   exact Ev.now _
  have c3 : b > ((listS c w lw hs hw).length : Int) := by
   have : ¬ (b ≤ c) := fun q => h ⟨g, Yq1, Yq1, q⟩
   omega
  simp only [c1, c2, c3, ↓reduceIte]
  exact Ev.now _
theorem slice_spec_bad {c lim w ls : Int} {lw : List Int} {hs : Int} {hw : List Int} {a b : Int} (hl1 : lw.length ≤ 9223372036854775807) (hl2 : hw.length ≤ 9223372036854775807) (h : ¬ (goodS c lim w ls lw hs hw = true ∧ 0 ≤ a ∧ a ≤ b ∧ b ≤ c)) : Ev (fun k => Fo.f k c lim w ls lw hs hw a b) none8 := by
 have e := FQa c lim w ls lw hs hw hl1 hl2
 have hj : Ev (fun k => Fo.j0 k a b true c lim w ls lw hs hw) none8 := by
  refine Ev.succ ?_
  simp only [Fo.j0, ↓reduceIte]
  exact Ev.now _
 unfold Fo.f
 refine Ev.bind e ?_
 cases g : goodS c lim w ls lw hs hw with
 | false =>
  simp only [Bool.false_eq_true, ↓reduceIte]
  exact hj
 | true =>
  simp only [↓reduceIte, Fqa, Option.bind_some]
  by_cases c1 : 0 ≤ a ∧ a ≤ b
  ·
   have c2 : b > c := by
    have : ¬ (b ≤ c) := fun q => h ⟨g, c1.1, c1.2, q⟩
    omega
   simp only [c1, and_self, decide_true, ↓reduceIte, c2]
   exact hj
  ·
   simp only [c1, decide_false, Bool.false_eq_true, ↓reduceIte]
   exact hj
/-! ### sameness -/
theorem pSameInts_l0 (l1 : List Int) (hl : l1.length ≤ 1000000) (d : Nat) : ∀ i : Nat, i + d = l1.length → Ev (fun k => FI.l0 k l1 l1 (l1.length : Int) (i : Int)) true := by
 induction d with
 | zero =>
  intro i hi
  have h1 : ¬ ((i : Int) < (l1.length : Int)) := by omega
  refine Ev.succ ?_
  simp only [FI.l0, h1, ↓reduceIte]
  exact Ev.now _
 | succ d ih =>
  intro i hi
  have h1 : (i : Int) < (l1.length : Int) := by omega
  have h2 : (0 : Int) ≤ (i : Int) := by omega
  have hw : wrap64 ((i : Int) + 1) = ((i + 1 : Nat) : Int) := by rw [w64 Yq1 Yq1]; rfl
  refine Ev.succ ?_
  simp only [FI.l0, h1, h2, ↓reduceIte, hw]
  exact ih (i + 1) Yq1
theorem pSameBits_refl (a : Int) (l1 : List Int) (hl : l1.length ≤ 1000000) : Ev (fun k => FQ.f k a l1 a l1) true := by
 unfold FQ.f FI.f
 simp only [↓reduceIte]
 exact Ev.bind (pSameInts_l0 l1 hl l1.length 0 Yq1) (Ev.now _)
theorem pSame_refl (c lim w ls : Int) (lw : List Int) (hs : Int) (hw : List Int) (hl1 : lw.length ≤ 1000000) (hl2 : hw.length ≤ 1000000) : Ev (fun k => FX.f k c lim w ls lw hs hw c lim w ls lw hs hw) true := by
 unfold FX.f
 simp only [↓reduceIte]
 refine Ev.bind (pSameBits_refl ls lw hl1) ?_
 simp only [↓reduceIte]
 exact Ev.bind (pSameBits_refl hs hw hl2) (Ev.now _)
theorem Fine.rows {l : List Int} {m : Nat} (h : Fine l m) : (lowW l (widthV l.length m)).length ≤ 1000000 ∧ (hiW l m (widthV l.length m)).length ≤ 1000000 := by
 have n := h.nums
 have h4 := n.low
 have h5 := n.hi
 exact ⟨by unfold lowW; rw [fromW_length, blankW_length]; omega, by unfold hiW; rw [fromW_length, blankW_length]; omega⟩
/-! ### merging -/
theorem twoLists_built {x y : List Int} {m n : Nat} (hx : Fine x m) (hy : Fine y n) : Ev (fun k => FN.f k (x.length : Int) (m : Int) ((widthV x.length m : Nat) : Int) ((x.length * widthV x.length m : Nat) : Int) (lowW x (widthV x.length m)) ((hiN x m (widthV x.length m) : Nat) : Int) (hiW x m (widthV x.length m)) (y.length : Int) (n : Int) ((widthV y.length n : Nat) : Int) ((y.length * widthV y.length n : Nat) : Int) (lowW y (widthV y.length n)) ((hiN y n (widthV y.length n) : Nat) : Int) (hiW y n (widthV y.length n))) (x, y, true) := by
 unfold FN.f
 refine Ev.bind (numbers_built hx) (Ev.bind (numbers_built hy) ?_)
 simp only [↓reduceIte]
 exact Ev.now _
theorem merge_built {x y z : List Int} {m : Nat} (hx : Fine x m) (hy : Fine y m) (hz : Fine z m) (hp : (x ++ y).Perm z) : Ev (fun k => FZ.f k (x.length : Int) (m : Int) ((widthV x.length m : Nat) : Int) ((x.length * widthV x.length m : Nat) : Int) (lowW x (widthV x.length m)) ((hiN x m (widthV x.length m) : Nat) : Int) (hiW x m (widthV x.length m)) (y.length : Int) (m : Int) ((widthV y.length m : Nat) : Int) ((y.length * widthV y.length m : Nat) : Int) (lowW y (widthV y.length m)) ((hiN y m (widthV y.length m) : Nat) : Int) (hiW y m (widthV y.length m))) (slice8 z m) := by
 have hl := hp.length_eq
 have hz60 := hz.len
 have hf : [x, y].flatten = x ++ y := by simp
 have c1 : (x ++ y).length < 1000000 ∧ [x, y].length < 1000000 := ⟨Yq1, Yq3⟩
 have c2 : (x ++ y).length < 4611686018427387904 := by omega
 have c3 : ¬ (((x ++ y).length : Int) > 60) := by omega
 have es : ((x ++ y).mergeSort fun a b => decide (a ≤ b)) = z := by
  refine List.Perm.eq_of_pairwise (le := fun a b => (a : Int) ≤ b) ?_ ?_ hz.sorted ((List.mergeSort_perm _ _).trans hp)
  ·
   intro a b _ _ h1 h2
   exact Int.le_antisymm h1 h2
  ·
   have := List.pairwise_mergeSort (le := fun a b : Int => decide (a ≤ b)) (by intro a b c; simp only [decide_eq_true_eq]; omega) (by intro a b; simp only [Bool.or_eq_true, decide_eq_true_eq]; omega) (x ++ y)
   exact this.imp (fun h => by simpa using h)
 have hm : mx (m : Int) (m : Int) = (m : Int) := by unfold mx; rw [if_neg Yq1]
 unfold FZ.f
 refine Ev.bind (twoLists_built hx hy) ?_
 simp only [Fka.f, Fla.f, hf, c1, and_self, ↓reduceIte, Option.bind_some, c2, c3, es, hm]
 exact Ev.bind (FGa hz.nums) (Ev.now _)
/-! ### what two have -/
theorem compact_mem (l : List Int) (x : Int) : x ∈ Lib.compact l ↔ x ∈ l := by
 have key : ∀ n, n ≤ l.length → ∀ x, x ∈ Lib.compactUpTo l.toArray n ↔ x ∈ l.take n := by
  intro n
  induction n with
  | zero => intro _ x; simp [Lib.compactUpTo]
  | succ n ih =>
   intro hn x
   have hd : l.toArray[n]! = l[n] := by
    rw [getElem!_pos l.toArray n (by simp; omega)]
    simp
   rw [Lib.compactUpTo_succ, List.mem_append, ih Yq1, List.take_succ_eq_append_getElem Yq1, List.mem_append]
   cases c : Lib.keeps l.toArray n with
   | true => simp [hd]
   | false =>
    simp only [Bool.false_eq_true, ↓reduceIte, List.not_mem_nil, or_false, List.mem_singleton]
    constructor
    ·
     exact Or.inl
    ·
     rintro (h | rfl)
     ·
      exact h
     ·
      have h0 : ¬ (n = 0 ∨ l.toArray[n]! ≠ l.toArray[n - 1]!) := by
       unfold Lib.keeps at c
       simpa using c
      have h1 : n ≠ 0 := fun e => h0 (.inl e)
      have h2 : l.toArray[n]! = l.toArray[n - 1]! := Classical.byContradiction fun e => h0 (.inr e)
      rw [hd, getElem!_pos l.toArray (n - 1) (by simp; omega)] at h2
      rw [h2, List.mem_take_iff_getElem]
      exact ⟨n - 1, Yq1, Yq3⟩
 have := key l.length (Nat.le_refl _) x
 rw [List.take_length] at this
 exact this
theorem meet_built {x y : List Int} {m n : Nat} (hx : Fine x m) (hy : Fine y n) : Ev (fun k => Fba.f k (x.length : Int) (m : Int) ((widthV x.length m : Nat) : Int) ((x.length * widthV x.length m : Nat) : Int) (lowW x (widthV x.length m)) ((hiN x m (widthV x.length m) : Nat) : Int) (hiW x m (widthV x.length m)) (y.length : Int) (n : Int) ((widthV y.length n : Nat) : Int) ((y.length * widthV y.length n : Nat) : Int) (lowW y (widthV y.length n)) ((hiN y n (widthV y.length n) : Nat) : Int) (hiW y n (widthV y.length n))) (Lib.compact (x.filter fun a => y.any fun b => decide (b = a)), true) := by
 have h1 := hx.len
 have h2 := hy.len
 have hf := List.length_filter_le (fun a => y.any fun b => decide (b = a)) x
 have c1 : x.length < 17592186044416 := by omega
 have c2 : x.length ≤ 1000000 ∧ y.length ≤ 1000000 := by omega
 have c3 : (x.filter fun a => y.any fun b => decide (b = a)).length ≤ 9223372036854775807 := by omega
 unfold Fba.f
 refine Ev.bind (twoLists_built hx hy) ?_
 simp only [↓reduceIte, Fpa.f, c1, Option.bind_some, FR.f, c2, and_self, Fua.f, c3]
 exact Ev.now _
theorem has_built {l : List Int} {m : Nat} (h : Fine l m) {x : Int} (hx : x ∈ l) : Ev (fun k => FW.f k (l.length : Int) (m : Int) ((widthV l.length m : Nat) : Int) ((l.length * widthV l.length m : Nat) : Int) (lowW l (widthV l.length m)) ((hiN l m (widthV l.length m) : Nat) : Int) (hiW l m (widthV l.length m)) x) (true, true) := by
 have hr := h.range x hx
 have hrow := h.rows
 have hlen := h.len
 have e := Fub (l.length : Int) (m : Int) ((widthV l.length m : Nat) : Int) ((l.length * widthV l.length m : Nat) : Int) (lowW l (widthV l.length m)) ((hiN l m (widthV l.length m) : Nat) : Int) (hiW l m (widthV l.length m)) x Yq1 Yq1 (round_good h.nums h.v) hr
 rw [round_list h.nums, ← any_cnt, show (l.any fun y => decide (y = x)) = true from List.any_eq_true.2 ⟨x, hx, Yq3⟩] at e
 exact e
theorem at_built {l : List Int} {m : Nat} (h : Fine l m) {i : Nat} (hi : i < l.length) : Ev (fun k => FM.f k (l.length : Int) (m : Int) ((widthV l.length m : Nat) : Int) ((l.length * widthV l.length m : Nat) : Int) (lowW l (widthV l.length m)) ((hiN l m (widthV l.length m) : Nat) : Int) (hiW l m (widthV l.length m)) (i : Int)) (l[i], true) := by
 have hlen := h.len
 have hw : wrap64 ((l.length : Int) - 1) = (l.length : Int) - 1 := w64 Yq1 Yq1
 have c1 : (0 : Int) ≤ (i : Int) := by omega
 have c2 : (i : Int) ≤ (l.length : Int) - 1 := by omega
 have c3 : (i : Int) < (l.length : Int) := by omega
 unfold FM.f
 refine Ev.bind (numbers_built h) ?_
 simp only [↓reduceIte, Fma, hw, Option.bind_some, c1, c2, c3, and_self, decide_true, rd_nat l i hi]
 exact Ev.now _
theorem pHas_l0 (l : List Int) (x : Int) (hx : x ∈ l) (hl : l.length ≤ 1000000) (d : Nat) : ∀ i : Nat, i + d = l.length → x ∈ l.drop i → Ev (fun k => FF.l0 k x l (l.length : Int) (i : Int)) true := by
 induction d with
 | zero =>
  intro i hi h
  rw [List.drop_of_length_le Yq1] at h
  cases h
 | succ d ih =>
  intro i hi h
  have hil : i < l.length := by omega
  have h1 : (i : Int) < (l.length : Int) := by omega
  have h2 : (0 : Int) ≤ (i : Int) := by omega
  have hw : wrap64 ((i : Int) + 1) = ((i + 1 : Nat) : Int) := by rw [w64 Yq1 Yq1]; rfl
  refine Ev.succ ?_
  rw [drop_cons l i hil] at h
  by_cases c : l[i] = x
  ·
   simp only [FF.l0, h1, h2, ↓reduceIte, rd_nat l i hil, c]
   exact Ev.now _
  ·
   simp only [FF.l0, h1, h2, ↓reduceIte, rd_nat l i hil, c, hw]
   refine ih (i + 1) Yq1 ?_
   rcases List.mem_cons.1 h with e | e
   ·
    exact absurd e.symm c
   ·
    exact e
theorem pHas_ev (l : List Int) (x : Int) (hx : x ∈ l) (hl : l.length ≤ 1000000) : Ev (fun k => FF.f k l x) true := pHas_l0 l x hx hl l.length 0 Yq1 (by rw [List.drop_zero]; exact hx)
theorem and255 (x : Int) : 0 ≤ Go.bits .and .u64 x 255 ∧ Go.bits .and .u64 x 255 ≤ 255 := by
 have e : Go.bits .and .u64 x 255 = IntKind.u64.wrap ((((BitVec.ofInt 64 x) &&& (BitVec.ofInt 64 255)).toNat : Nat) : Int) := rfl
 have h1 : ((BitVec.ofInt 64 x) &&& (BitVec.ofInt 64 255)).toNat ≤ 255 := by
  rw [BitVec.toNat_and]
  exact Nat.le_trans Nat.and_le_right Yq2
 generalize ((BitVec.ofInt 64 x) &&& (BitVec.ofInt 64 255)).toNat = n at *
 have e2 : IntKind.u64.wrap (n : Int) = (n : Int) := by
  simp only [IntKind.wrap_u64]
  omega
 rw [e, e2]
 omega
def small (l : List Int) : Prop := l.length ≤ 1048576 ∧ ∀ x ∈ l, 0 ≤ x ∧ x ≤ 255
theorem small_rd {l : List Int} (h : small l) (i : Int) : 0 ≤ rd l i ∧ rd l i ≤ 255 := by
 unfold rd
 rw [List.getD_eq_getElem?_getD]
 cases e : l[i.toNat]? with
 | none => simp
 | some x => simpa using h.2 x (List.mem_of_getElem? e)
/-- A draw: at whatever place up to a bound, it gives something right, and goes on by so many places at the most. -/
def Draw {α : Type} (g : Int → Int → Option (α × Int × Int)) (m : Int) (P : α → Prop) : Prop := ∀ a s : Int, 0 ≤ a → a + m ≤ 4000000000000000000 → ∃ r a' s', g a s = some (r, a', s') ∧ P r ∧ a ≤ a' ∧ a' ≤ a + m
theorem next_draw {l : List Int} (h : small l) : Draw (Fha.f l) 1 (fun r => 0 ≤ r ∧ r ≤ 255) := by
 intro a s h0 h1
 have hr := small_rd h a
 have hl := h.1
 have w1 : wrap64 (rd l a) = rd l a := w64 Yq1 Yq1
 have w2 : wrap64 (a + 1) = a + 1 := w64 Yq1 Yq1
 unfold Fha.f
 rw [w1, w2]
 by_cases c : a < (l.length : Int)
 ·
  have c2 : a + 1 ≤ (l.length : Int) := by omega
  simp only [c, h0, c2, ↓reduceIte]
  exact ⟨_, _, _, rfl, hr, Yq1, Yq1⟩
 ·
  have c2 : ¬ (a + 1 ≤ (l.length : Int)) := by omega
  simp only [c, c2, ↓reduceIte]
  have h2 := and255 (IntKind.u64.wrap (IntKind.u64.wrap (IntKind.u64.wrap (s * 6364136223846793005)) + 1442695040888963407) / 1099511627776)
  rw [w64 (n := Go.bits .and .u64 _ 255) Yq1 Yq1]
  exact ⟨_, _, _, rfl, h2, Yq1, Yq1⟩
theorem pick_draw {l : List Int} (h : small l) (n : Int) (hn : n ≤ 1000000) : Draw (fun a s => Fd.f l a s n) 2 (fun r => 0 ≤ r ∧ (r < n ∨ r = 0)) := by
 intro a s h0 h1
 simp only [Fd.f]
 by_cases c : n ≤ 1
 ·
  simp only [c, ↓reduceIte]
  exact ⟨_, _, _, rfl, Yq1, Yq1, Yq1⟩
 ·
  obtain ⟨r, a', s', e, hr, ha, ha'⟩ := next_draw h a s h0 Yq1
  have hn0 : ¬ (n = 0) := by omega
  simp only [c, ↓reduceIte, e, Option.bind_some, hn0]
  by_cases c2 : n > 200
  ·
   obtain ⟨r2, a2, s2, e2, hr2, ha2, ha2'⟩ := next_draw h a' s' Yq1 Yq1
   simp only [c2, ↓reduceIte, e2, Option.bind_some]
   refine ⟨_, _, _, rfl, ?_, Yq1, Yq1⟩
   rw [w64 (n := r * 256) Yq1 Yq1, w64 (n := r * 256 + r2) Yq1 Yq1, tmod_pos Yq1]
   exact ⟨Int.emod_nonneg _ Yq1, .inl (Int.emod_lt_of_pos _ Yq1)⟩
  ·
   simp only [c2, ↓reduceIte]
   refine ⟨_, _, _, rfl, ?_, Yq1, Yq1⟩
   rw [tmod_pos hr.1]
   exact ⟨Int.emod_nonneg _ Yq1, .inl (Int.emod_lt_of_pos _ Yq1)⟩
theorem among_draw {l : List Int} (h : small l) (xs : List Int) (hx : 0 < xs.length) (hx2 : xs.length ≤ 1000) : Draw (fun a s => FY.f l a s xs) 2 (fun r => r ∈ xs) := by
 intro a s h0 h1
 obtain ⟨r, a', s', e, hr, ha, ha'⟩ := pick_draw h (xs.length : Int) Yq1 a s h0 h1
 have c : r < (xs.length : Int) := by omega
 obtain ⟨n, rfl⟩ := Int.eq_ofNat_of_zero_le hr.1
 simp only [FY.f, e, Option.bind_some, hr.1, c, ↓reduceIte]
 refine ⟨_, _, _, rfl, ?_, ha, ha'⟩
 rw [rd_nat xs n Yq1]
 exact List.getElem_mem _
theorem one_draw {l : List Int} (h : small l) (n : Int) (hn : n ≤ 1000000) : Draw (fun a s => Ffa.f l a s n) 2 (fun _ => True) := by
 intro a s h0 h1
 obtain ⟨r, a', s', e, hr, ha, ha'⟩ := pick_draw h n hn a s h0 h1
 simp only [Ffa.f, e, Option.bind_some]
 exact ⟨_, _, _, rfl, trivial, ha, ha'⟩
theorem small_of {l : List Int} (h1 : l.length ≤ 1048576) (h2 : ∀ x ∈ l, (Lit.int .u8 x).wf = true) : small l := by
 refine ⟨h1, fun x hx => ?_⟩
 have := h2 x hx
 simpa [Lit.wf, IntKind.min, IntKind.max, IntKind.signed, IntKind.bits] using this
theorem limit_draw {l : List Int} (h : small l) : Draw (Fta.f l) 4 (fun r => -1 ≤ r ∧ r ≤ 100001) := by
 intro a s h0 h1
 obtain ⟨r, a1, s1, e1, hr, g1, g1'⟩ := pick_draw h 8 Yq2 a s h0 Yq1
 simp only [Fta.f, e1, Option.bind_some]
 by_cases c0 : r = 0
 ·
  obtain ⟨r2, a2, s2, e2, hr2, g2, g2'⟩ := among_draw h [(-1), 0, 1, 2, 100000, 100001] Yq2 Yq2 a1 s1 Yq1 Yq1
  simp only [c0, ↓reduceIte, e2, Option.bind_some]
  refine ⟨_, _, _, rfl, ?_, Yq1, Yq1⟩
  simp only [List.mem_cons, List.not_mem_nil, or_false] at hr2
  omega
 ·
  by_cases c1 : r = 1
  ·
   obtain ⟨r2, a2, s2, e2, hr2, g2, g2'⟩ := pick_draw h 100000 Yq2 a1 s1 Yq1 Yq1
   simp only [c1, ↓reduceIte, e2, Option.bind_some, show ¬ ((1 : Int) = 0) from by decide]
   refine ⟨_, _, _, rfl, ?_, Yq1, Yq1⟩
   rw [w64 Yq1 Yq1]
   omega
  ·
   obtain ⟨r2, a2, s2, e2, hr2, g2, g2'⟩ := pick_draw h 150 Yq2 a1 s1 Yq1 Yq1
   simp only [c0, c1, ↓reduceIte, e2, Option.bind_some]
   refine ⟨_, _, _, rfl, ?_, Yq1, Yq1⟩
   rw [w64 Yq1 Yq1]
   omega
theorem spBits_l0 {l : List Int} (h : small l) (d : Nat) : ∀ (x : List Bool) (a s : Int), x.length + d ≤ 1000 → 0 ≤ a → a + 2 * (d : Int) ≤ 2000000000 →
  ∃ n ws a' s', Ev (fun k => Ft.l0 k x (d : Int) l a s) (n, ws, a', s') ∧ ws.length ≤ 1000 ∧ (0 ≤ n ∧ n ≤ 1000) ∧ a ≤ a' ∧ a' ≤ a + 2 * (d : Int) := by
 induction d with
 | zero =>
  intro x a s hx h0 h1
  refine ⟨(x.length : Int), fromW (fun p => rdOf false x (p : Int)) 0 x.length (blankW (x.length : Int)), a, s, Ev.succ ?_, ?_, Yq1, Yq1, Yq1⟩
  ·
   have hz : ¬ (((0 : Nat) : Int) > 0) := by omega
   simp only [Ft.l0, hz, ↓reduceIte]
   exact Ev.bind (biSome_v x Yq1) (Ev.now _)
  ·
   rw [fromW_length, blankW_length]
   omega
 | succ d ih =>
  intro x a s hx h0 h1
  obtain ⟨r, a1, s1, e1, _, h2, h2'⟩ := one_draw h 2 Yq2 a s h0 Yq1
  obtain ⟨n, ws, a2, s2, e2, hl, hn, h3, h3'⟩ := ih (x ++ [r]) a1 s1 Yq4 Yq1 Yq1
  refine ⟨n, ws, a2, s2, Ev.succ ?_, hl, hn, Yq1, Yq1⟩
  have hw : wrap64 (((d + 1 : Nat) : Int) - 1) = (d : Int) := by rw [w64 Yq1 Yq1]; omega
  have hp : ((d + 1 : Nat) : Int) > 0 := by omega
  have hx2 : x.length < 140737488355328 := by omega
  simp only [Ft.l0, hp, ↓reduceIte, e1, Option.bind_some, hx2, hw]
  exact e2
theorem spBits_ev {l : List Int} (h : small l) (a s : Int) (ha : 0 ≤ a) (ha' : a ≤ 1000000) : ∃ n ws a' s', Ev (fun k => Ft.f k l a s 40) (n, ws, a', s') ∧ ws.length ≤ 1000 ∧ (0 ≤ n ∧ n ≤ 1000) ∧ a ≤ a' ∧ a' ≤ a + 1002 := by
 have hw : wrap64 ((40 : Int) + 1) = 41 := by rw [w64 Yq1 Yq1]; rfl
 obtain ⟨r, a1, s1, e1, hr, h1, h1'⟩ := pick_draw h 41 Yq1 a s ha Yq1
 obtain ⟨d, rfl⟩ := Int.eq_ofNat_of_zero_le hr.1
 obtain ⟨n, ws, a2, s2, e2, hl, hn, h2, h2'⟩ := spBits_l0 h d [] a1 s1 Yq6 Yq1 Yq1
 refine ⟨n, ws, a2, s2, ?_, hl, hn, Yq1, Yq1⟩
 unfold Ft.f
 simp only [hw, e1, Option.bind_some]
 exact e2
theorem spAny_ev {l : List Int} (h : small l) (a s : Int) (ha : 0 ≤ a) (ha' : a ≤ 1000000) : ∃ n ws a' s', Ev (fun k => Fq.f k l a s) (n, ws, a', s') ∧ ws.length ≤ 2000 ∧ a ≤ a' ∧ a' ≤ a + 1100 := by
 obtain ⟨n, ws, a1, s1, e1, hl, hn, g1, g1'⟩ := spBits_ev h a s ha ha'
 obtain ⟨r, a2, s2, e2, hr, g2, g2'⟩ := pick_draw h 16 Yq2 a1 s1 Yq1 Yq1
 unfold Fq.f
 by_cases c0 : r = 0
 ·
  obtain ⟨r3, a3, s3, e3, hr3, g3, g3'⟩ := pick_draw h 2 Yq2 a2 s2 Yq1 Yq1
  refine ⟨n, ws ++ [r3], a3, s3, Ev.bind e1 ?_, Yq4, Yq1, Yq1⟩
  simp only [e2, Option.bind_some, c0, ↓reduceIte, e3, show ws.length < 17592186044416 from by omega]
  exact Ev.now _
 by_cases c1 : r = 1
 ·
  obtain ⟨r3, a3, s3, e3, hr3, g3, g3'⟩ := pick_draw h 3 Yq2 a2 s2 Yq1 Yq1
  refine ⟨wrap64 (n + (wrap64 (r3 - 1))), ws, a3, s3, Ev.bind e1 ?_, Yq1, Yq1, Yq1⟩
  simp only [e2, Option.bind_some, c0, c1, ↓reduceIte, e3, show ¬ ((1 : Int) = 0) from by decide]
  exact Ev.now _
 by_cases c2 : r = 2
 ·
  by_cases z : (ws.length : Int) > 0
  ·
   obtain ⟨r3, a3, s3, e3, hr3, g3, g3'⟩ := pick_draw h (ws.length : Int) Yq1 a2 s2 Yq1 Yq1
   obtain ⟨r4, a4, s4, e4, hr4, g4, g4'⟩ := among_draw h [(-1), 65535, 65536, 40000] Yq2 Yq2 a3 s3 Yq1 Yq1
   refine ⟨n, ws.set r3.toNat r4, a4, s4, Ev.bind e1 ?_, by rw [List.length_set]; omega, Yq1, Yq1⟩
   simp only [e2, Option.bind_some, c0, c1, c2, ↓reduceIte, z, e3, e4, show ¬ ((2 : Int) = 0) from Yq2, show ¬ ((2 : Int) = 1) from Yq2, hr3.1, show r3 < (ws.length : Int) from by omega]
   exact Ev.now _
  ·
   refine ⟨n, ws, a2, s2, Ev.bind e1 ?_, Yq1, Yq1, Yq1⟩
   simp only [e2, Option.bind_some, c0, c1, c2, ↓reduceIte, z, show ¬ ((2 : Int) = 0) from Yq2, show ¬ ((2 : Int) = 1) from by decide]
   exact Ev.now _
 by_cases c3 : r = 3
 ·
  obtain ⟨r3, a3, s3, e3, hr3, g3, g3'⟩ := pick_draw h 2 Yq2 a2 s2 Yq1 Yq1
  have wv : wrap64 (4096 - r3) = 4096 - r3 := w64 Yq1 Yq1
  refine ⟨4096 - r3, List.replicate ((4096 - r3 + 15) / 16).toNat 0, a3, s3, Ev.bind e1 ?_, ?_, Yq1, Yq1⟩
  ·
   simp only [e2, Option.bind_some, c0, c1, c2, c3, ↓reduceIte, e3, wv, FEa (4096 - r3) Yq1 Yq1, show ¬ ((3 : Int) = 0) from Yq2, show ¬ ((3 : Int) = 1) from Yq2, show ¬ ((3 : Int) = 2) from by decide]
   exact Ev.now _
  ·
   rw [List.length_replicate]; omega
 by_cases c4 : r = 4
 ·
  obtain ⟨r3, a3, s3, e3, hr3, g3, g3'⟩ := pick_draw h 5 Yq2 a2 s2 Yq1 Yq1
  have wv : wrap64 (16 * r3) = 16 * r3 := w64 Yq1 Yq1
  refine ⟨16 * r3, List.replicate ((16 * r3 + 15) / 16).toNat 0, a3, s3, Ev.bind e1 ?_, by rw [List.length_replicate]; omega, Yq1, Yq1⟩
  simp only [e2, Option.bind_some, c0, c1, c2, c3, c4, ↓reduceIte, e3, wv, FEa (16 * r3) Yq1 Yq1, show ¬ ((4 : Int) = 0) from Yq2, show ¬ ((4 : Int) = 1) from Yq2, show ¬ ((4 : Int) = 2) from Yq2, show ¬ ((4 : Int) = 3) from by decide]
  exact Ev.now _
 ·
  refine ⟨n, ws, a2, s2, Ev.bind e1 ?_, Yq1, Yq1, Yq1⟩
  simp only [e2, Option.bind_some, c0, c1, c2, c3, c4, ↓reduceIte]
  exact Ev.now _
theorem l1Own_eq (l : List Int) (h : l.length < 17592186044416) : Fga.f l = some l := by
 have h' : ([] : List Int).length + l.length < 17592186044416 := by rw [List.length_nil]; omega
 simp only [Fga.f, Option.bind_some, h', ↓reduceIte, List.nil_append]
theorem spSorted_l1 (l : List Int) (lim n x a s : Int) (y : List Int) (hy : y.length ≤ 1000) (Q : List Int → Int → Prop)
  (hc : ∀ z : List Int, z.length = y.length + 1 → ∃ r a' s', Ev (fun k => Fc.l0 k lim z (wrap64 (n - 1)) l a s) (r, a', s') ∧ Q r a') (d : Nat) :
  ∀ i : Nat, i + d = y.length → ∃ r a' s', Ev (fun k => Fc.l1 k lim y n x (i : Int) l a s) (r, a', s') ∧ Q r a' := by
 have hend : ∀ i : Nat, i ≤ y.length → (y.take i).length + ([x] : List Int).length < 17592186044416 ∧ (y.take i ++ [x]).length + (y.drop i).length < 17592186044416 ∧ (y.take i).length < 17592186044416 ∧ ∃ r a' s', Ev (fun k => Fc.l0 k lim (y.take i ++ [x] ++ y.drop i) (wrap64 (n - 1)) l a s) (r, a', s') ∧ Q r a' := by
  intro i hi
  have e1 : (y.take i).length = i := by rw [List.length_take]; omega
  have e2 : (y.drop i).length = y.length - i := List.length_drop
  have e3 : ([x] : List Int).length = 1 := rfl
  refine ⟨Yq1, by rw [List.length_append]; omega, Yq1, hc _ ?_⟩
  rw [List.length_append, List.length_append]
  omega
 induction d with
 | zero =>
  intro i hi
  obtain ⟨h1, h2, h3, r, a', s', e, hq⟩ := hend i Yq1
  refine ⟨r, a', s', Ev.succ ?_, hq⟩
  have c1 : ¬ ((i : Int) < (y.length : Int)) := by omega
  have c2 : (0 : Int) ≤ (i : Int) := by omega
  have c3 : (i : Int) ≤ (y.length : Int) := by omega
  simp only [Fc.l1, c1, c2, c3, ↓reduceIte, Int.toNat_natCast, l1Own_eq _ h3, Option.bind_some, h1, h2]
  exact e
 | succ d ih =>
  intro i hi
  have c1 : (i : Int) < (y.length : Int) := by omega
  have c2 : (0 : Int) ≤ (i : Int) := by omega
  have c3 : (i : Int) ≤ (y.length : Int) := by omega
  by_cases c : rd y (i : Int) ≤ x
  ·
   obtain ⟨r, a', s', e, hq⟩ := ih (i + 1) Yq1
   have hw : wrap64 ((i : Int) + 1) = ((i + 1 : Nat) : Int) := by rw [w64 Yq1 Yq1]; rfl
   refine ⟨r, a', s', Ev.succ ?_, hq⟩
   simp only [Fc.l1, c1, c2, c, hw, ↓reduceIte]
   exact e
  ·
   obtain ⟨h1, h2, h3, r, a', s', e, hq⟩ := hend i Yq1
   refine ⟨r, a', s', Ev.succ ?_, hq⟩
   simp only [Fc.l1, c1, c2, c3, c, ↓reduceIte, Int.toNat_natCast, l1Own_eq _ h3, Option.bind_some, h1, h2]
   exact e
theorem spSorted_j3 {l : List Int} (h : small l) (lim : Int) (y : List Int) (hy : y.length ≤ 100) (b : Bool) (hb : b = true → 0 < y.length) (a s : Int) (ha : 0 ≤ a) (ha' : a ≤ 2000000000) :
  ∃ r a' s', Ev (fun k => Fc.j3 k lim y b l a s) (r, a', s') ∧ r.length ≤ 100 ∧ a ≤ a' ∧ a' ≤ a + 4 := by
 cases b with
 | false =>
  refine ⟨y, a, s, Ev.succ ?_, hy, Yq1, Yq1⟩
  simp only [Fc.j3, Bool.false_eq_true, ↓reduceIte]
  exact Ev.now _
 | true =>
  have hp := hb rfl
  obtain ⟨r, a1, s1, e1, hr, h1, h1'⟩ := pick_draw h (y.length : Int) Yq1 a s ha Yq1
  obtain ⟨v, a2, s2, e2, _, h2, h2'⟩ := among_draw h [(-1), 0, lim, wrap64 (lim - 1)] Yq5 Yq5 a1 s1 Yq1 Yq1
  refine ⟨y.set r.toNat v, a2, s2, Ev.succ ?_, by rw [List.length_set]; exact hy, Yq1, Yq1⟩
  have c1 : r < (y.length : Int) := by omega
  simp only [Fc.j3, ↓reduceIte, e1, Option.bind_some, e2, hr.1, c1]
  exact Ev.now _
theorem most_one (lim : Int) (h : lim ≤ 1000000) : ∃ q, FP.f lim 1 = some q ∧ q ≤ 1000000 := by
 unfold FP.f
 by_cases c : lim > 1
 ·
  exact ⟨lim, by rw [if_pos c], h⟩
 ·
  exact ⟨1, by rw [if_neg c], Yq2⟩
theorem most_zero (n : Int) (h : n ≤ 1000000) : ∃ q, FP.f n 0 = some q ∧ 0 ≤ q ∧ q ≤ 1000000 := by
 unfold FP.f
 by_cases c : n > 0
 ·
  exact ⟨n, by rw [if_pos c], Yq1, h⟩
 ·
  exact ⟨0, by rw [if_neg c], Yq2, Yq2⟩
theorem spSorted_l0 {l : List Int} (h : small l) (lim : Int) (hlim : lim ≤ 1000000) (d : Nat) : ∀ (y : List Int) (a s : Int), y.length + d ≤ 100 → 0 ≤ a → a + 2 * (d : Int) + 6 ≤ 2000000000 →
  ∃ r a' s', Ev (fun k => Fc.l0 k lim y (d : Int) l a s) (r, a', s') ∧ r.length ≤ 100 ∧ a ≤ a' ∧ a' ≤ a + 2 * (d : Int) + 6 := by
 induction d with
 | zero =>
  intro y a s hy h0 h1
  obtain ⟨b, a1, s1, e1, _, g1, g1'⟩ := one_draw h 12 Yq2 a s h0 Yq1
  have hz : ¬ (((0 : Nat) : Int) > 0) := by omega
  cases b with
  | true =>
   obtain ⟨r, a2, s2, e2, hr, g2, g2'⟩ := spSorted_j3 h lim y Yq1 (decide ((y.length : Int) > 0)) (fun q => by have := of_decide_eq_true q; omega) a1 s1 Yq1 Yq1
   refine ⟨r, a2, s2, Ev.succ ?_, hr, Yq1, Yq1⟩
   simp only [Fc.l0, hz, ↓reduceIte, e1, Option.bind_some]
   exact e2
  | false =>
   obtain ⟨r, a2, s2, e2, hr, g2, g2'⟩ := spSorted_j3 h lim y Yq1 false (fun q => by cases q) a1 s1 Yq1 Yq1
   refine ⟨r, a2, s2, Ev.succ ?_, hr, Yq1, Yq1⟩
   simp only [Fc.l0, hz, ↓reduceIte, e1, Option.bind_some, Bool.false_eq_true]
   exact e2
 | succ d ih =>
  intro y a s hy h0 h1
  have hp : ((d + 1 : Nat) : Int) > 0 := by omega
  have hw : wrap64 (((d + 1 : Nat) : Int) - 1) = (d : Int) := by rw [w64 Yq1 Yq1]; omega
  obtain ⟨q, eq_, hq⟩ := most_one lim hlim
  obtain ⟨x, a1, s1, e1, _, g1, g1'⟩ := pick_draw h q hq a s h0 Yq1
  obtain ⟨r, a2, s2, e2, hr, g2, g2'⟩ := spSorted_l1 l lim ((d + 1 : Nat) : Int) x a1 s1 y Yq1 (fun r a' => r.length ≤ 100 ∧ a1 ≤ a' ∧ a' ≤ a1 + 2 * (d : Int) + 6)
   (fun z hz => by rw [hw]; exact ih z a1 s1 Yq1 Yq1 Yq1) y.length 0 Yq1
  refine ⟨r, a2, s2, Ev.succ ?_, hr, Yq1, Yq1⟩
  simp only [Fc.l0, hp, ↓reduceIte, eq_, e1, Option.bind_some]
  exact e2
theorem spSorted_ev {l : List Int} (h : small l) (lim : Int) (hlim : lim ≤ 1000000) (a s : Int) (ha : 0 ≤ a) (ha' : a ≤ 1000000) :
  ∃ r a' s', Ev (fun k => Fc.f k l a s lim) (r, a', s') ∧ r.length ≤ 100 ∧ a ≤ a' ∧ a' ≤ a + 200 := by
 obtain ⟨n, a1, s1, e1, hn, g1, g1'⟩ := pick_draw h 9 Yq2 a s ha Yq1
 obtain ⟨b, a2, s2, e2, _, g2, g2'⟩ := one_draw h 24 Yq2 a1 s1 Yq1 Yq1
 unfold Fc.f
 cases b with
 | true =>
  obtain ⟨v, a3, s3, e3, hv, g3, g3'⟩ := pick_draw h 2 Yq2 a2 s2 Yq1 Yq1
  obtain ⟨d, rfl⟩ := Int.eq_ofNat_of_zero_le hv.1
  have hw : wrap64 (60 + (d : Int)) = ((60 + d : Nat) : Int) := by rw [w64 Yq1 Yq1]; rfl
  obtain ⟨r, a4, s4, e4, hr, g4, g4'⟩ := spSorted_l0 h lim hlim (60 + d) [] a3 s3 Yq6 Yq1 Yq1
  refine ⟨r, a4, s4, ?_, hr, Yq1, Yq1⟩
  simp only [e1, e2, e3, Option.bind_some, ↓reduceIte, hw]
  exact Ev.succ e4
 | false =>
  obtain ⟨d, rfl⟩ := Int.eq_ofNat_of_zero_le hn.1
  obtain ⟨r, a4, s4, e4, hr, g4, g4'⟩ := spSorted_l0 h lim hlim d [] a2 s2 Yq6 Yq1 Yq1
  refine ⟨r, a4, s4, ?_, hr, Yq1, Yq1⟩
  simp only [e1, e2, Option.bind_some, ↓reduceIte, Bool.false_eq_true]
  exact Ev.succ e4
theorem biAt_some (n : Int) (l : List Int) (i : Nat) (hi : i / 16 < l.length) (hi2 : i ≤ 1000000) : ∃ b, Faa.f n l (i : Int) = some b := by
 unfold Faa.f
 have e1 : Int.tdiv (i : Int) 16 = ((i / 16 : Nat) : Int) := by rw [tdiv_pos Yq1]; rfl
 have e2 : Int.tmod (i : Int) 16 = ((i % 16 : Nat) : Int) := by rw [tmod_pos Yq1]; rfl
 rw [e1, e2, w64 (n := ((i / 16 : Nat) : Int)) Yq1 Yq1, if_pos Yq1, if_pos Yq1, if_pos Yq1]
 exact ⟨_, rfl⟩
theorem spList_l0 (l : List Int) (q : Nat) (hl : q ≤ 16 * l.length) (hh : q ≤ 100000) (d : Nat) : ∀ (i : Nat) (x : List Bool), i + d = q → x.length + d ≤ 200000 → ∃ r, Ev (fun k => FE.l0 k x (i : Int) (q : Int) l) r ∧ r.length = x.length + d := by
 induction d with
 | zero =>
  intro i x hi hx
  refine ⟨x, Ev.succ ?_, rfl⟩
  have h1 : ¬ ((i : Int) < (q : Int)) := by omega
  simp only [FE.l0, h1, ↓reduceIte]
  exact Ev.now _
 | succ d ih =>
  intro i x hi hx
  obtain ⟨b, eb⟩ := biAt_some (q : Int) l i Yq1 Yq1
  obtain ⟨r, e, hr⟩ := ih (i + 1) (x ++ [b]) Yq1 Yq4
  rw [List.length_append, List.length_singleton] at hr
  refine ⟨r, Ev.succ ?_, Yq1⟩
  have h1 : (i : Int) < (q : Int) := by omega
  have hw : wrap64 ((i : Int) + 1) = ((i + 1 : Nat) : Int) := by rw [w64 Yq1 Yq1]; rfl
  have hx2 : x.length < 140737488355328 := by omega
  simp only [FE.l0, h1, ↓reduceIte, eb, Option.bind_some, hx2, hw]
  exact e
theorem spListB_ev (l : List Int) (q : Nat) (hl : q ≤ 16 * l.length) (hh : q ≤ 100000) : ∃ r, Ev (fun k => FE.f k (q : Int) l) r ∧ r.length = q := by
 obtain ⟨r, e, hr⟩ := spList_l0 l q hl hh q 0 [] Yq1 Yq6
 rw [List.length_nil, Nat.zero_add] at hr
 exact ⟨r, e, hr⟩
/-- What is asked of a drawn Sparse. -/
structure Drawn (c lim : Int) (lw hw : List Int) : Prop where
 c : -100 ≤ c ∧ c ≤ 1000
 lim : -100 ≤ lim ∧ lim ≤ 200000
 lw : lw.length ≤ 3000
 hw : hw.length ≤ 3000
theorem spSparse_j0 {l : List Int} (h : small l) {ns : List Int} {m w : Nat} (q : Nums ns m w) (a s : Int) (ha : 0 ≤ a) (ha' : a ≤ 900000) :
  ∃ c lim w ls lw hs hw a' s', Ev (fun k => Fg.j0 k (m : Int) ns l a s) (c, lim, w, ls, lw, hs, hw, a', s') ∧ Drawn c lim lw hw ∧ a ≤ a' ∧ a' ≤ a + 1500 := by
 have hlow := q.low
 have hhi := q.hi
 have hlen := q.len
 have hm1 := q.m1
 have hm2 := q.m2
 have hw17 := q.w17
 have hof := FFa q
 unfold sparseV at hof
 have hl1 : (lowW ns w).length ≤ 3000 := by unfold lowW; rw [fromW_length, blankW_length]; omega
 have hl2 : (hiW ns m w).length = (hiN ns m w + 15) / 16 := by unfold hiW; rw [fromW_length, blankW_length]
 have hh0 : 0 < hiN ns m w := by unfold hiN; exact Nat.succ_pos _
 clear q
 generalize lowW ns w = lw at *
 generalize hiW ns m w = hw at *
 generalize hiN ns m w = hn at *
 generalize ns.length * w = ln at *
 obtain ⟨r, a1, s1, e1, hr, g1, g1'⟩ := pick_draw h 14 Yq2 a s ha Yq1
 by_cases c0 : r = 0
 ·
  obtain ⟨v, a2, s2, e2, hv, g2, g2'⟩ := pick_draw h 3 Yq2 a1 s1 Yq1 Yq1
  refine ⟨(ns.length : Int), (m : Int), wrap64 ((w : Int) + wrap64 (v - 1)), (ln : Int), lw, (hn : Int), hw, a2, s2, Ev.succ ?_, ⟨Yq1, Yq1, Yq1, Yq1⟩, Yq1, Yq1⟩
  simp only [Fg.j0]
  refine Ev.bind hof ?_
  simp only [e1, Option.bind_some, c0, ↓reduceIte, e2]
  exact Ev.now _
 by_cases c1 : r = 1
 ·
  obtain ⟨v, a2, s2, e2, hv, g2, g2'⟩ := pick_draw h 3 Yq2 a1 s1 Yq1 Yq1
  have hwv : wrap64 ((ns.length : Int) + wrap64 (v - 1)) = (ns.length : Int) + (v - 1) := by rw [w64 (n := v - 1) Yq1 Yq1, w64 Yq1 Yq1]
  refine ⟨(ns.length : Int) + (v - 1), (m : Int), (w : Int), (ln : Int), lw, (hn : Int), hw, a2, s2, Ev.succ ?_, ⟨Yq1, Yq1, Yq1, Yq1⟩, Yq1, Yq1⟩
  simp only [Fg.j0]
  refine Ev.bind hof ?_
  simp only [e1, Option.bind_some, c1, ↓reduceIte, e2, hwv, show ¬ ((1 : Int) = 0) from by decide]
  exact Ev.now _
 by_cases c2 : r = 2
 ·
  obtain ⟨v, a2, s2, e2, hv, g2, g2'⟩ := pick_draw h 3 Yq2 a1 s1 Yq1 Yq1
  have hwv : wrap64 ((m : Int) + wrap64 (v - 1)) = (m : Int) + (v - 1) := by rw [w64 (n := v - 1) Yq1 Yq1, w64 Yq1 Yq1]
  refine ⟨(ns.length : Int), (m : Int) + (v - 1), (w : Int), (ln : Int), lw, (hn : Int), hw, a2, s2, Ev.succ ?_, ⟨Yq1, Yq1, Yq1, Yq1⟩, Yq1, Yq1⟩
  simp only [Fg.j0]
  refine Ev.bind hof ?_
  simp only [e1, Option.bind_some, c2, ↓reduceIte, e2, hwv, show ¬ ((2 : Int) = 0) from Yq2, show ¬ ((2 : Int) = 1) from by decide]
  exact Ev.now _
 by_cases c3 : r = 3
 ·
  obtain ⟨bs, eb, hbs⟩ := spListB_ev hw hn Yq1 Yq1
  obtain ⟨v, a2, s2, e2, hv, g2, g2'⟩ := pick_draw h (bs.length : Int) Yq1 a1 s1 Yq1 Yq1
  have hset : (bs.set v.toNat (!(rdOf false bs v))).length = hn := by rw [List.length_set, hbs]
  have e3 := biSome_v (bs.set v.toNat (!(rdOf false bs v))) (by rw [hset]; omega)
  have hl3 : (fromW (fun p => rdOf false (bs.set v.toNat (!(rdOf false bs v))) (p : Int)) 0 (bs.set v.toNat (!(rdOf false bs v))).length (blankW ((bs.set v.toNat (!(rdOf false bs v))).length : Int))).length ≤ 3000 := by
   rw [fromW_length, blankW_length, hset]; omega
  generalize fromW (fun p => rdOf false (bs.set v.toNat (!(rdOf false bs v))) (p : Int)) 0 (bs.set v.toNat (!(rdOf false bs v))).length (blankW ((bs.set v.toNat (!(rdOf false bs v))).length : Int)) = nw at *
  refine ⟨(ns.length : Int), (m : Int), (w : Int), (ln : Int), lw, ((bs.set v.toNat (!(rdOf false bs v))).length : Int), nw, a2, s2, Ev.succ ?_, ⟨Yq1, Yq1, Yq1, Yq1⟩, Yq1, Yq1⟩
  simp only [Fg.j0]
  refine Ev.bind hof ?_
  have hv2 : v < (bs.length : Int) := by omega
  simp only [e1, Option.bind_some, c3, ↓reduceIte, show ¬ ((3 : Int) = 0) from Yq2, show ¬ ((3 : Int) = 1) from Yq2, show ¬ ((3 : Int) = 2) from by decide]
  refine Ev.bind eb ?_
  simp only [e2, Option.bind_some, hv.1, hv2, ↓reduceIte]
  exact Ev.bind e3 (Ev.now _)
 by_cases c4 : r = 4
 ·
  obtain ⟨n, ws, a2, s2, e2, hws, g2, g2'⟩ := spAny_ev h a1 s1 Yq1 Yq1
  refine ⟨(ns.length : Int), (m : Int), (w : Int), n, ws, (hn : Int), hw, a2, s2, Ev.succ ?_, ⟨Yq1, Yq1, Yq1, Yq1⟩, Yq1, Yq1⟩
  simp only [Fg.j0]
  refine Ev.bind hof ?_
  simp only [e1, Option.bind_some, c4, ↓reduceIte, show ¬ ((4 : Int) = 0) from Yq2, show ¬ ((4 : Int) = 1) from Yq2, show ¬ ((4 : Int) = 2) from Yq2, show ¬ ((4 : Int) = 3) from by decide]
  exact Ev.bind e2 (Ev.now _)
 ·
  refine ⟨(ns.length : Int), (m : Int), (w : Int), (ln : Int), lw, (hn : Int), hw, a1, s1, Ev.succ ?_, ⟨Yq1, Yq1, Yq1, Yq1⟩, Yq1, Yq1⟩
  simp only [Fg.j0]
  refine Ev.bind hof ?_
  simp only [e1, Option.bind_some, c0, c1, c2, c3, c4, ↓reduceIte]
  exact Ev.now _
theorem sparse_draw {l : List Int} (h : small l) (a s : Int) (ha : 0 ≤ a) (ha' : a ≤ 800000) :
  ∃ c lim w ls lw hs hw a' s', Ev (fun k => Fg.f k l a s) (c, lim, w, ls, lw, hs, hw, a', s') ∧ Drawn c lim lw hw ∧ a ≤ a' ∧ a' ≤ a + 2000 := by
 obtain ⟨m, a1, s1, e1, hm, g1, g1'⟩ := limit_draw h a s ha Yq1
 obtain ⟨ns, a2, s2, e2, hns, g2, g2'⟩ := spSorted_ev h m Yq1 a1 s1 Yq1 Yq1
 have e3 := FIa ns m Yq1 Yq1
 cases c : sortedV ns m with
 | true =>
  have hm1 := (sortedV_of c).2.1
  obtain ⟨m', rfl⟩ := Int.eq_ofNat_of_zero_le (show 0 ≤ m from Yq1)
  obtain ⟨c', lim, w, ls, lw, hs, hw, a4, s4, e4, hd, g4, g4'⟩ := spSparse_j0 h (nums_of c) a2 s2 Yq1 Yq1
  refine ⟨c', lim, w, ls, lw, hs, hw, a4, s4, ?_, hd, Yq1, Yq1⟩
  rw [c] at e3
  unfold Fg.f
  simp only [e1, Option.bind_some]
  refine Ev.bind e2 (Ev.bind e3 ?_)
  simp only [↓reduceIte]
  exact e4
 | false =>
  have hn : sortedV [] ((20 : Nat) : Int) = true := by decide
  obtain ⟨c', lim, w, ls, lw, hs, hw, a4, s4, e4, hd, g4, g4'⟩ := spSparse_j0 h (nums_of hn) a2 s2 Yq1 Yq1
  refine ⟨c', lim, w, ls, lw, hs, hw, a4, s4, ?_, hd, Yq1, Yq1⟩
  rw [c] at e3
  unfold Fg.f
  simp only [e1, Option.bind_some]
  refine Ev.bind e2 (Ev.bind e3 ?_)
  simp only [Bool.false_eq_true, ↓reduceIte]
  exact e4
theorem spPlace_draw {l : List Int} (h : small l) (n : Int) (hn : n ≤ 900000) (a s : Int) (ha : 0 ≤ a) (ha' : a ≤ 2000000) : ∃ r a' s', Foa.f l a s n = some (r, a', s') ∧ a ≤ a' ∧ a' ≤ a + 2 := by
 obtain ⟨q, eq_, hq, hq'⟩ := most_zero n Yq1
 have hq2 : q ≤ 900000 := by
  unfold FP.f at eq_
  by_cases c : n > 0
  ·
   rw [if_pos c] at eq_
   cases eq_
   exact hn
  ·
   rw [if_neg c] at eq_
   cases eq_
   decide
 have hw : wrap64 (q + 4) = q + 4 := w64 Yq1 Yq1
 obtain ⟨v, a2, s2, e2, hv, g2, g2'⟩ := pick_draw h (q + 4) Yq1 a s ha Yq1
 refine ⟨wrap64 (v - 1), a2, s2, ?_, g2, g2'⟩
 simp only [Foa.f, eq_, Option.bind_some, hw, e2]

theorem DrawSliceSparse_ev {l : List Int} (h : small l) : ∃ c lim w ls lw hs hw x y, Ev (fun k => FL.f k l) (c, lim, w, ls, lw, hs, hw, x, y) ∧ Drawn c lim lw hw := by
 obtain ⟨c, lim, w, ls, lw, hs, hw, a1, s1, e1, hd, g1, g1'⟩ := sparse_draw h 0 0 Yq2 Yq2
 obtain ⟨r, a2, s2, e2, g2, g2'⟩ := spPlace_draw h c (by have := hd.c; omega) a1 s1 Yq1 Yq1
 obtain ⟨r3, a3, s3, e3, g3, g3'⟩ := spPlace_draw h c (by have := hd.c; omega) a2 s2 Yq1 Yq1
 refine ⟨c, lim, w, ls, lw, hs, hw, r, r3, ?_, hd⟩
 unfold FL.f
 refine Ev.bind e1 ?_
 simp only [e2, e3, Option.bind_some]
 exact Ev.now _
theorem parts_l1 {l p q : List Int} {m n a : Nat} (hl : Fine l m) (hp : Fine p n) (hla : a + p.length ≤ l.length) (hat : ∀ i, (h : i < p.length) → p[i] = l[a + i]) (hq : ∀ x ∈ p, x ∈ q) (hql : q.length ≤ 60) (d : Nat) : ∀ i : Nat, i + d = p.length →
  Ev (fun k => Ff.l1 k (a : Int) q (i : Int) (l.length : Int) (m : Int) ((widthV l.length m : Nat) : Int) ((l.length * widthV l.length m : Nat) : Int) (lowW l (widthV l.length m)) ((hiN l m (widthV l.length m) : Nat) : Int) (hiW l m (widthV l.length m)) (p.length : Int) (n : Int) ((widthV p.length n : Nat) : Int) ((p.length * widthV p.length n : Nat) : Int) (lowW p (widthV p.length n)) ((hiN p n (widthV p.length n) : Nat) : Int) (hiW p n (widthV p.length n))) true := by
 have h60 := hl.len
 induction d with
 | zero =>
  intro i hi
  have h1 : ¬ ((i : Int) < (p.length : Int)) := by omega
  refine Ev.succ ?_
  simp only [Ff.l1, h1, ↓reduceIte]
  exact Ev.now _
 | succ d ih =>
  intro i hi
  have hip : i < p.length := by omega
  have h1 : (i : Int) < (p.length : Int) := by omega
  have hw : wrap64 ((i : Int) + 1) = ((i + 1 : Nat) : Int) := by rw [w64 Yq1 Yq1]; rfl
  have hw2 : wrap64 ((a : Int) + (i : Int)) = ((a + i : Nat) : Int) := by rw [w64 Yq1 Yq1]; rfl
  have e1 := at_built hp hip
  have e2 := at_built hl (show a + i < l.length from Yq1)
  rw [← hat i hip] at e2
  refine Ev.succ ?_
  simp only [Ff.l1, h1, ↓reduceIte, hw, hw2]
  refine Ev.bind e1 (Ev.bind e2 ?_)
  simp only [↓reduceIte]
  refine Ev.bind (pHas_ev q p[i] (hq _ (List.getElem_mem hip)) Yq1) ?_
  simp only [↓reduceIte]
  exact ih (i + 1) Yq1
theorem parts_l0 {l p q : List Int} {m n a : Nat} (hl : Fine l m) (hp : Fine p n) (hla : a + p.length ≤ l.length) (hat : ∀ i, (h : i < p.length) → p[i] = l[a + i]) (hq : ∀ x ∈ p, x ∈ q) (hqp : ∀ x ∈ q, x ∈ p) (hql : q.length ≤ 60) (d : Nat) : ∀ i : Nat, i + d = q.length →
  Ev (fun k => Ff.l0 k (a : Int) q q (q.length : Int) (i : Int) (l.length : Int) (m : Int) ((widthV l.length m : Nat) : Int) ((l.length * widthV l.length m : Nat) : Int) (lowW l (widthV l.length m)) ((hiN l m (widthV l.length m) : Nat) : Int) (hiW l m (widthV l.length m)) (p.length : Int) (n : Int) ((widthV p.length n : Nat) : Int) ((p.length * widthV p.length n : Nat) : Int) (lowW p (widthV p.length n)) ((hiN p n (widthV p.length n) : Nat) : Int) (hiW p n (widthV p.length n))) true := by
 induction d with
 | zero =>
  intro i hi
  have h1 : ¬ ((i : Int) < (q.length : Int)) := by omega
  refine Ev.succ ?_
  simp only [Ff.l0, h1, ↓reduceIte]
  exact parts_l1 hl hp hla hat hq hql p.length 0 Yq1
 | succ d ih =>
  intro i hi
  have hiq : i < q.length := by omega
  have h1 : (i : Int) < (q.length : Int) := by omega
  have h2 : (0 : Int) ≤ (i : Int) := by omega
  have hw : wrap64 ((i : Int) + 1) = ((i + 1 : Nat) : Int) := by rw [w64 Yq1 Yq1]; rfl
  refine Ev.succ ?_
  simp only [Ff.l0, h1, h2, ↓reduceIte, hw, rd_nat q i hiq]
  refine Ev.bind (has_built hp (hqp _ (List.getElem_mem hiq))) ?_
  simp only [↓reduceIte]
  exact ih (i + 1) Yq1
theorem parts_core {l : List Int} {m a b : Nat} (hl : Fine l m) (hab : a ≤ b) (hb : b ≤ l.length) :
  Ev (fun k => Ff.j0 k (a : Int) (b : Int) true false (l.length : Int) (m : Int) ((widthV l.length m : Nat) : Int) ((l.length * widthV l.length m : Nat) : Int) (lowW l (widthV l.length m)) ((hiN l m (widthV l.length m) : Nat) : Int) (hiW l m (widthV l.length m)) (((l.take b).drop a).length : Int) (m : Int) ((widthV ((l.take b).drop a).length m : Nat) : Int) ((((l.take b).drop a).length * widthV ((l.take b).drop a).length m : Nat) : Int) (lowW ((l.take b).drop a) (widthV ((l.take b).drop a).length m)) ((hiN ((l.take b).drop a) m (widthV ((l.take b).drop a).length m) : Nat) : Int) (hiW ((l.take b).drop a) m (widthV ((l.take b).drop a).length m))) true := by
 have h60 := hl.len
 obtain ⟨p, hpp⟩ : ∃ p, p = (l.take b).drop a := ⟨_, rfl⟩
 rw [← hpp]
 have s1 := slice_built hl (Nat.zero_le a) (show a ≤ l.length from Yq1)
 have s2 := slice_built hl hb (Nat.le_refl l.length)
 rw [List.drop_zero] at s1
 rw [List.take_length] at s2
 have f1 := hl.sub (List.take_sublist a l)
 have f2 := hl.sub (List.drop_sublist b l)
 have hp : Fine p m := by rw [hpp]; exact hl.sub (part_sub l a b)
 have hcut : l.take a ++ (p ++ l.drop b) = l := by
  rw [hpp]
  have e1 : l.take b ++ l.drop b = l := List.take_append_drop b l
  have e2 : (l.take b).take a ++ (l.take b).drop a = l.take b := List.take_append_drop a _
  rw [List.take_take, Nat.min_eq_left hab] at e2
  rw [← List.append_assoc, e2, e1]
 have fe : Fine (l.take a ++ l.drop b) m := hl.sub (by
  conv => rhs; rw [← hcut]
  exact List.Sublist.append_left (List.sublist_append_right _ _) _)
 have m1 := merge_built f1 f2 fe (List.Perm.refl _)
 have m2 := merge_built fe hp hl (by
  conv => rhs; rw [← hcut]
  rw [List.append_assoc]
  exact List.Perm.append_left _ List.perm_append_comm)
 have hrow := hl.rows
 have ht := pSame_refl (l.length : Int) (m : Int) ((widthV l.length m : Nat) : Int) ((l.length * widthV l.length m : Nat) : Int) (lowW l (widthV l.length m)) ((hiN l m (widthV l.length m) : Nat) : Int) (hiW l m (widthV l.length m)) hrow.1 hrow.2
 have hm := meet_built hl hp
 have hpl : p.length = b - a := by rw [hpp, List.length_drop, List.length_take]; omega
 have hat : ∀ i, (h : i < p.length) → p[i] = l[a + i] := by
  intro i h
  subst hpp
  rw [List.getElem_drop, List.getElem_take]
 have hmem : ∀ x, x ∈ Lib.compact (l.filter fun y => p.any fun z => decide (z = y)) ↔ x ∈ p := by
  intro x
  rw [compact_mem, List.mem_filter, List.any_eq_true]
  constructor
  ·
   rintro ⟨_, y, hy, e⟩
   have := of_decide_eq_true e
   rw [← this]
   exact hy
  ·
   intro hx
   exact ⟨(part_sub l a b).subset (by rw [← hpp]; exact hx), x, hx, Yq3⟩
 have hcl : (Lib.compact (l.filter fun y => p.any fun z => decide (z = y))).length ≤ 60 := by
  have h1 := List.length_filter_le (fun y => p.any fun z => decide (z = y)) l
  have h2 : (Lib.compact (l.filter fun y => p.any fun z => decide (z = y))).length ≤ (l.filter fun y => p.any fun z => decide (z = y)).length := by
   unfold Lib.compact Lib.compactUpTo
   rw [List.length_map]
   refine Nat.le_trans (List.length_filter_le _ _) ?_
   rw [List.length_range]
   exact Nat.le_refl _
  omega
 generalize Lib.compact (l.filter fun y => p.any fun z => decide (z = y)) = q at *
 refine Ev.succ ?_
 simp only [Ff.j0, Bool.false_eq_true, ↓reduceIte]
 refine Ev.bind s1 (Ev.bind s2 ?_)
 simp only [slice8]
 refine Ev.bind m1 ?_
 simp only [slice8]
 refine Ev.bind m2 ?_
 simp only [slice8, ↓reduceIte]
 refine Ev.bind ht ?_
 simp only [Bool.not_true]
 refine Ev.succ ?_
 simp only [Ff.j1, Bool.false_eq_true, ↓reduceIte]
 refine Ev.bind hm ?_
 simp only [↓reduceIte]
 exact parts_l0 hl hp Yq1 hat (fun x hx => (hmem x).2 hx) (fun x hx => (hmem x).1 hx) hcl q.length 0 Yq1
theorem FnSparseParts : Ff.Pure := by
 intro l m hl0 _ hl hm0 _ hm
 refine Ev.rounds ?_
 have h0 : l.length ≤ 9223372036854775807 := by unfold maxLen at hl0; exact hl0
 have h1 : m.length ≤ 9223372036854775807 := by unfold maxLen at hm0; exact hm0
 unfold Ff.f Fra.f
 by_cases c : (l.length : Int) > 1048576
 ·
  simp only [c, ↓reduceIte, Option.bind_some]
  exact Ev.now _
 have hw : wrap64 (1048576 - (l.length : Int)) = 1048576 - (l.length : Int) := w64 Yq1 Yq1
 simp only [c, ↓reduceIte, Option.bind_some, hw]
 by_cases c1 : (m.length : Int) > 1048576 - (l.length : Int)
 ·
  simp only [c1, decide_true, ↓reduceIte]
  exact Ev.now _
 simp only [c1, decide_false, Bool.false_eq_true, ↓reduceIte]
 obtain ⟨c', lim, w, ls, lw, hs, hw', x, y, e, hd⟩ := DrawSliceSparse_ev (small_of Yq1 hl)
 have q1 := hd.lw
 have q2 := hd.hw
 refine Ev.bind e ?_
 by_cases g : goodS c' lim w ls lw hs hw' = true ∧ 0 ≤ x ∧ x ≤ y ∧ y ≤ c'
 ·
  obtain ⟨g, gx, gxy, gy⟩ := g
  obtain ⟨a, rfl⟩ := Int.eq_ofNat_of_zero_le gx
  obtain ⟨b, rfl⟩ := Int.eq_ofNat_of_zero_le (Int.le_trans gx gxy)
  obtain ⟨ns, n, hf, rfl, rfl, rfl, rfl, rfl, rfl, rfl⟩ := good_is g
  have hab : a ≤ b := by omega
  have hb : b ≤ ns.length := by omega
  have hrow := (hf.sub (part_sub ns a b)).rows
  have core := parts_core hf hab hb
  refine Ev.bind (slice_built hf hab hb) (Ev.bind (slice_spec hf hab hb) ?_)
  simp only [slice8, bne_self_eq_false, Bool.false_eq_true, ↓reduceIte]
  refine Ev.bind (pSame_refl _ _ _ _ _ _ _ hrow.1 hrow.2) ?_
  simp only [Bool.not_true]
  exact core
 ·
  have q3 : lw.length ≤ 9223372036854775807 := by omega
  have q4 : hw'.length ≤ 9223372036854775807 := by omega
  refine Ev.bind (slice_impl_bad q3 q4 g) (Ev.bind (slice_spec_bad q3 q4 g) ?_)
  simp only [none8, bne_self_eq_false, Bool.false_eq_true, ↓reduceIte]
  refine Ev.bind (pSame_refl 0 0 0 0 [] 0 [] Yq2 Yq2) ?_
  simp only [Bool.not_true]
  refine Ev.succ ?_
  simp only [Ff.j0, Bool.false_eq_true, ↓reduceIte]
  exact Ev.now _

end Go.Proofs.Ytllaofiopnhdgaa.Pure
