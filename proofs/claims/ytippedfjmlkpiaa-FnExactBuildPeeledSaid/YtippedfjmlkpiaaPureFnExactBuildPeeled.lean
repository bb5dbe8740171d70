/- The program's BuildPeeled returns what the reference's returns, for all arguments. -/
import Derived.Test.YtippedfjmlkpiaaPFnExactBuildPeeledx13
import Derived.Test.YtippedfjmlkpiaaTBase
namespace Go.Proofs.Ytippedfjmlkpiaa.Pure
open Go.RowKit Go.Proofs.Ytippedfjmlkpiaa.PFnExactBuildPeeled Go.Proofs.YtippedfjmlkpiaaW.PrintWords Go.Proofs.YtippedfjmlkpiaaW.PrintLast Go.Proofs.Ytippedfjmlkpiaa.Base
set_option linter.unusedVariables false
set_option linter.unusedSimpArgs false

def rowE (es : List (List Int)) (i : Nat) : List Int := es.getD i []
def bump (o : List Int) (p : Int) : List Int := o.set p.toNat (wrap64 (rd o p + 1))
theorem bump_length (o : List Int) (p : Int) : (bump o p).length = o.length := by simp [bump]
theorem bumps_length (ps : List Int) : ∀ o : List Int, (ps.foldl bump o).length = o.length := by
  induction ps with
  | nil => exact fun o => rfl
  | cons p ps ih => exact fun o => (ih _).trans (bump_length o p)
theorem bump_other {o : List Int} {p q : Int} (hp : 0 ≤ p) (hq : 0 ≤ q) (h : q ≠ p) : rd (bump o p) q = rd o q := by
  unfold rd bump
  rw [List.getD_eq_getElem?_getD, List.getD_eq_getElem?_getD, List.getElem?_set_ne (by omega)]
theorem bumps_other {q : Int} (hq : 0 ≤ q) (ps : List Int) : ∀ o : List Int, (∀ p ∈ ps, 0 ≤ p) → q ∉ ps → rd (ps.foldl bump o) q = rd o q := by
  induction ps with
  | nil => exact fun o _ _ => rfl
  | cons p ps ih =>
    intro o h1 h2
    rw [List.foldl_cons, ih _ (fun x hx => h1 x (by simp [hx])) (fun hx => h2 (by simp [hx])), bump_other (h1 p (by simp)) hq (fun e => h2 (by simp [e]))]
def degStep (es : List (List Int)) (o : List Int) (i : Nat) : List Int := (rowE es i).foldl bump o
def degOf (n : Nat) (es : List (List Int)) (l : List Nat) : List Int := l.foldl (degStep es) (List.replicate n 0)
theorem degs_length (es : List (List Int)) (l : List Nat) : ∀ o : List Int, (l.foldl (degStep es) o).length = o.length := by
  induction l with
  | nil => exact fun o => rfl
  | cons i l ih => exact fun o => (ih _).trans (bumps_length _ _)
theorem degOf_length (n : Nat) (es : List (List Int)) (l : List Nat) : (degOf n es l).length = n := by
  unfold degOf
  rw [degs_length, List.length_replicate]
theorem degs_other {q : Int} (hq : 0 ≤ q) (es : List (List Int)) (l : List Nat) : ∀ o : List Int, (∀ i ∈ l, ∀ p ∈ rowE es i, 0 ≤ p) → (∀ i ∈ l, q ∉ rowE es i) → rd (l.foldl (degStep es) o) q = rd o q := by
  induction l with
  | nil => exact fun o _ _ => rfl
  | cons i l ih =>
    intro o h1 h2
    rw [List.foldl_cons, ih _ (fun x hx => h1 x (by simp [hx])) (fun x hx => h2 x (by simp [hx]))]
    exact bumps_other hq _ _ (h1 i (by simp)) (h2 i (by simp))
theorem rd_zeros (n : Nat) (q : Int) : rd (List.replicate n 0) q = 0 := by
  unfold rd
  rw [List.getD_eq_getElem?_getD, List.getElem?_replicate]
  split <;> rfl
theorem degOf_none {n : Nat} {q : Int} (hq : 0 ≤ q) {es : List (List Int)} {l : List Nat} (h1 : ∀ i ∈ l, ∀ p ∈ rowE es i, 0 ≤ p) (h2 : ∀ i ∈ l, q ∉ rowE es i) : rd (degOf n es l) q = 0 := by
  unfold degOf
  rw [degs_other hq es l _ h1 h2, rd_zeros]
def leftOf (n : Nat) (gone : List Bool) : List Nat := (List.range n).filter fun i => !gone.getD i false
theorem leftOf_set {n : Nat} {gone : List Bool} {i : Nat} (hi : i < gone.length) : leftOf n (gone.set i true) = (leftOf n gone).filter fun j => decide (j ≠ i) := by
  unfold leftOf
  rw [List.filter_filter]
  refine List.filter_congr fun j _ => ?_
  rw [List.getD_eq_getElem?_getD, List.getD_eq_getElem?_getD]
  by_cases c : j = i
  · subst c
    rw [List.getElem?_set_self hi]
    simp
  · rw [List.getElem?_set_ne (by omega)]
    simp [c]
theorem leftOf_none (n : Nat) : leftOf n (List.replicate n false) = List.range n := by
  unfold leftOf
  refine List.filter_eq_self.2 fun j hj => ?_
  rw [List.getD_eq_getElem?_getD, List.getElem?_replicate]
  split <;> rfl
theorem mem_leftOf {n : Nat} {gone : List Bool} {i : Nat} : i ∈ leftOf n gone ↔ i < n ∧ gone.getD i false = false := by
  unfold leftOf
  rw [List.mem_filter, List.mem_range]
  simp
/-- The places from i on whose number is one. -/
def onesFrom (l : List Int) (i : Nat) : List Int := ((List.range' i (l.length - i)).filter fun j : Nat => rd l (j : Int) == 1).map fun j : Nat => (j : Int)
def onesV (l : List Int) : List Int := onesFrom l 0
theorem onesFrom_end (l : List Int) : onesFrom l l.length = [] := by simp [onesFrom]
theorem onesFrom_step (l : List Int) (i : Nat) (h : i < l.length) : onesFrom l i = if rd l (i : Int) = 1 then (i : Int) :: onesFrom l (i + 1) else onesFrom l (i + 1) := by
  unfold onesFrom
  rw [show l.length - i = (l.length - (i + 1)) + 1 from by omega, List.range'_succ, List.filter_cons]
  by_cases c : rd l (i : Int) = 1 <;> simp [c]
theorem onesFrom_length (l : List Int) (i : Nat) : (onesFrom l i).length ≤ l.length - i := by
  unfold onesFrom
  rw [List.length_map]
  exact Nat.le_trans (List.length_filter_le _ _) (by simp)
theorem onesV_mem {l : List Int} {p : Int} (h : p ∈ onesV l) : 0 ≤ p ∧ p < l.length ∧ rd l p = 1 := by
  unfold onesV onesFrom at h
  obtain ⟨j, hj, rfl⟩ := List.mem_map.1 h
  rw [List.mem_filter, List.mem_range'_1] at hj
  have := hj.2
  simp only [beq_iff_eq] at this
  exact ⟨by omega, by omega, this⟩
def hasE (es : List (List Int)) (p : Int) (i : Nat) : Bool := decide (p ∈ rowE es i)
/-- The steps of the peeling, and the edges that are left. -/
def peelV (n : Nat) (es : List (List Int)) : Nat → List Nat → List (Int × Int) → List (Int × Int) × List Nat
  | 0, l, st => (st, l)
  | f + 1, l, st => match onesV (degOf n es l) with
    | [] => (st, l)
    | p :: _ => match l.find? (hasE es p) with
      | none => (st, l)
      | some i => peelV n es f (l.filter fun j => decide (j ≠ i)) (st ++ [((i : Int), p)])
theorem find_some {n : Nat} {es : List (List Int)} {l : List Nat} {p : Int} {ps : List Int} (h : onesV (degOf n es l) = p :: ps) (h1 : ∀ i ∈ l, ∀ p ∈ rowE es i, 0 ≤ p) : ∃ i, l.find? (hasE es p) = some i ∧ i ∈ l ∧ p ∈ rowE es i := by
  obtain ⟨h0, _, h2⟩ := onesV_mem (show p ∈ onesV (degOf n es l) by rw [h]; simp)
  cases e : l.find? (hasE es p) with
  | some i => exact ⟨i, rfl, List.mem_of_find?_eq_some e, of_decide_eq_true (show decide (p ∈ rowE es i) = true from (List.find?_some (p := hasE es p) e))⟩
  | none =>
    exfalso
    rw [List.find?_eq_none] at e
    have := degOf_none (n := n) h0 h1 (fun i hi hp => e i hi (decide_eq_true hp))
    omega
theorem filter_shorter {l : List Nat} {i : Nat} (h : i ∈ l) : (l.filter fun j => decide (j ≠ i)).length < l.length := by
  rcases Nat.lt_or_ge (l.filter fun j => decide (j ≠ i)).length l.length with c | c
  · exact c
  · have e := List.length_filter_eq_length_iff.1 (Nat.le_antisymm (List.length_filter_le _ _) c)
    have := e i h
    simp at this
theorem mem_take_succ {l : List Int} {i : Nat} (h : i < l.length) (x : Int) : x ∈ l.take (i + 1) ↔ x ∈ l.take i ∨ x = rd l (i : Int) := by
  rw [List.take_succ_eq_append_getElem h, rd_nat l i h, List.mem_append, List.mem_singleton]
theorem spec_l1Has_ev (l : List Int) (x : Int) (hl : l.length ≤ 9223372036854775807) : Ev (fun k => spec_l1Has.f k l x) (decide (x ∈ l)) := by
  suffices h : ∀ d i : Nat, i + d = l.length → x ∉ l.take i → Ev (fun k => spec_l1Has.l0 k x l (l.length : Int) (i : Int)) (decide (x ∈ l)) from h l.length 0 (by omega) (by simp)
  intro d
  induction d with
  | zero =>
    intro i hi hn
    refine Ev.succ ?_
    have h1 : ¬ ((i : Int) < (l.length : Int)) := by omega
    rw [List.take_of_length_le (by omega)] at hn
    simp only [spec_l1Has.l0, h1, ↓reduceIte, hn, decide_false]
    exact Ev.now _
  | succ d ih =>
    intro i hi hn
    refine Ev.succ ?_
    have h1 : (i : Int) < (l.length : Int) := by omega
    have h2 : (0 : Int) ≤ (i : Int) := by omega
    have hw : wrap64 ((i : Int) + 1) = ((i + 1 : Nat) : Int) := by rw [w64 (by omega) (by omega)]; rfl
    simp only [spec_l1Has.l0, h1, h2, ↓reduceIte, hw]
    by_cases c : rd l (i : Int) = x
    · simp only [c, ↓reduceIte]
      have : x ∈ l := by rw [← c, rd_nat l i (by omega)]; exact List.getElem_mem _
      exact Ev.some_ (by simp [this])
    · simp only [c, ↓reduceIte]
      exact ih (i + 1) (by omega) (by rw [mem_take_succ (by omega)]; rintro (h | h); exact hn h; exact c h.symm)
theorem slices_Contains_int_int_ev (l : List Int) (x : Int) (hl : l.length ≤ 9223372036854775807) : Ev (fun k => slices_Contains_int_int.f k l x) (decide (x ∈ l)) := by
  have L : ∃ r : Int, decide (r ≥ 0) = decide (x ∈ l) ∧ Ev (fun k => slices_Index_int_int.f k l x) r := by
    suffices h : ∀ d i : Nat, i + d = l.length → x ∉ l.take i → ∃ r : Int, decide (r ≥ 0) = decide (x ∈ l) ∧ Ev (fun k => slices_Index_int_int.l0 k l x (l.length : Int) (i : Int)) r from h l.length 0 (by omega) (by simp)
    intro d
    induction d with
    | zero =>
      intro i hi hn
      have h1 : ¬ ((i : Int) < (l.length : Int)) := by omega
      rw [List.take_of_length_le (by omega)] at hn
      refine ⟨-1, by simp [hn], Ev.succ ?_⟩
      simp only [slices_Index_int_int.l0, h1, ↓reduceIte]
      exact Ev.now _
    | succ d ih =>
      intro i hi hn
      have h1 : (i : Int) < (l.length : Int) := by omega
      have h2 : (0 : Int) ≤ (i : Int) := by omega
      have hw : wrap64 ((i : Int) + 1) = ((i + 1 : Nat) : Int) := by rw [w64 (by omega) (by omega)]; rfl
      by_cases c : x = rd l (i : Int)
      · have : x ∈ l := by rw [c, rd_nat l i (by omega)]; exact List.getElem_mem _
        refine ⟨(i : Int), by simp [this], Ev.succ ?_⟩
        simp only [slices_Index_int_int.l0, h1, h2, ↓reduceIte]
        simp only [← c, ↓reduceIte]
        exact Ev.now _
      · obtain ⟨r, hr, he⟩ := ih (i + 1) (by omega) (by rw [mem_take_succ (by omega)]; rintro (h | h); exact hn h; exact c h)
        refine ⟨r, hr, Ev.succ ?_⟩
        simp only [slices_Index_int_int.l0, h1, h2, c, ↓reduceIte, hw]
        exact he
  obtain ⟨r, hr, he⟩ := L
  unfold slices_Contains_int_int.f
  refine Ev.bind he ?_
  exact Ev.some_ hr
theorem spec_l1In_eq (a b c : Int) : spec_l1In.f a b c = some (decide (b ≤ a ∧ a ≤ c)) := by
  unfold spec_l1In.f
  by_cases h : b ≤ a <;> simp [h]
theorem spec_IsKey_ev (s : ByteArray) (hs : s.size ≤ 9223372036854775807) : Ev (fun k => spec_IsKey.f k s) (isKey s) := by
  have h := Ev.up (L := fun k i => spec_IsKey.l0 k s (i : Int)) (r := fun i => ((bytesOf s).drop i).all okByte && decide (1 ≤ (s.size : Int) ∧ (s.size : Int) ≤ 12)) s.size ?_ ?_ 0 (Nat.zero_le _)
  · exact h
  · refine Ev.succ ?_
    have h1 : ¬ ((s.size : Int) < (s.size : Int)) := by omega
    simp only [spec_IsKey.l0, h1, ↓reduceIte, spec_l1In_eq, Option.bind_some]
    exact Ev.some_ (by rw [List.drop_of_length_le (by rw [bytesOf_length]; exact Nat.le_refl _)]; simp)
  · intro i hi ih
    refine Ev.succ ?_
    have h1 : (i : Int) < (s.size : Int) := by omega
    have h2 : (0 : Int) ≤ (i : Int) := by omega
    have hw : wrap64 ((i : Int) + 1) = ((i + 1 : Nat) : Int) := by rw [w64 (by omega) (by omega)]; rfl
    have hb := bt_nat s i hi
    simp only [spec_IsKey.l0, h1, h2, ↓reduceIte, hw]
    rw [drop_cons _ _ (by rw [bytesOf_length]; exact hi), List.all_cons, ← hb]
    by_cases c1 : bt s i < 33
    · simp only [c1, ↓reduceIte]
      exact Ev.some_ (by simp [okByte]; omega)
    · by_cases c2 : bt s i > 125
      · simp only [c1, c2, ↓reduceIte]
        exact Ev.some_ (by simp [okByte]; omega)
      · simp only [c1, c2, ↓reduceIte]
        have c3 : okByte (bt s i) = true := by simp [okByte]; omega
        rw [c3, Bool.true_and]
        exact ih
theorem impl_in_eq (a b c : Int) : impl_in.f a b c = some (decide (b ≤ a ∧ a ≤ c)) := by
  unfold impl_in.f
  by_cases h : b ≤ a <;> simp [h]
theorem impl_IsKey_ev (s : ByteArray) (hs : s.size ≤ 9223372036854775807) : Ev (fun k => impl_IsKey.f k s) (isKey s) := by
  have h := Ev.up (L := fun k i => impl_IsKey.l0 k s (s.size : Int) (i : Int)) (r := fun i => ((bytesOf s).drop i).all okByte && decide (1 ≤ (s.size : Int) ∧ (s.size : Int) ≤ 12)) s.size ?_ ?_ 0 (Nat.zero_le _)
  · exact h
  · refine Ev.succ ?_
    have h1 : ¬ ((s.size : Int) < (s.size : Int)) := by omega
    simp only [impl_IsKey.l0, h1, ↓reduceIte, impl_in_eq, Option.bind_some]
    exact Ev.some_ (by rw [List.drop_of_length_le (by rw [bytesOf_length]; exact Nat.le_refl _)]; simp)
  · intro i hi ih
    refine Ev.succ ?_
    have h1 : (i : Int) < (s.size : Int) := by omega
    have h2 : (0 : Int) ≤ (i : Int) := by omega
    have hw : wrap64 ((i : Int) + 1) = ((i + 1 : Nat) : Int) := by rw [w64 (by omega) (by omega)]; rfl
    have hb := bt_nat s i hi
    simp only [impl_IsKey.l0, h1, h2, ↓reduceIte, hw]
    rw [drop_cons _ _ (by rw [bytesOf_length]; exact hi), List.all_cons, ← hb]
    by_cases c1 : bt s i < 33
    · simp only [c1, ↓reduceIte]
      exact Ev.some_ (by simp [okByte]; omega)
    · by_cases c2 : bt s i > 125
      · simp only [c1, c2, ↓reduceIte]
        exact Ev.some_ (by simp [okByte]; omega)
      · simp only [c1, c2, ↓reduceIte]
        have c3 : okByte (bt s i) = true := by simp [okByte]; omega
        rw [c3, Bool.true_and]
        exact ih
def keyAt (l : List ByteArray) (i : Nat) : Bool := isKey (rdOf ByteArray.empty l (i : Int)) && (decide (i = 0) || Op.bytesLess (rdOf ByteArray.empty l ((i - 1 : Nat) : Int)).toList (rdOf ByteArray.empty l (i : Int)).toList)
def keysFrom (l : List ByteArray) (i : Nat) : Bool := (List.range' i (l.length - i)).all (keyAt l) && decide ((l.length : Int) ≤ 40)
def areKeys (l : List ByteArray) : Bool := keysFrom l 0
theorem keysFrom_end (l : List ByteArray) : keysFrom l l.length = decide ((l.length : Int) ≤ 40) := by simp [keysFrom]
theorem keysFrom_step (l : List ByteArray) (i : Nat) (h : i < l.length) : keysFrom l i = (keyAt l i && keysFrom l (i + 1)) := by
  unfold keysFrom
  rw [show l.length - i = (l.length - (i + 1)) + 1 from by omega, List.range'_succ, List.all_cons, Bool.and_assoc]
theorem areKeys_of {l : List ByteArray} (h : areKeys l = true) : l.length ≤ 40 ∧ ∀ s ∈ l, isKey s = true := by
  unfold areKeys keysFrom at h
  simp only [Bool.and_eq_true, decide_eq_true_eq, List.all_eq_true, List.mem_range'] at h
  refine ⟨by omega, fun s hs => ?_⟩
  obtain ⟨i, hi, rfl⟩ := List.getElem_of_mem hs
  have := h.1 i ⟨i, by omega, by omega⟩
  unfold keyAt at this
  simp only [Bool.and_eq_true] at this
  rw [rdOf_nat _ _ _ hi] at this
  exact this.1
theorem rdOf_size {l : List ByteArray} (h : ∀ s ∈ l, s.size ≤ 9223372036854775807) (i : Int) : (rdOf ByteArray.empty l i).size ≤ 9223372036854775807 := by
  unfold rdOf
  rw [List.getD_eq_getElem?_getD]
  cases e : l[i.toNat]? with
  | none => simp
  | some x => simpa using h x (List.mem_of_getElem? e)
theorem spec_biKeys_ev (l : List ByteArray) (hl : l.length ≤ 9223372036854775807) (hs : ∀ s ∈ l, s.size ≤ 9223372036854775807) : Ev (fun k => spec_biKeys.f k l) (areKeys l) := by
  refine Ev.up (L := fun k i => spec_biKeys.l0 k l l (l.length : Int) (i : Int)) (r := fun i => keysFrom l i) l.length ?_ ?_ 0 (Nat.zero_le _)
  · refine Ev.succ ?_
    have h1 : ¬ ((l.length : Int) < (l.length : Int)) := by omega
    simp only [spec_biKeys.l0, h1, ↓reduceIte, keysFrom_end]
    exact Ev.now _
  · intro i hi ih
    refine Ev.succ ?_
    have h1 : (i : Int) < (l.length : Int) := by omega
    have h2 : (0 : Int) ≤ (i : Int) := by omega
    have hw : wrap64 ((i : Int) + 1) = ((i + 1 : Nat) : Int) := by rw [w64 (by omega) (by omega)]; rfl
    simp only [spec_biKeys.l0, h1, h2, ↓reduceIte, hw]
    refine Ev.bind (spec_IsKey_ev _ (rdOf_size hs _)) ?_
    rw [keysFrom_step l i hi]
    unfold keyAt
    cases isKey (rdOf ByteArray.empty l (i : Int)) with
    | false => simp only [Bool.false_eq_true, ↓reduceIte, Bool.false_and]; exact Ev.now _
    | true =>
      simp only [↓reduceIte, Bool.true_and]
      by_cases c : i = 0
      · subst c
        simp only [Int.natCast_zero, decide_true, Bool.true_or, Bool.true_and, ↓reduceIte, gt_iff_lt, Int.lt_irrefl]
        exact ih
      · have h3 : (i : Int) > 0 := by omega
        have hw1 : wrap64 ((i : Int) - 1) = ((i - 1 : Nat) : Int) := by rw [w64 (by omega) (by omega)]; omega
        have h4 : (0 : Int) ≤ ((i - 1 : Nat) : Int) := by omega
        have h5 : ((i - 1 : Nat) : Int) < (l.length : Int) := by omega
        simp only [c, h3, hw1, h4, h5, ↓reduceIte, decide_false, Bool.false_or]
        cases Op.bytesLess (rdOf ByteArray.empty l ((i - 1 : Nat) : Int)).toList (rdOf ByteArray.empty l (i : Int)).toList with
        | false => simp only [Bool.false_eq_true, ↓reduceIte, Bool.false_and]; exact Ev.now _
        | true => simp only [↓reduceIte, Bool.true_and]; exact ih
theorem impl_AreKeys_ev (l : List ByteArray) (hl : l.length ≤ 9223372036854775807) (hs : ∀ s ∈ l, s.size ≤ 9223372036854775807) : Ev (fun k => impl_AreKeys.f k l) (areKeys l) := by
  refine Ev.up (L := fun k i => impl_AreKeys.l0 k l l (l.length : Int) (i : Int)) (r := fun i => keysFrom l i) l.length ?_ ?_ 0 (Nat.zero_le _)
  · refine Ev.succ ?_
    have h1 : ¬ ((l.length : Int) < (l.length : Int)) := by omega
    simp only [impl_AreKeys.l0, h1, ↓reduceIte, keysFrom_end]
    exact Ev.now _
  · intro i hi ih
    refine Ev.succ ?_
    have h1 : (i : Int) < (l.length : Int) := by omega
    have h2 : (0 : Int) ≤ (i : Int) := by omega
    have hw : wrap64 ((i : Int) + 1) = ((i + 1 : Nat) : Int) := by rw [w64 (by omega) (by omega)]; rfl
    simp only [impl_AreKeys.l0, h1, h2, ↓reduceIte, hw]
    refine Ev.bind (impl_IsKey_ev _ (rdOf_size hs _)) ?_
    rw [keysFrom_step l i hi]
    unfold keyAt
    cases isKey (rdOf ByteArray.empty l (i : Int)) with
    | false => simp only [Bool.false_eq_true, ↓reduceIte, Bool.false_and]; exact Ev.now _
    | true =>
      simp only [↓reduceIte, Bool.true_and]
      by_cases c : i = 0
      · subst c
        simp only [Int.natCast_zero, decide_true, Bool.true_or, Bool.true_and, ↓reduceIte, gt_iff_lt, Int.lt_irrefl]
        exact ih
      · have h3 : (i : Int) > 0 := by omega
        have hw1 : wrap64 ((i : Int) - 1) = ((i - 1 : Nat) : Int) := by rw [w64 (by omega) (by omega)]; omega
        have h4 : (0 : Int) ≤ ((i - 1 : Nat) : Int) := by omega
        have h5 : ((i - 1 : Nat) : Int) < (l.length : Int) := by omega
        simp only [c, h3, hw1, h4, h5, ↓reduceIte, decide_false, Bool.false_or]
        cases Op.bytesLess (rdOf ByteArray.empty l ((i - 1 : Nat) : Int)).toList (rdOf ByteArray.empty l (i : Int)).toList with
        | false => simp only [Bool.false_eq_true, ↓reduceIte, Bool.false_and]; exact Ev.now _
        | true => simp only [↓reduceIte, Bool.true_and]; exact ih
theorem spec_pow (h : Int) (h0 : 0 ≤ h) (h1 : h < 65521) : Int.tmod (wrap64 ((Int.tmod (wrap64 ((Int.tmod (wrap64 ((Int.tmod (wrap64 ((Int.tmod (wrap64 (h * h)) 65521) * (Int.tmod (wrap64 (h * h)) 65521))) 65521) * h)) 65521) * (Int.tmod (wrap64 ((Int.tmod (wrap64 ((Int.tmod (wrap64 (h * h)) 65521) * (Int.tmod (wrap64 (h * h)) 65521))) 65521) * h)) 65521))) 65521) * h)) 65521 = h ^ 11 % 65521 := by
  have step : ∀ a b : Int, 0 ≤ a → a < 65521 → 0 ≤ b → b < 65521 → Int.tmod (wrap64 (a * b)) 65521 = a * b % 65521 := by
    intro a b ha ha' hb hb'
    obtain ⟨p0, p1⟩ := prod_range ha ha' hb hb'
    rw [w64 (by omega) (by omega), tmod_pos p0]
  have rng : ∀ x : Int, 0 ≤ x % 65521 ∧ x % 65521 < 65521 := fun x => ⟨Int.emod_nonneg _ (by decide), Int.emod_lt_of_pos _ (by decide)⟩
  rw [step h h h0 h1 h0 h1]
  rw [step _ _ (rng _).1 (rng _).2 (rng _).1 (rng _).2]
  rw [step _ _ (rng _).1 (rng _).2 h0 h1]
  rw [step _ _ (rng _).1 (rng _).2 (rng _).1 (rng _).2]
  rw [step _ _ (rng _).1 (rng _).2 h0 h1]
  simp only [mul_mod_l, mul_mod_r]
  congr 1
  simp only [Int.pow_succ, Int.pow_zero, Int.one_mul, Int.mul_assoc]
theorem spec_biHash_l0 (s : ByteArray) (hs : s.size ≤ 9223372036854775807) (d : Nat) : ∀ (i : Nat) (h : Int), i + d = s.size → 0 ≤ h → h < 65521 → Ev (fun k => spec_biHash.l0 k s h (i : Int)) (hashFrom h ((bytesOf s).drop i)) := by
  induction d with
  | zero =>
    intro i h hi h0 h1
    refine Ev.succ ?_
    have c1 : ¬ ((i : Int) < (s.size : Int)) := by omega
    simp only [spec_biHash.l0, c1, ↓reduceIte]
    rw [spec_pow h h0 h1]
    exact Ev.some_ (by rw [List.drop_of_length_le (by rw [bytesOf_length]; omega)]; rfl)
  | succ d ih =>
    intro i h hi h0 h1
    refine Ev.succ ?_
    have c1 : (i : Int) < (s.size : Int) := by omega
    have c2 : (0 : Int) ≤ (i : Int) := by omega
    have hw : wrap64 ((i : Int) + 1) = ((i + 1 : Nat) : Int) := by rw [w64 (by omega) (by omega)]; rfl
    have hb := bt_nat s i (by omega)
    have hr := bt_range s i
    have e : Int.tmod (wrap64 ((wrap64 (263 * h)) + (wrap64 (bt s i)))) 65521 = hstep h (bt s i) := by
      rw [w64 (n := 263 * h) (by omega) (by omega), w64 (n := bt s i) (by omega) (by omega), w64 (by omega) (by omega), tmod_pos (by omega)]
      rfl
    simp only [spec_biHash.l0, c1, c2, ↓reduceIte, hw, e]
    rw [drop_cons _ _ (by rw [bytesOf_length]; omega), ← hb]
    exact ih (i + 1) (hstep h (bt s i)) (by omega) (Int.emod_nonneg _ (by decide)) (Int.emod_lt_of_pos _ (by decide))
theorem spec_biHash_ev (a b : Int) (s : ByteArray) (hs : s.size ≤ 9223372036854775807) (ha0 : 0 ≤ a) (ha1 : a ≤ 9999) (hb0 : 0 ≤ b) (hb1 : b ≤ 9) : Ev (fun k => spec_biHash.f k a b s) (hashV a b s) := by
  have e : Int.tmod (wrap64 ((wrap64 ((wrap64 (31 * a)) + (wrap64 (977 * b)))) + 7)) 65521 = hash0 a b := by
    rw [w64 (n := 31 * a) (by omega) (by omega), w64 (n := 977 * b) (by omega) (by omega), w64 (n := 31 * a + 977 * b) (by omega) (by omega), w64 (by omega) (by omega), tmod_pos (by omega)]
    rfl
  unfold spec_biHash.f
  simp only [e]
  exact spec_biHash_l0 s hs s.size 0 (hash0 a b) (by omega) (Int.emod_nonneg _ (by decide)) (Int.emod_lt_of_pos _ (by decide))
theorem spec_biPlace_ev (a b : Int) (s : ByteArray) (n : Int) (hs : s.size ≤ 9223372036854775807) (ha0 : 0 ≤ a) (ha1 : a ≤ 9999) (hb0 : 0 ≤ b) (hb1 : b ≤ 9) (hn0 : 0 ≤ n) (hn1 : n ≤ 65521) : Ev (fun k => spec_biPlace.f k a b s n) (placeV a b s n) := by
  have hr := hash_range a b s
  have p0 : 0 ≤ hashV a b s * n := Int.mul_nonneg hr.1 hn0
  have p1 : hashV a b s * n ≤ 4293001441 := by
    have h1 : hashV a b s * n ≤ hashV a b s * 65521 := Int.mul_le_mul_of_nonneg_left (by omega) hr.1
    omega
  unfold spec_biPlace.f
  refine Ev.bind (spec_biHash_ev a b s hs ha0 ha1 hb0 hb1) ?_
  refine Ev.some_ ?_
  have h2 : hashV a b s * n / 65521 ≤ hashV a b s * n := Int.ediv_le_self _ p0
  have h3 : 0 ≤ hashV a b s * n / 65521 := Int.ediv_nonneg p0 (by decide)
  rw [w64 (n := hashV a b s * n) (by omega) (by omega), tdiv_pos p0, w64 (by omega) (by omega)]
  rfl
theorem impl_hash_l1 (h : Int) (h0 : 0 ≤ h) (h1 : h < 65521) (d : Nat) : ∀ (i : Nat) (o : Int), i + d = 11 → o = h ^ i % 65521 → Ev (fun k => impl_hash.l1 k h o (i : Int)) (h ^ 11 % 65521) := by
  induction d with
  | zero =>
    intro i o hi ho
    obtain rfl : i = 11 := by omega
    refine Ev.succ ?_
    simp only [impl_hash.l1]
    exact Ev.some_ ho
  | succ d ih =>
    intro i o hi ho
    refine Ev.succ ?_
    have c1 : (i : Int) < 11 := by omega
    have hw : wrap64 ((i : Int) + 1) = ((i + 1 : Nat) : Int) := by rw [w64 (by omega) (by omega)]; rfl
    have r : 0 ≤ o ∧ o < 65521 := by rw [ho]; exact ⟨Int.emod_nonneg _ (by decide), Int.emod_lt_of_pos _ (by decide)⟩
    obtain ⟨p0, p1⟩ := prod_range r.1 r.2 h0 h1
    have e : Int.tmod (wrap64 (o * h)) 65521 = h ^ (i + 1) % 65521 := by
      rw [w64 (by omega) (by omega), tmod_pos p0, ho, mul_mod_l, Int.pow_succ]
    simp only [impl_hash.l1, c1, ↓reduceIte, hw]
    exact ih (i + 1) _ (by omega) e
theorem impl_hash_l0 (s : ByteArray) (hs : s.size ≤ 9223372036854775807) (d : Nat) : ∀ (i : Nat) (h : Int), i + d = s.size → 0 ≤ h → h < 65521 → Ev (fun k => impl_hash.l0 k s h (s.size : Int) (i : Int)) (hashFrom h ((bytesOf s).drop i)) := by
  induction d with
  | zero =>
    intro i h hi h0 h1
    refine Ev.succ ?_
    have c1 : ¬ ((i : Int) < (s.size : Int)) := by omega
    simp only [impl_hash.l0, c1, ↓reduceIte]
    rw [List.drop_of_length_le (by rw [bytesOf_length]; omega)]
    exact impl_hash_l1 h h0 h1 11 0 1 (by omega) (by simp)
  | succ d ih =>
    intro i h hi h0 h1
    refine Ev.succ ?_
    have c1 : (i : Int) < (s.size : Int) := by omega
    have c2 : (0 : Int) ≤ (i : Int) := by omega
    have hw : wrap64 ((i : Int) + 1) = ((i + 1 : Nat) : Int) := by rw [w64 (by omega) (by omega)]; rfl
    have hb := bt_nat s i (by omega)
    have hr := bt_range s i
    have e : Int.tmod (wrap64 ((wrap64 (263 * h)) + (wrap64 (bt s i)))) 65521 = hstep h (bt s i) := by
      rw [w64 (n := 263 * h) (by omega) (by omega), w64 (n := bt s i) (by omega) (by omega), w64 (by omega) (by omega), tmod_pos (by omega)]
      rfl
    simp only [impl_hash.l0, c1, c2, ↓reduceIte, hw, e]
    rw [drop_cons _ _ (by rw [bytesOf_length]; omega), ← hb]
    exact ih (i + 1) (hstep h (bt s i)) (by omega) (Int.emod_nonneg _ (by decide)) (Int.emod_lt_of_pos _ (by decide))
theorem impl_hash_ev (a b : Int) (s : ByteArray) (hs : s.size ≤ 9223372036854775807) (ha0 : 0 ≤ a) (ha1 : a ≤ 9999) (hb0 : 0 ≤ b) (hb1 : b ≤ 9) : Ev (fun k => impl_hash.f k a b s) (hashV a b s) := by
  have e : Int.tmod (wrap64 ((wrap64 ((wrap64 (31 * a)) + (wrap64 (977 * b)))) + 7)) 65521 = hash0 a b := by
    rw [w64 (n := 31 * a) (by omega) (by omega), w64 (n := 977 * b) (by omega) (by omega), w64 (n := 31 * a + 977 * b) (by omega) (by omega), w64 (by omega) (by omega), tmod_pos (by omega)]
    rfl
  unfold impl_hash.f
  simp only [e]
  exact impl_hash_l0 s hs s.size 0 (hash0 a b) (by omega) (Int.emod_nonneg _ (by decide)) (Int.emod_lt_of_pos _ (by decide))
theorem impl_place_ev (a b : Int) (s : ByteArray) (n : Int) (hs : s.size ≤ 9223372036854775807) (ha0 : 0 ≤ a) (ha1 : a ≤ 9999) (hb0 : 0 ≤ b) (hb1 : b ≤ 9) (hn0 : 0 ≤ n) (hn1 : n ≤ 65521) : Ev (fun k => impl_place.f k a b s n) (placeV a b s n) := by
  have hr := hash_range a b s
  have p0 : 0 ≤ hashV a b s * n := Int.mul_nonneg hr.1 hn0
  have p1 : hashV a b s * n ≤ 4293001441 := by
    have h1 : hashV a b s * n ≤ hashV a b s * 65521 := Int.mul_le_mul_of_nonneg_left (by omega) hr.1
    omega
  unfold impl_place.f
  refine Ev.bind (impl_hash_ev a b s hs ha0 ha1 hb0 hb1) ?_
  refine Ev.some_ ?_
  have h2 : hashV a b s * n / 65521 ≤ hashV a b s * n := Int.ediv_le_self _ p0
  have h3 : 0 ≤ hashV a b s * n / 65521 := Int.ediv_nonneg p0 (by decide)
  rw [w64 (n := hashV a b s * n) (by omega) (by omega), tdiv_pos p0, w64 (by omega) (by omega)]
  rfl
def tripleV (a b : Int) (s : ByteArray) (n : Nat) : List Int := (List.range n).map fun i : Nat => placeV a (i : Int) s b + (i : Int) * b
theorem tripleV_length (a b : Int) (s : ByteArray) (n : Nat) : (tripleV a b s n).length = n := by simp [tripleV]
theorem tripleV_succ (a b : Int) (s : ByteArray) (n : Nat) : tripleV a b s (n + 1) = tripleV a b s n ++ [placeV a n s b + n * b] := by simp [tripleV, List.range_succ]
theorem tripleV_three (a b : Int) (s : ByteArray) : tripleV a b s 3 = [placeV a 0 s b, placeV a 1 s b + b, placeV a 2 s b + 2 * b] := by simp [tripleV, List.range_succ]
theorem tripleV_range {a b : Int} {s : ByteArray} (h : 0 < b) : ∀ x ∈ tripleV a b s 3, 0 ≤ x ∧ x < 3 * b := by
  intro x hx
  have h0 := place_range (a := a) (b := 0) (s := s) h
  have h1 := place_range (a := a) (b := 1) (s := s) h
  have h2 := place_range (a := a) (b := 2) (s := s) h
  rw [tripleV_three] at hx
  simp only [List.mem_cons, List.not_mem_nil, or_false] at hx
  rcases hx with rfl | rfl | rfl <;> omega
theorem spec_peTriple_l0 (a b : Int) (s : ByteArray) (hs : s.size ≤ 9223372036854775807) (ha0 : 0 ≤ a) (ha1 : a ≤ 9999) (hb0 : 0 < b) (hb1 : b ≤ 65521) (d : Nat) : ∀ i : Nat, i + d = 3 → Ev (fun k => spec_peTriple.l0 k a s b (tripleV a b s i) (i : Int)) (tripleV a b s 3) := by
  induction d with
  | zero =>
    intro i hi
    refine Ev.succ ?_
    have h1 : ¬ ((i : Int) < 3) := by omega
    simp only [spec_peTriple.l0, h1, ↓reduceIte]
    exact Ev.some_ (by rw [← hi]; rfl)
  | succ d ih =>
    intro i hi
    refine Ev.succ ?_
    have h1 : (i : Int) < 3 := by omega
    have hw : wrap64 ((i : Int) + 1) = ((i + 1 : Nat) : Int) := by rw [w64 (by omega) (by omega)]; rfl
    have h2 : (tripleV a b s i).length < 17592186044416 := by rw [tripleV_length]; omega
    have hp := place_range (a := a) (b := (i : Int)) (s := s) (n := b) hb0
    have e1 : 0 ≤ (i : Int) * b ∧ (i : Int) * b ≤ 131042 := by
      have hi3 : i = 0 ∨ i = 1 ∨ i = 2 := by omega
      rcases hi3 with rfl | rfl | rfl <;> omega
    have hw1 : wrap64 ((i : Int) * b) = (i : Int) * b := w64 (by omega) (by omega)
    have hw2 : wrap64 (placeV a (i : Int) s b + (i : Int) * b) = placeV a (i : Int) s b + (i : Int) * b := w64 (by omega) (by omega)
    simp only [spec_peTriple.l0, h1, h2, ↓reduceIte, hw]
    refine Ev.bind (spec_biPlace_ev a i s b hs ha0 ha1 (by omega) (by omega) (by omega) hb1) ?_
    rw [hw1, hw2, ← tripleV_succ]
    exact ih (i + 1) (by omega)
theorem spec_peTriple_ev (a b : Int) (s : ByteArray) (hs : s.size ≤ 9223372036854775807) (ha0 : 0 ≤ a) (ha1 : a ≤ 9999) (hb0 : 0 < b) (hb1 : b ≤ 65521) : Ev (fun k => spec_peTriple.f k a s b) (tripleV a b s 3) := spec_peTriple_l0 a b s hs ha0 ha1 hb0 hb1 3 0 rfl
theorem impl_threePlaces_l0 (a b : Int) (s : ByteArray) (hs : s.size ≤ 9223372036854775807) (ha0 : 0 ≤ a) (ha1 : a ≤ 9999) (hb0 : 0 < b) (hb1 : b ≤ 65521) (d : Nat) : ∀ i : Nat, i + d = 3 → Ev (fun k => impl_threePlaces.l0 k a s b (tripleV a b s i) (i : Int)) (tripleV a b s 3) := by
  induction d with
  | zero =>
    intro i hi
    refine Ev.succ ?_
    have h1 : ¬ ((i : Int) < 3) := by omega
    simp only [impl_threePlaces.l0, h1, ↓reduceIte]
    exact Ev.some_ (by rw [← hi]; rfl)
  | succ d ih =>
    intro i hi
    refine Ev.succ ?_
    have h1 : (i : Int) < 3 := by omega
    have hw : wrap64 ((i : Int) + 1) = ((i + 1 : Nat) : Int) := by rw [w64 (by omega) (by omega)]; rfl
    have h2 : (tripleV a b s i).length < 17592186044416 := by rw [tripleV_length]; omega
    have hp := place_range (a := a) (b := (i : Int)) (s := s) (n := b) hb0
    have e1 : 0 ≤ (i : Int) * b ∧ (i : Int) * b ≤ 131042 := by
      have hi3 : i = 0 ∨ i = 1 ∨ i = 2 := by omega
      rcases hi3 with rfl | rfl | rfl <;> omega
    have hw1 : wrap64 ((i : Int) * b) = (i : Int) * b := w64 (by omega) (by omega)
    have hw2 : wrap64 (placeV a (i : Int) s b + (i : Int) * b) = placeV a (i : Int) s b + (i : Int) * b := w64 (by omega) (by omega)
    simp only [impl_threePlaces.l0, h1, h2, ↓reduceIte, hw]
    refine Ev.bind (impl_place_ev a i s b hs ha0 ha1 (by omega) (by omega) (by omega) hb1) ?_
    rw [hw1, hw2, ← tripleV_succ]
    exact ih (i + 1) (by omega)
theorem impl_threePlaces_ev (a b : Int) (s : ByteArray) (hs : s.size ≤ 9223372036854775807) (ha0 : 0 ≤ a) (ha1 : a ≤ 9999) (hb0 : 0 < b) (hb1 : b ≤ 65521) : Ev (fun k => impl_threePlaces.f k a s b) (tripleV a b s 3) := impl_threePlaces_l0 a b s hs ha0 ha1 hb0 hb1 3 0 rfl
def natsI (l : List Nat) : List Int := l.map fun j : Nat => (j : Int)
theorem natsI_length (l : List Nat) : (natsI l).length = l.length := by simp [natsI]
theorem natsI_snoc (l : List Nat) (i : Nat) : natsI (l ++ [i]) = natsI l ++ [(i : Int)] := by simp [natsI]
theorem natsI_rd (l : List Nat) (i : Nat) (h : i < l.length) : rd (natsI l) (i : Int) = (l[i] : Int) := by
  rw [rd_nat _ _ (by rw [natsI_length]; exact h)]
  simp [natsI]
def goodEdges (n : Nat) (es : List (List Int)) : Prop := n ≤ 1000 ∧ es.length ≤ 1000 ∧ ∀ i : Nat, i < es.length → (rowE es i).length ≤ 1000 ∧ ∀ p ∈ rowE es i, 0 ≤ p ∧ p < (n : Int)
theorem rd_row (es : List (List Int)) (i : Nat) : rd_L3 es (i : Int) = rowE es i := rfl
theorem spec_peAll_ev (a : Int) (es : List (List Int)) (h : es.length ≤ 1000) : Ev (fun k => spec_peAll.f k a es) (natsI (List.range es.length)) := by
  suffices H : ∀ d i : Nat, i + d = es.length → Ev (fun k => spec_peAll.l0 k (natsI (List.range i)) (es.length : Int) (i : Int)) (natsI (List.range es.length)) from H es.length 0 (by omega)
  intro d
  induction d with
  | zero =>
    intro i hi
    refine Ev.succ ?_
    have h1 : ¬ ((i : Int) < (es.length : Int)) := by omega
    simp only [spec_peAll.l0, h1, ↓reduceIte]
    exact Ev.some_ (by rw [show i = es.length from by omega])
  | succ d ih =>
    intro i hi
    refine Ev.succ ?_
    have h1 : (i : Int) < (es.length : Int) := by omega
    have hw : wrap64 ((i : Int) + 1) = ((i + 1 : Nat) : Int) := by rw [w64 (by omega) (by omega)]; rfl
    have h2 : (natsI (List.range i)).length < 17592186044416 := by rw [natsI_length, List.length_range]; omega
    simp only [spec_peAll.l0, h1, h2, ↓reduceIte, hw]
    rw [← natsI_snoc, ← List.range_succ]
    exact ih (i + 1) (by omega)
theorem spec_peDegrees_l1 (es : List (List Int)) (a : Int) (ll : List Int) (len i : Int) (ps : List Int) (r : List Int) (hl : ps.length ≤ 1000) (d : Nat) : ∀ (j : Nat) (o : List Int), j + d = ps.length → (∀ p ∈ ps, 0 ≤ p ∧ p < (o.length : Int)) →
    Ev (fun k => spec_peDegrees.l0 k ((ps.drop j).foldl bump o) ll len (wrap64 (i + 1)) a es) r → Ev (fun k => spec_peDegrees.l1 k o ll len i ps (ps.length : Int) (j : Int) a es) r := by
  induction d with
  | zero =>
    intro j o hj hp h
    refine Ev.succ ?_
    have h1 : ¬ ((j : Int) < (ps.length : Int)) := by omega
    rw [List.drop_eq_nil_of_le (by omega), List.foldl_nil] at h
    simp only [spec_peDegrees.l1, h1, ↓reduceIte]
    exact h
  | succ d ih =>
    intro j o hj hp h
    refine Ev.succ ?_
    have h0 : j < ps.length := by omega
    have h1 : (j : Int) < (ps.length : Int) := by omega
    have h2 : (0 : Int) ≤ (j : Int) := by omega
    have hw : wrap64 ((j : Int) + 1) = ((j + 1 : Nat) : Int) := by rw [w64 (by omega) (by omega)]; rfl
    have h3 := hp _ (List.getElem_mem h0)
    rw [drop_cons ps j h0, List.foldl_cons] at h
    rw [← rd_nat ps j h0] at h h3
    simp only [spec_peDegrees.l1, h1, h2, h3.1, h3.2, ↓reduceIte, hw]
    exact ih (j + 1) (bump o (rd ps (j : Int))) (by omega) (by rw [bump_length]; exact hp) h
theorem spec_peDegrees_ev {n : Nat} {es : List (List Int)} (hg : goodEdges n es) (l : List Nat) (hl : l.length ≤ 1000) (hm : ∀ i ∈ l, i < es.length) : Ev (fun k => spec_peDegrees.f k (n : Int) es (natsI l)) (degOf n es l) := by
  obtain ⟨hn, he, hes⟩ := hg
  have h0 : (0 : Int) ≤ (n : Int) := by omega
  have h1 : n ≤ 35184372088832 := by omega
  unfold spec_peDegrees.f
  simp only [h0, ↓reduceIte, Int.toNat_natCast, h1]
  suffices H : ∀ (d i : Nat) (o : List Int), i + d = l.length → o.length = n → Ev (fun k => spec_peDegrees.l0 k o (natsI l) ((natsI l).length : Int) (i : Int) (n : Int) es) ((l.drop i).foldl (degStep es) o) from H l.length 0 _ (by omega) (by simp)
  intro d
  induction d with
  | zero =>
    intro i o hi ho
    refine Ev.succ ?_
    have h1 : ¬ ((i : Int) < ((natsI l).length : Int)) := by rw [natsI_length]; omega
    simp only [spec_peDegrees.l0, h1, ↓reduceIte]
    exact Ev.some_ (by rw [List.drop_eq_nil_of_le (by omega), List.foldl_nil])
  | succ d ih =>
    intro i o hi ho
    refine Ev.succ ?_
    have h0 : i < l.length := by omega
    have h1 : (i : Int) < ((natsI l).length : Int) := by rw [natsI_length]; omega
    have h2 : (0 : Int) ≤ (i : Int) := by omega
    have h3 := hm _ (List.getElem_mem h0)
    have h4 : (0 : Int) ≤ (l[i] : Int) := by omega
    have h5 : (l[i] : Int) < (es.length : Int) := by omega
    have hw : wrap64 ((i : Int) + 1) = ((i + 1 : Nat) : Int) := by rw [w64 (by omega) (by omega)]; rfl
    have h6 := hes _ h3
    simp only [spec_peDegrees.l0, h1, h2, natsI_rd l i h0, h4, h5, ↓reduceIte, rd_row]
    rw [drop_cons l i h0, List.foldl_cons]
    refine spec_peDegrees_l1 es n (natsI l) _ i (rowE es l[i]) _ h6.1 (rowE es l[i]).length 0 o (by omega) (by rw [ho]; exact h6.2) ?_
    rw [hw, List.drop_zero]
    exact ih (i + 1) (degStep es o l[i]) (by omega) (by unfold degStep; rw [bumps_length, ho])
theorem spec_peFree_ev {n : Nat} {es : List (List Int)} (hg : goodEdges n es) (l : List Nat) (hl : l.length ≤ 1000) (hm : ∀ i ∈ l, i < es.length) : Ev (fun k => spec_peFree.f k (n : Int) es (natsI l)) (onesV (degOf n es l)) := by
  unfold spec_peFree.f
  refine Ev.bind (spec_peDegrees_ev hg l hl hm) ?_
  have hn : (degOf n es l).length ≤ 1000 := by rw [degOf_length]; exact hg.1
  generalize degOf n es l = ds at *
  suffices H : ∀ (d i : Nat) (o : List Int), i + d = ds.length → o.length ≤ i → Ev (fun k => spec_peFree.l0 k o ds (ds.length : Int) (i : Int)) (o ++ onesFrom ds i) from H ds.length 0 [] (by omega) (by simp)
  intro d
  induction d with
  | zero =>
    intro i o hi ho
    refine Ev.succ ?_
    obtain rfl : i = ds.length := by omega
    have h1 : ¬ ((ds.length : Int) < (ds.length : Int)) := by omega
    simp only [spec_peFree.l0, h1, ↓reduceIte, onesFrom_end, List.append_nil]
    exact Ev.now _
  | succ d ih =>
    intro i o hi ho
    refine Ev.succ ?_
    have h1 : (i : Int) < (ds.length : Int) := by omega
    have h2 : (0 : Int) ≤ (i : Int) := by omega
    have h4 : o.length < 17592186044416 := by omega
    have hw : wrap64 ((i : Int) + 1) = ((i + 1 : Nat) : Int) := by rw [w64 (by omega) (by omega)]; rfl
    rw [onesFrom_step ds i (by omega)]
    by_cases c : rd ds (i : Int) = 1
    · simp only [spec_peFree.l0, h1, h2, h4, c, ↓reduceIte, hw]
      have e := ih (i + 1) (o ++ [(i : Int)]) (by omega) (by simp; omega)
      rw [List.append_assoc] at e
      exact e
    · simp only [spec_peFree.l0, h1, h2, c, ↓reduceIte, hw]
      exact ih (i + 1) o (by omega) (by omega)
def findI (es : List (List Int)) (l : List Nat) (p : Int) : Int := match l.find? (hasE es p) with | some i => (i : Int) | none => -1
theorem spec_peWith_ev {n : Nat} {es : List (List Int)} (hg : goodEdges n es) (l : List Nat) (hl : l.length ≤ 1000) (hm : ∀ i ∈ l, i < es.length) (p : Int) : Ev (fun k => spec_peWith.f k (n : Int) es (natsI l) p) (findI es l p) := by
  obtain ⟨hn, he, hes⟩ := hg
  suffices H : ∀ (d i : Nat), i + d = l.length → Ev (fun k => spec_peWith.l0 k p (natsI l) ((natsI l).length : Int) (i : Int) (n : Int) es) (findI es (l.drop i) p) from H l.length 0 (by omega)
  intro d
  induction d with
  | zero =>
    intro i hi
    refine Ev.succ ?_
    have h1 : ¬ ((i : Int) < ((natsI l).length : Int)) := by rw [natsI_length]; omega
    simp only [spec_peWith.l0, h1, ↓reduceIte]
    exact Ev.some_ (by rw [List.drop_eq_nil_of_le (by omega)]; rfl)
  | succ d ih =>
    intro i hi
    refine Ev.succ ?_
    have h0 : i < l.length := by omega
    have h1 : (i : Int) < ((natsI l).length : Int) := by rw [natsI_length]; omega
    have h2 : (0 : Int) ≤ (i : Int) := by omega
    have h3 := hm _ (List.getElem_mem h0)
    have h4 : (0 : Int) ≤ (l[i] : Int) := by omega
    have h5 : (l[i] : Int) < (es.length : Int) := by omega
    have hw : wrap64 ((i : Int) + 1) = ((i + 1 : Nat) : Int) := by rw [w64 (by omega) (by omega)]; rfl
    have h6 := hes _ h3
    simp only [spec_peWith.l0, h1, h2, natsI_rd l i h0, h4, h5, ↓reduceIte, rd_row, hw]
    refine Ev.bind (spec_l1Has_ev _ _ (by omega)) ?_
    rw [drop_cons l i h0]
    unfold findI
    rw [List.find?_cons]
    by_cases c : p ∈ rowE es l[i]
    · simp only [hasE, c, decide_true, ↓reduceIte]
      exact Ev.now _
    · simp only [hasE, c, decide_false, Bool.false_eq_true, ↓reduceIte]
      exact ih (i + 1) (by omega)
theorem spec_l1Drop_ev (l : List Nat) (hl : l.length ≤ 1000) (x : Nat) : Ev (fun k => spec_l1Drop.f k (natsI l) (x : Int)) (natsI (l.filter fun j => decide (j ≠ x))) := by
  suffices H : ∀ (d i : Nat), i + d = l.length → Ev (fun k => spec_l1Drop.l0 k (x : Int) (natsI ((l.take i).filter fun j => decide (j ≠ x))) (natsI l) ((natsI l).length : Int) (i : Int)) (natsI (l.filter fun j => decide (j ≠ x))) from H l.length 0 (by omega)
  intro d
  induction d with
  | zero =>
    intro i hi
    refine Ev.succ ?_
    have h1 : ¬ ((i : Int) < ((natsI l).length : Int)) := by rw [natsI_length]; omega
    simp only [spec_l1Drop.l0, h1, ↓reduceIte]
    exact Ev.some_ (by rw [List.take_of_length_le (by omega)])
  | succ d ih =>
    intro i hi
    refine Ev.succ ?_
    have h0 : i < l.length := by omega
    have h1 : (i : Int) < ((natsI l).length : Int) := by rw [natsI_length]; omega
    have h2 : (0 : Int) ≤ (i : Int) := by omega
    have hw : wrap64 ((i : Int) + 1) = ((i + 1 : Nat) : Int) := by rw [w64 (by omega) (by omega)]; rfl
    have e := ih (i + 1) (by omega)
    rw [List.take_succ_eq_append_getElem h0, List.filter_append] at e
    by_cases c : l[i] = x
    · have c' : (l[i] : Int) = (x : Int) := by omega
      simp only [spec_l1Drop.l0, h1, h2, natsI_rd l i h0, c', ↓reduceIte, hw]
      rw [show List.filter (fun j => decide (j ≠ x)) [l[i]] = [] from by simp [c], List.append_nil] at e
      exact e
    · have c' : ¬ ((l[i] : Int) = (x : Int)) := by omega
      have h4 : (natsI ((l.take i).filter fun j => decide (j ≠ x))).length < 17592186044416 := by
        rw [natsI_length]
        have := List.length_filter_le (fun j => decide (j ≠ x)) (l.take i)
        rw [List.length_take] at this
        omega
      simp only [spec_l1Drop.l0, h1, h2, natsI_rd l i h0, c', h4, ↓reduceIte, hw]
      rw [show List.filter (fun j => decide (j ≠ x)) [l[i]] = [l[i]] from by simp [c], natsI_snoc] at e
      exact e
def stepsS (l : List (Int × Int)) : List S65 := l.map fun q => ⟨q.1, q.2⟩
theorem stepsS_snoc (l : List (Int × Int)) (a b : Int) : stepsS (l ++ [(a, b)]) = stepsS l ++ [(⟨a, b⟩ : S65)] := by simp [stepsS]
theorem stepsS_length (l : List (Int × Int)) : (stepsS l).length = l.length := by simp [stepsS]
def peeledS (r : List (Int × Int) × List Nat) : List S65 × List Int := (stepsS r.1, natsI r.2)
theorem spec_pePeel_l0 {n : Nat} {es : List (List Int)} (hg : goodEdges n es) (f : Nat) : ∀ (l : List Nat) (st : List (Int × Int)) (x : Int), l.length < f → l.length ≤ 1000 → (∀ i ∈ l, i < es.length) → 0 ≤ x → x + f ≤ 100000 → st.length + f ≤ 100000 →
    Ev (fun k => spec_pePeel.l0 k ([] : List Int) true (stepsS st) (natsI l) x (n : Int) es) (peeledS (peelV n es f l st)) := by
  induction f with
  | zero => intro l st x h; omega
  | succ f ih =>
    intro l st x hf hl hm hx hx1 hs
    refine Ev.succ ?_
    simp only [spec_pePeel.l0, ↓reduceIte]
    refine Ev.succ ?_
    simp only [spec_pePeel.j1, ↓reduceIte]
    refine Ev.bind (spec_peFree_ev hg l hl hm) ?_
    unfold peelV
    cases e : onesV (degOf n es l) with
    | nil =>
      simp only [List.length_nil, Int.natCast_zero, ↓reduceIte]
      exact Ev.now _
    | cons p ps =>
      have h1 : ¬ (((p :: ps).length : Int) = 0) := by rw [List.length_cons]; omega
      have h2 : ¬ (x < (([] : List Int).length : Int)) := by rw [List.length_nil]; omega
      have h3 : (0 : Int) < ((p :: ps).length : Int) := by rw [List.length_cons]; omega
      have h4 : rd (p :: ps) 0 = p := rfl
      obtain ⟨i, hi, hil, hip⟩ := find_some e (fun i hi q hq => (((hg.2.2 i (hm i hi)).2) q hq).1)
      have h5 : (stepsS st).length < 8796093022208 := by rw [stepsS_length]; omega
      simp only [h1, h2, h3, h4, ↓reduceIte]
      refine Ev.bind (spec_peWith_ev hg l hl hm p) ?_
      have h6 : findI es l p = (i : Int) := by unfold findI; rw [hi]
      simp only [h5, h6, ↓reduceIte, hi]
      refine Ev.bind (spec_l1Drop_ev l hl i) ?_
      have hsh := filter_shorter hil
      have hw : wrap64 (x + 1) = x + 1 := w64 (by omega) (by omega)
      rw [hw, ← stepsS_snoc]
      exact ih _ _ _ (by omega) (by omega) (fun j hj => hm j (List.mem_filter.1 hj).1) (by omega) (by omega) (by rw [List.length_append, List.length_singleton]; omega)
def peeledV (n : Nat) (es : List (List Int)) : List (Int × Int) × List Nat := peelV n es (es.length + 1) (List.range es.length) []
theorem spec_pePeel_ev {n : Nat} {es : List (List Int)} (hg : goodEdges n es) : Ev (fun k => spec_pePeel.f k (n : Int) es ([] : List Int) true) (peeledS (peeledV n es)) := by
  unfold spec_pePeel.f
  refine Ev.bind (spec_peAll_ev _ es hg.2.1) ?_
  have := hg.2.1
  exact spec_pePeel_l0 hg (es.length + 1) (List.range es.length) [] 0 (by simp) (by simp; omega) (by simp) (by omega) (by omega) (by simp; omega)
def leftFrom (n : Nat) (gone : List Bool) (i : Nat) : List Nat := (List.range' i (n - i)).filter fun j => !gone.getD j false
theorem leftFrom_zero (n : Nat) (gone : List Bool) : leftFrom n gone 0 = leftOf n gone := by
  unfold leftFrom leftOf
  rw [List.range_eq_range', Nat.sub_zero]
theorem leftFrom_end (n : Nat) (gone : List Bool) : leftFrom n gone n = [] := by simp [leftFrom]
theorem leftFrom_step {n : Nat} {gone : List Bool} {i : Nat} (h : i < n) (hl : i < gone.length) : leftFrom n gone i = if rdOf false gone (i : Int) = true then leftFrom n gone (i + 1) else i :: leftFrom n gone (i + 1) := by
  unfold leftFrom
  rw [show n - i = (n - (i + 1)) + 1 from by omega, List.range'_succ, List.filter_cons]
  rw [rdOf_nat false gone i hl, List.getD_eq_getElem?_getD, List.getElem?_eq_getElem hl]
  cases gone[i] <;> simp
theorem impl_degrees_l1 (es : List (List Int)) (gone : List Bool) (len i : Int) (ps : List Int) (r : List Int) (hl : ps.length ≤ 1000) (d : Nat) : ∀ (j : Nat) (o : List Int), j + d = ps.length → (∀ p ∈ ps, 0 ≤ p ∧ p < (o.length : Int)) →
    Ev (fun k => impl_Hyper_degrees_in59_0.l0 k gone ((ps.drop j).foldl bump o) es len (wrap64 (i + 1))) r → Ev (fun k => impl_Hyper_degrees_in59_0.l1 k gone o es len i ps (ps.length : Int) (j : Int)) r := by
  induction d with
  | zero =>
    intro j o hj hp h
    refine Ev.succ ?_
    have h1 : ¬ ((j : Int) < (ps.length : Int)) := by omega
    rw [List.drop_eq_nil_of_le (by omega), List.foldl_nil] at h
    simp only [impl_Hyper_degrees_in59_0.l1, h1, ↓reduceIte]
    exact h
  | succ d ih =>
    intro j o hj hp h
    refine Ev.succ ?_
    have h0 : j < ps.length := by omega
    have h1 : (j : Int) < (ps.length : Int) := by omega
    have h2 : (0 : Int) ≤ (j : Int) := by omega
    have hw : wrap64 ((j : Int) + 1) = ((j + 1 : Nat) : Int) := by rw [w64 (by omega) (by omega)]; rfl
    have h3 := hp _ (List.getElem_mem h0)
    rw [drop_cons ps j h0, List.foldl_cons] at h
    rw [← rd_nat ps j h0] at h h3
    simp only [impl_Hyper_degrees_in59_0.l1, h1, h2, h3.1, h3.2, ↓reduceIte, hw]
    exact ih (j + 1) (bump o (rd ps (j : Int))) (by omega) (by rw [bump_length]; exact hp) h
theorem impl_degrees_ev {n : Nat} {es : List (List Int)} (hg : goodEdges n es) (gone : List Bool) (hl : gone.length = es.length) : Ev (fun k => impl_Hyper_degrees_in59_0.f k (n : Int) es gone) (degOf n es (leftOf es.length gone)) := by
  obtain ⟨hn, he, hes⟩ := hg
  have h0 : (0 : Int) ≤ (n : Int) := by omega
  have h1 : n ≤ 35184372088832 := by omega
  unfold impl_Hyper_degrees_in59_0.f
  simp only [h0, ↓reduceIte, Int.toNat_natCast, h1]
  suffices H : ∀ (d i : Nat) (o : List Int), i + d = es.length → o.length = n → Ev (fun k => impl_Hyper_degrees_in59_0.l0 k gone o es (es.length : Int) (i : Int)) ((leftFrom es.length gone i).foldl (degStep es) o) by
    have e := H es.length 0 (List.replicate n 0) (by omega) (by simp)
    rw [leftFrom_zero] at e
    exact e
  intro d
  induction d with
  | zero =>
    intro i o hi ho
    refine Ev.succ ?_
    obtain rfl : i = es.length := by omega
    have h1 : ¬ ((es.length : Int) < (es.length : Int)) := by omega
    simp only [impl_Hyper_degrees_in59_0.l0, h1, ↓reduceIte, leftFrom_end, List.foldl_nil]
    exact Ev.now _
  | succ d ih =>
    intro i o hi ho
    refine Ev.succ ?_
    have h1 : (i : Int) < (es.length : Int) := by omega
    have h2 : (0 : Int) ≤ (i : Int) := by omega
    have h3 : (i : Int) < (gone.length : Int) := by omega
    have hw : wrap64 ((i : Int) + 1) = ((i + 1 : Nat) : Int) := by rw [w64 (by omega) (by omega)]; rfl
    have h6 := hes i (by omega)
    rw [leftFrom_step (by omega) (by omega)]
    by_cases c : rdOf false gone (i : Int) = true
    · simp only [impl_Hyper_degrees_in59_0.l0, h1, h2, h3, c, ↓reduceIte, hw]
      exact ih (i + 1) o (by omega) ho
    · simp only [impl_Hyper_degrees_in59_0.l0, h1, h2, h3, c, ↓reduceIte, rd_row, List.foldl_cons]
      refine impl_degrees_l1 es gone _ i (rowE es i) _ h6.1 (rowE es i).length 0 o (by omega) (by rw [ho]; exact h6.2) ?_
      rw [hw, List.drop_zero]
      exact ih (i + 1) (degStep es o i) (by omega) (by unfold degStep; rw [bumps_length, ho])
theorem impl_singles_ev {n : Nat} {es : List (List Int)} (hg : goodEdges n es) (gone : List Bool) (hl : gone.length = es.length) : Ev (fun k => impl_Hyper_singles_in59_0.f k (n : Int) es gone) (onesV (degOf n es (leftOf es.length gone))) := by
  unfold impl_Hyper_singles_in59_0.f
  refine Ev.bind (impl_degrees_ev hg gone hl) ?_
  have hn : (degOf n es (leftOf es.length gone)).length ≤ 1000 := by rw [degOf_length]; exact hg.1
  generalize degOf n es (leftOf es.length gone) = ds at *
  suffices H : ∀ (d i : Nat) (o : List Int), i + d = ds.length → o.length ≤ i → Ev (fun k => impl_Hyper_singles_in59_0.l0 k o ds (ds.length : Int) (i : Int)) (o ++ onesFrom ds i) from H ds.length 0 [] (by omega) (by simp)
  intro d
  induction d with
  | zero =>
    intro i o hi ho
    refine Ev.succ ?_
    obtain rfl : i = ds.length := by omega
    have h1 : ¬ ((ds.length : Int) < (ds.length : Int)) := by omega
    simp only [impl_Hyper_singles_in59_0.l0, h1, ↓reduceIte, onesFrom_end, List.append_nil]
    exact Ev.now _
  | succ d ih =>
    intro i o hi ho
    refine Ev.succ ?_
    have h1 : (i : Int) < (ds.length : Int) := by omega
    have h2 : (0 : Int) ≤ (i : Int) := by omega
    have h4 : o.length < 17592186044416 := by omega
    have hw : wrap64 ((i : Int) + 1) = ((i + 1 : Nat) : Int) := by rw [w64 (by omega) (by omega)]; rfl
    rw [onesFrom_step ds i (by omega)]
    by_cases c : rd ds (i : Int) = 1
    · simp only [impl_Hyper_singles_in59_0.l0, h1, h2, h4, c, ↓reduceIte, hw]
      have e := ih (i + 1) (o ++ [(i : Int)]) (by omega) (by simp; omega)
      rw [List.append_assoc] at e
      exact e
    · simp only [impl_Hyper_singles_in59_0.l0, h1, h2, c, ↓reduceIte, hw]
      exact ih (i + 1) o (by omega) (by omega)
theorem impl_edgeAt_ev {n : Nat} {es : List (List Int)} (hg : goodEdges n es) (gone : List Bool) (hl : gone.length = es.length) (p : Int) (x : Nat) (hx : (leftOf es.length gone).find? (hasE es p) = some x) : Ev (fun k => impl_Hyper_edgeAt_in59_0.f k (n : Int) es gone p) (x : Int) := by
  obtain ⟨hn, he, hes⟩ := hg
  suffices H : ∀ (d i : Nat), i + d = es.length → (leftFrom es.length gone i).find? (hasE es p) = some x → Ev (fun k => impl_Hyper_edgeAt_in59_0.l0 k gone p (i : Int) (n : Int) es) (x : Int) from H es.length 0 (by omega) (by rw [leftFrom_zero]; exact hx)
  intro d
  induction d with
  | zero =>
    intro i hi h
    obtain rfl : i = es.length := by omega
    rw [leftFrom_end] at h
    cases h
  | succ d ih =>
    intro i hi h
    refine Ev.succ ?_
    have h1 : (i : Int) < (es.length : Int) := by omega
    have h2 : (0 : Int) ≤ (i : Int) := by omega
    have h3 : (i : Int) < (gone.length : Int) := by omega
    have hw : wrap64 ((i : Int) + 1) = ((i + 1 : Nat) : Int) := by rw [w64 (by omega) (by omega)]; rfl
    have h6 := hes i (by omega)
    rw [leftFrom_step (by omega) (by omega)] at h
    by_cases c : rdOf false gone (i : Int) = true
    · rw [if_pos c] at h
      simp only [impl_Hyper_edgeAt_in59_0.l0, h2, h3, c, ↓reduceIte, hw]
      exact ih (i + 1) (by omega) h
    · rw [if_neg c, List.find?_cons] at h
      simp only [impl_Hyper_edgeAt_in59_0.l0, h1, h2, h3, c, ↓reduceIte, rd_row, hw]
      refine Ev.bind (slices_Contains_int_int_ev _ _ (by omega)) ?_
      by_cases g : p ∈ rowE es i
      · simp only [hasE, g, decide_true] at h
        simp only [g, decide_true, ↓reduceIte]
        exact Ev.some_ (by injection h with h; omega)
      · simp only [hasE, g, decide_false] at h
        simp only [g, decide_false, Bool.false_eq_true, ↓reduceIte]
        exact ih (i + 1) (by omega) h
theorem impl_left_ev (gone : List Bool) (hl : gone.length ≤ 1000) : Ev (fun k => impl_left.f k gone) (natsI (leftOf gone.length gone)) := by
  suffices H : ∀ (d i : Nat) (o : List Int), i + d = gone.length → o.length ≤ i → Ev (fun k => impl_left.l0 k o gone (gone.length : Int) (i : Int)) (o ++ natsI (leftFrom gone.length gone i)) by
    have e := H gone.length 0 [] (by omega) (by simp)
    rw [leftFrom_zero] at e
    exact e
  intro d
  induction d with
  | zero =>
    intro i o hi ho
    refine Ev.succ ?_
    obtain rfl : i = gone.length := by omega
    have h1 : ¬ ((gone.length : Int) < (gone.length : Int)) := by omega
    simp only [impl_left.l0, h1, ↓reduceIte, leftFrom_end]
    exact Ev.some_ (by simp [natsI])
  | succ d ih =>
    intro i o hi ho
    refine Ev.succ ?_
    have h1 : (i : Int) < (gone.length : Int) := by omega
    have h2 : (0 : Int) ≤ (i : Int) := by omega
    have h4 : o.length < 17592186044416 := by omega
    have hw : wrap64 ((i : Int) + 1) = ((i + 1 : Nat) : Int) := by rw [w64 (by omega) (by omega)]; rfl
    rw [leftFrom_step (by omega) (by omega)]
    by_cases c : rdOf false gone (i : Int) = true
    · simp only [impl_left.l0, h1, h2, c, ↓reduceIte, hw]
      exact ih (i + 1) o (by omega) (by omega)
    · simp only [impl_left.l0, h1, h2, h4, c, ↓reduceIte, hw]
      have e := ih (i + 1) (o ++ [(i : Int)]) (by omega) (by simp; omega)
      rw [List.append_assoc] at e
      exact e
theorem impl_peel_l0 {n : Nat} {es : List (List Int)} (hg : goodEdges n es) (f : Nat) : ∀ (gone : List Bool) (st : List (Int × Int)), gone.length = es.length → (leftOf es.length gone).length < f → st.length + f ≤ 100000 →
    Ev (fun k => impl_Hyper_peel_in59_0.l0 k (stepsS st) gone (n : Int) es) (peeledS (peelV n es f (leftOf es.length gone) st)) := by
  induction f with
  | zero => intro gone st hl h; omega
  | succ f ih =>
    intro gone st hl hf hs
    have he := hg.2.1
    refine Ev.succ ?_
    simp only [impl_Hyper_peel_in59_0.l0]
    refine Ev.bind (impl_singles_ev hg gone hl) ?_
    unfold peelV
    cases e : onesV (degOf n es (leftOf es.length gone)) with
    | nil =>
      simp only [List.length_nil, Int.natCast_zero, ↓reduceIte]
      refine Ev.bind (impl_left_ev gone (by omega)) ?_
      rw [hl]
      exact Ev.now _
    | cons p ps =>
      have h1 : ¬ (((p :: ps).length : Int) = 0) := by rw [List.length_cons]; omega
      have h3 : (0 : Int) < ((p :: ps).length : Int) := by rw [List.length_cons]; omega
      have h4 : rd (p :: ps) 0 = p := rfl
      obtain ⟨i, hi, hil, hip⟩ := find_some e (fun i hi q hq => (((hg.2.2 i (mem_leftOf.1 hi).1).2) q hq).1)
      have hin := (mem_leftOf.1 hil).1
      have h5 : (stepsS st).length < 8796093022208 := by rw [stepsS_length]; omega
      have h6 : (0 : Int) ≤ (i : Int) := by omega
      have h7 : (i : Int) < (gone.length : Int) := by omega
      simp only [h1, h3, h4, ↓reduceIte]
      refine Ev.bind (impl_edgeAt_ev hg gone hl p i hi) ?_
      simp only [h5, h6, h7, ↓reduceIte, hi, Int.toNat_natCast]
      have hsh := filter_shorter hil
      rw [← stepsS_snoc, ← leftOf_set (by omega)]
      exact ih _ _ (by rw [List.length_set, hl]) (by rw [leftOf_set (by omega)]; omega) (by rw [List.length_append, List.length_singleton]; omega)
theorem impl_peel_ev {n : Nat} {es : List (List Int)} (hg : goodEdges n es) : Ev (fun k => impl_Hyper_peel_in59_0.f k (n : Int) es) (peeledS (peeledV n es)) := by
  have he := hg.2.1
  have h0 : (0 : Int) ≤ (es.length : Int) := by omega
  have h1 : es.length ≤ 281474976710656 := by omega
  unfold impl_Hyper_peel_in59_0.f
  refine Ev.bind (a := List.replicate es.length false) ?_ ?_
  · unfold impl_Hyper_none_in59_0.f
    simp only [h0, ↓reduceIte, Int.toNat_natCast, h1]
    exact Ev.now _
  · have e := impl_peel_l0 hg (es.length + 1) (List.replicate es.length false) [] (by simp) (by rw [leftOf_none]; simp) (by simp; omega)
    rw [leftOf_none] at e
    exact e
def edgesV (a b : Int) (ks : List ByteArray) : List (List Int) := ks.map fun s => tripleV a b s 3
theorem edgesV_length (a b : Int) (ks : List ByteArray) : (edgesV a b ks).length = ks.length := by simp [edgesV]
theorem edgesV_snoc (a b : Int) (ks : List ByteArray) (i : Nat) (h : i < ks.length) : edgesV a b (ks.take (i + 1)) = edgesV a b (ks.take i) ++ [tripleV a b ks[i] 3] := by
  unfold edgesV
  rw [List.take_succ_eq_append_getElem h, List.map_append]
  rfl
theorem edgesV_row (a b : Int) (ks : List ByteArray) (i : Nat) (h : i < ks.length) : rowE (edgesV a b ks) i = tripleV a b ks[i] 3 := by
  unfold rowE edgesV
  rw [List.getD_eq_getElem?_getD, List.getElem?_map, List.getElem?_eq_getElem h]
  rfl
theorem edgesV_good {a b : Int} {ks : List ByteArray} (hb0 : 1 ≤ b) (hb1 : b ≤ 24) (hk : ks.length ≤ 1000) : goodEdges (3 * b).toNat (edgesV a b ks) := by
  refine ⟨by omega, by rw [edgesV_length]; exact hk, ?_⟩
  intro i hi
  rw [edgesV_length] at hi
  rw [edgesV_row a b ks i hi, tripleV_length]
  refine ⟨by omega, ?_⟩
  intro p hp
  have := tripleV_range (a := a) (s := ks[i]) (show 0 < b by omega) p hp
  omega
theorem spec_peHyper_ev (a b : Int) (ks : List ByteArray) (hk : ks.length ≤ 1000) (hs : ∀ s ∈ ks, s.size ≤ 9223372036854775807) (ha0 : 0 ≤ a) (ha1 : a ≤ 9999) (hb0 : 1 ≤ b) (hb1 : b ≤ 24) : Ev (fun k => spec_peHyper.f k a ks b) (3 * b, edgesV a b ks) := by
  unfold spec_peHyper.f
  rw [w64 (n := 3 * b) (by omega) (by omega)]
  suffices h : ∀ d i : Nat, i + d = ks.length → Ev (fun k => spec_peHyper.l0 k a b ks (ks.length : Int) (i : Int) (3 * b) (edgesV a b (ks.take i))) (3 * b, edgesV a b ks) from h ks.length 0 (by omega)
  intro d
  induction d with
  | zero =>
    intro i hi
    refine Ev.succ ?_
    have h1 : ¬ ((i : Int) < (ks.length : Int)) := by omega
    simp only [spec_peHyper.l0, h1, ↓reduceIte]
    exact Ev.some_ (by rw [List.take_of_length_le (by omega)])
  | succ d ih =>
    intro i hi
    refine Ev.succ ?_
    have h0 : i < ks.length := by omega
    have h1 : (i : Int) < (ks.length : Int) := by omega
    have h2 : (0 : Int) ≤ (i : Int) := by omega
    have hw : wrap64 ((i : Int) + 1) = ((i + 1 : Nat) : Int) := by rw [w64 (by omega) (by omega)]; rfl
    have h3 : (edgesV a b (ks.take i)).length < 5864062014805 := by rw [edgesV_length, List.length_take]; omega
    simp only [spec_peHyper.l0, h1, h2, ↓reduceIte, hw, rdOf_nat ByteArray.empty ks i h0]
    refine Ev.bind (spec_peTriple_ev a b _ (hs _ (List.getElem_mem h0)) ha0 ha1 (by omega) (by omega)) ?_
    simp only [h3, ↓reduceIte]
    rw [← edgesV_snoc a b ks i h0]
    exact ih (i + 1) (by omega)
theorem impl_hyper_ev (a b : Int) (ks : List ByteArray) (hk : ks.length ≤ 1000) (hs : ∀ s ∈ ks, s.size ≤ 9223372036854775807) (ha0 : 0 ≤ a) (ha1 : a ≤ 9999) (hb0 : 1 ≤ b) (hb1 : b ≤ 24) : Ev (fun k => impl_hyper.f k a ks b) (3 * b, edgesV a b ks) := by
  unfold impl_hyper.f
  rw [w64 (n := 3 * b) (by omega) (by omega)]
  suffices h : ∀ d i : Nat, i + d = ks.length → Ev (fun k => impl_hyper.l0 k a b ks (ks.length : Int) (i : Int) (3 * b) (edgesV a b (ks.take i))) (3 * b, edgesV a b ks) from h ks.length 0 (by omega)
  intro d
  induction d with
  | zero =>
    intro i hi
    refine Ev.succ ?_
    have h1 : ¬ ((i : Int) < (ks.length : Int)) := by omega
    simp only [impl_hyper.l0, h1, ↓reduceIte]
    exact Ev.some_ (by rw [List.take_of_length_le (by omega)])
  | succ d ih =>
    intro i hi
    refine Ev.succ ?_
    have h0 : i < ks.length := by omega
    have h1 : (i : Int) < (ks.length : Int) := by omega
    have h2 : (0 : Int) ≤ (i : Int) := by omega
    have hw : wrap64 ((i : Int) + 1) = ((i + 1 : Nat) : Int) := by rw [w64 (by omega) (by omega)]; rfl
    have h3 : (edgesV a b (ks.take i)).length < 5864062014805 := by rw [edgesV_length, List.length_take]; omega
    simp only [impl_hyper.l0, h1, h2, ↓reduceIte, hw, rdOf_nat ByteArray.empty ks i h0]
    refine Ev.bind (impl_threePlaces_ev a b _ (hs _ (List.getElem_mem h0)) ha0 ha1 (by omega) (by omega)) ?_
    simp only [h3, ↓reduceIte]
    rw [← edgesV_snoc a b ks i h0]
    exact ih (i + 1) (by omega)
def peeledK (a b : Int) (ks : List ByteArray) : List (Int × Int) × List Nat := peeledV (3 * b).toNat (edgesV a b ks)
def peelsV (a : Int) (ks : List ByteArray) (b : Int) : Bool := ((natsI (peeledK a b ks).2).length : Int) == 0
theorem spec_pePeels_ev (a b : Int) (ks : List ByteArray) (hk : ks.length ≤ 1000) (hs : ∀ s ∈ ks, s.size ≤ 9223372036854775807) (ha0 : 0 ≤ a) (ha1 : a ≤ 9999) (hb0 : 1 ≤ b) (hb1 : b ≤ 24) : Ev (fun k => spec_pePeels.f k a ks b) (peelsV a ks b) := by
  unfold spec_pePeels.f
  refine Ev.bind (spec_peHyper_ev a b ks hk hs ha0 ha1 hb0 hb1) ?_
  have e := spec_pePeel_ev (edgesV_good (a := a) hb0 hb1 hk)
  rw [show (((3 * b).toNat : Nat) : Int) = 3 * b from by omega] at e
  unfold spec_peCore.f
  refine Ev.bind (Ev.bind e (Ev.now _)) ?_
  exact Ev.now _
theorem impl_order_ev (a b : Int) (ks : List ByteArray) (hk : ks.length ≤ 1000) (hb0 : 1 ≤ b) (hb1 : b ≤ 24) : Ev (fun k => impl_Hyper_order_in59_0.f k (3 * b) (edgesV a b ks)) (stepsS (peeledK a b ks).1, peelsV a ks b) := by
  have e := impl_peel_ev (edgesV_good (a := a) hb0 hb1 hk)
  rw [show (((3 * b).toNat : Nat) : Int) = 3 * b from by omega] at e
  unfold impl_Hyper_order_in59_0.f
  refine Ev.bind e ?_
  exact Ev.now _
def keyedH (a : Int) (ks : List ByteArray) (b : Int) : Bool := decide ((0 ≤ a ∧ a ≤ 9999) ∧ 1 ≤ b ∧ b ≤ 24) && areKeys ks
theorem spec_peKeyed_ev (a b : Int) (ks : List ByteArray) (hk : ks.length ≤ 9223372036854775807) (hs : ∀ s ∈ ks, s.size ≤ 9223372036854775807) : Ev (fun k => spec_peKeyed.f k a ks b) (keyedH a ks b) := by
  unfold spec_peKeyed.f keyedH
  simp only [spec_l1In_eq, Option.bind_some]
  by_cases c : 0 ≤ a ∧ a ≤ 9999
  · simp only [c, and_self, decide_true, ↓reduceIte, true_and]
    refine Ev.bind (spec_biKeys_ev ks hk hs) ?_
    cases areKeys ks with
    | false => simp only [Bool.false_eq_true, ↓reduceIte, Bool.and_false]; exact Ev.now _
    | true => simp only [↓reduceIte, Bool.and_true]; exact Ev.now _
  · simp only [c, decide_false, Bool.false_eq_true, ↓reduceIte, false_and, Bool.false_and]
    exact Ev.now _
theorem keyedH_of {a b : Int} {ks : List ByteArray} (h : keyedH a ks b = true) : (0 ≤ a ∧ a ≤ 9999) ∧ (1 ≤ b ∧ b ≤ 24) ∧ areKeys ks = true := by
  unfold keyedH at h
  simp only [Bool.and_eq_true, decide_eq_true_eq] at h
  exact ⟨h.1.1, h.1.2, h.2⟩
theorem bump_same {o : List Int} {p : Int} (h0 : 0 ≤ p) (h1 : p < (o.length : Int)) : rd (bump o p) p = wrap64 (rd o p + 1) := by
  unfold bump
  generalize wrap64 (rd o p + 1) = v
  unfold rd
  rw [List.getD_eq_getElem?_getD, List.getElem?_set_self (by omega)]
  rfl
theorem bumps_count {q : Int} (hq : 0 ≤ q) (ps : List Int) : ∀ o : List Int, q < (o.length : Int) → (∀ p ∈ ps, 0 ≤ p) → 0 ≤ rd o q → rd o q + (ps.length : Int) ≤ 1000000000000 → rd (ps.foldl bump o) q = rd o q + (ps.count q : Int) := by
  induction ps with
  | nil => intro o _ _ _ _; simp
  | cons p ps ih =>
    intro o h1 h2 h3 h4
    rw [List.foldl_cons, List.count_cons]
    rw [List.length_cons] at h4
    by_cases c : p = q
    · subst c
      have e := bump_same hq h1
      rw [w64 (by omega) (by omega)] at e
      rw [ih _ (by rw [bump_length]; exact h1) (fun x hx => h2 x (by simp [hx])) (by omega) (by omega), e]
      simp
      omega
    · have e := bump_other (o := o) (h2 p (by simp)) hq (fun e => c e.symm)
      rw [ih _ (by rw [bump_length]; exact h1) (fun x hx => h2 x (by simp [hx])) (by omega) (by omega), e]
      simp [c]
theorem degs_count {q : Int} (hq : 0 ≤ q) (es : List (List Int)) (l : List Nat) : ∀ o : List Int, q < (o.length : Int) → (∀ i ∈ l, (rowE es i).length ≤ 1000 ∧ ∀ p ∈ rowE es i, 0 ≤ p) → 0 ≤ rd o q → rd o q + 1000 * (l.length : Int) ≤ 1000000000000 → rd (l.foldl (degStep es) o) q = rd o q + ((l.map fun i => (rowE es i).count q).sum : Int) := by
  induction l with
  | nil => intro o _ _ _ _; simp
  | cons i l ih =>
    intro o h1 h2 h3 h4
    rw [List.foldl_cons, List.map_cons, List.sum_cons]
    rw [List.length_cons] at h4
    have h5 := h2 i (by simp)
    have e : rd (degStep es o i) q = rd o q + ((rowE es i).count q : Int) := bumps_count hq (rowE es i) o h1 h5.2 h3 (by omega)
    have h6 : ((rowE es i).count q : Int) ≤ 1000 := by have := List.count_le_length (a := q) (l := rowE es i); omega
    rw [ih _ (by unfold degStep; rw [bumps_length]; exact h1) (fun x hx => h2 x (by simp [hx])) (by omega) (by omega), e]
    omega
theorem sum_two (f : Nat → Nat) (l : List Nat) {i j : Nat} (hi : i ∈ l) (hj : j ∈ l) (hij : i ≠ j) : f i + f j ≤ (l.map f).sum := by
  have one : ∀ (m : List Nat) (x : Nat), x ∈ m → f x ≤ (m.map f).sum := by
    intro m
    induction m with
    | nil => intro x hx; cases hx
    | cons y m ih =>
      intro x hx
      rw [List.map_cons, List.sum_cons]
      rcases List.mem_cons.1 hx with rfl | hx
      · omega
      · have := ih x hx; omega
  induction l with
  | nil => cases hi
  | cons y l ih =>
    rw [List.map_cons, List.sum_cons]
    rcases List.mem_cons.1 hi with rfl | hi'
    · rcases List.mem_cons.1 hj with rfl | hj'
      · exact absurd rfl hij
      · have := one l j hj'; omega
    · rcases List.mem_cons.1 hj with rfl | hj'
      · have := one l i hi'; omega
      · have := ih hi' hj'; omega
/-- What holds of the steps that were made and the edges that are left. -/
structure PeelInv (n : Nat) (es : List (List Int)) (l : List Nat) (st : List (Int × Int)) : Prop where
  steps : ∀ q ∈ st, ∃ i : Nat, q.1 = (i : Int) ∧ i < es.length ∧ q.2 ∈ rowE es i ∧ ∀ j ∈ l, q.2 ∉ rowE es j
  apart : (st.map Prod.snd).Nodup
  many : st.length + l.length ≤ es.length
theorem peel_inv {n : Nat} {es : List (List Int)} (hn : n ≤ 1000) (he : es.length ≤ 1000) (hes : ∀ i : Nat, i < es.length → (rowE es i).length ≤ 1000 ∧ ∀ p ∈ rowE es i, 0 ≤ p ∧ p < (n : Int)) (f : Nat) : ∀ (l : List Nat) (st : List (Int × Int)), (∀ i ∈ l, i < es.length) → PeelInv n es l st → PeelInv n es (peelV n es f l st).2 (peelV n es f l st).1 := by
  induction f with
  | zero => exact fun l st _ h => h
  | succ f ih =>
    intro l st hm h
    unfold peelV
    cases e : onesV (degOf n es l) with
    | nil => exact h
    | cons p ps =>
      have hpos : ∀ i ∈ l, ∀ p ∈ rowE es i, 0 ≤ p := fun i hi q hq => ((hes i (hm i hi)).2 q hq).1
      obtain ⟨i, hi, hil, hip⟩ := find_some e hpos
      obtain ⟨h0, h1, h2⟩ := onesV_mem (show p ∈ onesV (degOf n es l) by rw [e]; simp)
      simp only [hi]
      have hll : l.length ≤ es.length := by have := h.many; omega
      have hdeg : rd (degOf n es l) p = ((l.map fun i => (rowE es i).count p).sum : Int) := by
        unfold degOf
        rw [degs_count h0 es l _ (by rw [List.length_replicate]; rw [degOf_length] at h1; exact h1) (fun i hi => ⟨(hes i (hm i hi)).1, hpos i hi⟩) (by rw [rd_zeros]; omega) (by rw [rd_zeros]; omega), rd_zeros]
        omega
      have hno : ∀ j ∈ l, j ≠ i → p ∉ rowE es j := by
        intro j hj hji hp
        have h3 : (rowE es j).count p + (rowE es i).count p ≤ (l.map fun i => (rowE es i).count p).sum := sum_two (fun i => (rowE es i).count p) l hj hil hji
        have h4 : 0 < (rowE es i).count p := List.count_pos_iff.2 hip
        have h5 : 0 < (rowE es j).count p := List.count_pos_iff.2 hp
        omega
      refine ih _ _ (fun j hj => hm j (List.mem_filter.1 hj).1) ⟨?_, ?_, ?_⟩
      · intro q hq
        rcases List.mem_append.1 hq with hq | hq
        · obtain ⟨a, a1, a2, a3, a4⟩ := h.steps q hq
          exact ⟨a, a1, a2, a3, fun j hj => a4 j (List.mem_filter.1 hj).1⟩
        · rw [List.mem_singleton] at hq
          subst hq
          refine ⟨i, rfl, hm i hil, hip, fun j hj => ?_⟩
          rw [List.mem_filter, decide_eq_true_eq] at hj
          exact hno j hj.1 hj.2
      · rw [List.map_append, List.nodup_append]
        refine ⟨h.apart, by simp, ?_⟩
        intro a ha b hb
        rw [List.map_cons, List.map_nil, List.mem_singleton] at hb
        subst hb
        obtain ⟨q, hq, rfl⟩ := List.mem_map.1 ha
        obtain ⟨_, _, _, _, a4⟩ := h.steps q hq
        exact fun e => a4 i hil (e ▸ hip)
      · have := filter_shorter hil
        have := h.many
        rw [List.length_append, List.length_singleton]
        omega
theorem peel_facts {n : Nat} {es : List (List Int)} (hn : n ≤ 1000) (he : es.length ≤ 1000) (hes : ∀ i : Nat, i < es.length → (rowE es i).length ≤ 1000 ∧ ∀ p ∈ rowE es i, 0 ≤ p ∧ p < (n : Int)) : PeelInv n es (peelV n es (es.length + 1) (List.range es.length) []).2 (peelV n es (es.length + 1) (List.range es.length) []).1 :=
  peel_inv hn he hes _ _ _ (fun i hi => List.mem_range.1 hi) ⟨by simp, by simp, by simp⟩
/-- Places that are all different, written from the last step to the first: each is written once. -/
theorem set_same {c : List Int} {i : Nat} (h : i < c.length) (v : Int) (e : rd c (i : Int) = v) : c.set i v = c := by
  rw [rd_nat c i h] at e
  apply List.ext_getElem (by simp)
  intro j h1 h2
  rw [List.getElem_set]
  split
  · rename_i hj
    subst hj
    exact e.symm
  · rfl
theorem set_set_ (c : List Int) (i : Nat) (u v : Int) : (c.set i u).set i v = c.set i v := List.set_set ..
theorem rd_set_ne {c : List Int} {p q : Int} (hp : 0 ≤ p) (hq : 0 ≤ q) (h : q ≠ p) (v : Int) : rd (c.set p.toNat v) q = rd c q := by
  unfold rd
  rw [List.getD_eq_getElem?_getD, List.getD_eq_getElem?_getD, List.getElem?_set_ne (by omega)]
theorem tripleV_form (a b : Int) (s : ByteArray) : ∃ x y z, tripleV a b s 3 = [x, y, z] := ⟨_, _, _, tripleV_three a b s⟩
/-- What is asked of each step. -/
structure StepOk (n : Nat) (ks : List ByteArray) (a b : Int) (q : Int × Int) (i : Nat) : Prop where
  edge : q.1 = (i : Int)
  lt : i < ks.length
  p0 : 0 ≤ q.2
  p1 : q.2 < (n : Int)
  mem : q.2 ∈ tripleV a b (ks[i]'lt) 3
theorem steps_facts {a b : Int} {ks : List ByteArray} (hb0 : 1 ≤ b) (hb1 : b ≤ 24) (hk : ks.length ≤ 1000) : (∀ q ∈ (peeledK a b ks).1, ∃ i, StepOk (3 * b).toNat ks a b q i) ∧ ((peeledK a b ks).1.map Prod.snd).Nodup ∧ (peeledK a b ks).1.length ≤ ks.length := by
  have hg := edgesV_good (a := a) hb0 hb1 hk
  have h := peel_facts hg.1 hg.2.1 hg.2.2
  refine ⟨fun q hq => ?_, h.apart, ?_⟩
  · obtain ⟨i, h1, h2, h3, _⟩ := h.steps q hq
    have h4 := (hg.2.2 i h2).2 q.2 h3
    have h2' := h2
    rw [edgesV_length] at h2
    exact ⟨i, h1, h2, h4.1, h4.2, by rw [← edgesV_row a b ks i h2]; exact h3⟩
  · have h5 : (peeledK a b ks).1.length + (peeledK a b ks).2.length ≤ (edgesV a b ks).length := h.many
    rw [edgesV_length] at h5
    omega
theorem impl_segmentOk_eq (a : Int) : impl_segmentOk.f a = some (decide (1 ≤ a ∧ a ≤ 24)) := by
  simp only [impl_segmentOk.f, impl_in_eq, Option.bind_some]
theorem impl_isSeed_eq (a : Int) : impl_isSeed.f a = some (decide (0 ≤ a ∧ a ≤ 9999)) := by
  simp only [impl_isSeed.f, impl_in_eq, Option.bind_some]
theorem laws_eqStringS_self (l : List ByteArray) (hl : l.length ≤ 9223372036854775807) : Ev (fun k => laws_eqStringS.f k l l) true := by
  unfold laws_eqStringS.f
  simp only [↓reduceIte]
  refine Ev.up (L := fun k i => laws_eqStringS.l0 k l l (i : Int)) (r := fun _ => true) l.length ?_ ?_ 0 (Nat.zero_le _)
  · refine Ev.succ ?_
    have h1 : ¬ ((l.length : Int) < (l.length : Int)) := by omega
    simp only [laws_eqStringS.l0, h1, ↓reduceIte]
    exact Ev.now _
  · intro i hi ih
    refine Ev.succ ?_
    have h1 : (i : Int) < (l.length : Int) := by omega
    have h2 : (0 : Int) ≤ (i : Int) := by omega
    have hw : wrap64 ((i : Int) + 1) = ((i + 1 : Nat) : Int) := by rw [w64 (by omega) (by omega)]; rfl
    simp only [laws_eqStringS.l0, h1, h2, ↓reduceIte, hw]
    exact ih
theorem laws_toStringS_l0 (l : List ByteArray) (hl : l.length ≤ 9223372036854775807) (d : Nat) : ∀ (i : Nat) (o : List ByteArray), o.length = l.length → o.take i = l.take i → i + d = l.length → Ev (fun k => laws_toStringS.l0 k l o (i : Int)) l := by
  induction d with
  | zero =>
    intro i o ho ht hi
    refine Ev.succ ?_
    have h1 : ¬ ((i : Int) < (l.length : Int)) := by omega
    simp only [laws_toStringS.l0, h1, ↓reduceIte]
    rw [List.take_of_length_le (by omega), List.take_of_length_le (by omega)] at ht
    exact Ev.some_ ht
  | succ d ih =>
    intro i o ho ht hi
    refine Ev.succ ?_
    have h1 : (i : Int) < (l.length : Int) := by omega
    have h2 : (0 : Int) ≤ (i : Int) := by omega
    have h3 : (i : Int) < (o.length : Int) := by omega
    have hw : wrap64 ((i : Int) + 1) = ((i + 1 : Nat) : Int) := by rw [w64 (by omega) (by omega)]; rfl
    simp only [laws_toStringS.l0, h1, h2, h3, ↓reduceIte, hw, Int.toNat_natCast]
    exact ih (i + 1) _ (by simp [ho]) (by rw [take_set_succ _ _ _ (by omega), ht, rdOf_nat _ _ _ (by omega), List.take_succ_eq_append_getElem (by omega)]) (by omega)
theorem laws_toStringS_ev (l : List ByteArray) (hl : l.length ≤ 17592186044416) : Ev (fun k => laws_toStringS.f k l) l := by
  have h1 : 0 ≤ (l.length : Int) := by omega
  have h2 : ((l.length : Int)).toNat ≤ 17592186044416 := by omega
  simp only [laws_toStringS.f, h1, h2, ↓reduceIte]
  exact laws_toStringS_l0 l (by omega) l.length 0 _ (by simp) (by simp) (by omega)
def szT : List ByteArray → Int → Int
  | [], m => m
  | s :: r, m => if m - (s.size : Int) < 0 then -1 else szT r (m - (s.size : Int))
theorem szT_le (l : List ByteArray) : ∀ m : Int, 0 ≤ m → szT l m ≤ m := by
  induction l with
  | nil => intro m h; exact Int.le_refl m
  | cons s r ih =>
    intro m h
    unfold szT
    by_cases c : m - (s.size : Int) < 0
    · rw [if_pos c]; omega
    · rw [if_neg c]
      have := ih (m - (s.size : Int)) (by omega)
      omega
theorem szT_sizes (l : List ByteArray) : ∀ m : Int, 0 ≤ szT l m → ∀ s ∈ l, (s.size : Int) ≤ m := by
  induction l with
  | nil => intro m h s hs; cases hs
  | cons x r ih =>
    intro m h s hs
    unfold szT at h
    by_cases c : m - (x.size : Int) < 0
    · rw [if_pos c] at h; omega
    · rw [if_neg c] at h
      rcases List.mem_cons.1 hs with rfl | hs
      · omega
      · have := ih _ h s hs
        omega
theorem laws_szStringS_l0 (l : List ByteArray) (hl : l.length ≤ 9223372036854775807) (hs : ∀ s ∈ l, s.size ≤ 9223372036854775807) (d : Nat) : ∀ (i : Nat) (m : Int), i + d = l.length → 0 ≤ m → m ≤ 1048576 → Ev (fun k => laws_szStringS.l0 k l m (i : Int)) (szT (l.drop i) m) := by
  induction d with
  | zero =>
    intro i m hi m0 m1
    refine Ev.succ ?_
    have h1 : ¬ ((i : Int) < (l.length : Int)) := by omega
    simp only [laws_szStringS.l0, h1, ↓reduceIte]
    exact Ev.some_ (by rw [List.drop_eq_nil_of_le (by omega)]; rfl)
  | succ d ih =>
    intro i m hi m0 m1
    refine Ev.succ ?_
    have h0 : i < l.length := by omega
    have h1 : (i : Int) < (l.length : Int) := by omega
    have h2 : (0 : Int) ≤ (i : Int) := by omega
    have hw : wrap64 ((i : Int) + 1) = ((i + 1 : Nat) : Int) := by rw [w64 (by omega) (by omega)]; rfl
    have hz := hs _ (List.getElem_mem h0)
    have hw2 : wrap64 (m - ((l[i]).size : Int)) = m - ((l[i]).size : Int) := w64 (by omega) (by omega)
    rw [drop_cons l i h0]
    simp only [laws_szStringS.l0, h1, h2, ↓reduceIte, hw, rdOf_nat ByteArray.empty l i h0, hw2, szT]
    by_cases c : m - ((l[i]).size : Int) < 0
    · simp only [c, ↓reduceIte]; exact Ev.now _
    · simp only [c, ↓reduceIte]
      exact ih (i + 1) _ (by omega) (by omega) (by omega)
def szTexts (l : List ByteArray) (m : Int) : Int := if m - (l.length : Int) < 0 then -1 else szT l (m - (l.length : Int))
theorem laws_szStringS_ev (l : List ByteArray) (m : Int) (hl : l.length ≤ 9223372036854775807) (hs : ∀ s ∈ l, s.size ≤ 9223372036854775807) (m0 : 0 ≤ m) (m1 : m ≤ 1048576) : Ev (fun k => laws_szStringS.f k l m) (szTexts l m) := by
  unfold laws_szStringS.f szTexts
  rw [w64 (n := m - (l.length : Int)) (by omega) (by omega)]
  by_cases c : m - (l.length : Int) < 0
  · simp only [c, ↓reduceIte]; exact Ev.now _
  · simp only [c, ↓reduceIte]
    exact laws_szStringS_l0 l hl hs l.length 0 _ (by omega) (by omega) (by omega)
theorem szTexts_of {l : List ByteArray} {m : Int} (h : ¬ szTexts l m < 0) : (l.length : Int) ≤ m ∧ szTexts l m ≤ m ∧ 0 ≤ szTexts l m := by
  have e : szTexts l m = if m - (l.length : Int) < 0 then -1 else szT l (m - (l.length : Int)) := rfl
  by_cases c : m - (l.length : Int) < 0
  · rw [if_pos c] at e; omega
  · rw [if_neg c] at e
    have := szT_le l (m - (l.length : Int)) (by omega)
    omega
theorem strOfNums_one (x : Int) : (strOfNums [x]).size = 1 := by
  simp [strOfNums, ByteArray.size]
theorem laws_markText_l0 (f : Nat) : ∀ (n : Int) (acc : ByteArray), 0 ≤ n → n < 2 ^ f → n ≤ 4611686018427387904 → acc.size + f ≤ 1000 → ∃ r, Ev (fun k => laws_markText.l0 k n acc) r := by
  induction f with
  | zero =>
    intro n acc h0 h1 hn hs
    refine ⟨(⟨#[109]⟩ : ByteArray) ++ acc, Ev.succ ?_⟩
    have c1 : ¬ (n > 0) := by simp at h1; omega
    have c2 : 1 + acc.size ≤ 9223372036854775807 := by omega
    simp only [laws_markText.l0, c1, c2, ↓reduceIte]
    exact Ev.now _
  | succ f ih =>
    intro n acc h0 h1 hn hs
    by_cases c1 : n > 0
    · have e2 : (2 : Int) ^ (f + 1) = 2 * 2 ^ f := by rw [Int.pow_succ, Int.mul_comm]
      have e : wrap64 (Int.tdiv n 10) = n / 10 := by rw [tdiv_pos h0, w64 (by omega) (by omega)]
      have e3 := strOfNums_one ((wrap64 (48 + (Int.tmod n 10))) % 256)
      obtain ⟨r, hr⟩ := ih (n / 10) (strOfNums [(wrap64 (48 + (Int.tmod n 10))) % 256] ++ acc) (by omega) (by omega) (by omega) (by rw [ByteArray.size_append, e3]; omega)
      refine ⟨r, Ev.succ ?_⟩
      have c3 : (strOfNums [(wrap64 (48 + (Int.tmod n 10))) % 256]).size + acc.size ≤ 9223372036854775807 := by rw [e3]; omega
      simp only [laws_markText.l0, c1, ↓reduceIte, Option.bind_some, c3, e]
      exact hr
    · refine ⟨(⟨#[109]⟩ : ByteArray) ++ acc, Ev.succ ?_⟩
      have c2 : 1 + acc.size ≤ 9223372036854775807 := by omega
      simp only [laws_markText.l0, c1, c2, ↓reduceIte]
      exact Ev.now _
theorem laws_markText_some (n : Int) (h0 : 0 ≤ n) (hn : n ≤ 4611686018427387904) : ∃ r, Ev (fun k => laws_markText.f k n) r := by
  unfold laws_markText.f
  by_cases c : n ≤ 0
  · simp only [c, ↓reduceIte]
    exact ⟨_, Ev.now _⟩
  · simp only [c, ↓reduceIte]
    exact laws_markText_l0 63 n ⟨#[]⟩ h0 (by omega) hn (by decide)
theorem laws_markText_fn : ∃ f : Int → ByteArray, ∀ n : Int, 0 ≤ n → n ≤ 4611686018427387904 → Ev (fun k => laws_markText.f k n) (f n) :=
  ⟨fun n => if h : 0 ≤ n ∧ n ≤ 4611686018427387904 then Classical.choose (laws_markText_some n h.1 h.2) else ⟨#[]⟩, fun n h0 hn => by
    have e : (if h : 0 ≤ n ∧ n ≤ 4611686018427387904 then Classical.choose (laws_markText_some n h.1 h.2) else (⟨#[]⟩ : ByteArray)) = Classical.choose (laws_markText_some n h0 hn) := dif_pos ⟨h0, hn⟩
    show Ev _ (if h : 0 ≤ n ∧ n ≤ 4611686018427387904 then Classical.choose (laws_markText_some n h.1 h.2) else (⟨#[]⟩ : ByteArray))
    rw [e]
    exact Classical.choose_spec (laws_markText_some n h0 hn)⟩
theorem laws_markStringS_l0 (f : Int → ByteArray) (hf : ∀ n : Int, 0 ≤ n → n ≤ 4611686018427387904 → Ev (fun k => laws_markText.f k n) (f n)) (m : Int) (n : Nat) (h0 : 0 ≤ m) (hm : m + n ≤ 4611686018427387904) (d : Nat) : ∀ (i : Nat) (l : List ByteArray), l.length = n → l.take i = marksOf f m i → i + d = n → Ev (fun k => laws_markStringS.l0 k l (m + i) (i : Int)) (m + n, marksOf f m n) := by
  induction d with
  | zero =>
    intro i l hl ht hi
    obtain rfl : i = n := by omega
    refine Ev.succ ?_
    have h1 : ¬ ((i : Int) < (l.length : Int)) := by omega
    simp only [laws_markStringS.l0, h1, ↓reduceIte]
    rw [List.take_of_length_le (by omega)] at ht
    exact Ev.some_ (by rw [ht])
  | succ d ih =>
    intro i l hl ht hi
    refine Ev.succ ?_
    have h1 : (i : Int) < (l.length : Int) := by omega
    have h2 : (0 : Int) ≤ (i : Int) := by omega
    have hw : wrap64 ((i : Int) + 1) = ((i + 1 : Nat) : Int) := by rw [w64 (by omega) (by omega)]; rfl
    have hw2 : wrap64 (m + (i : Int) + 1) = m + ((i + 1 : Nat) : Int) := by rw [w64 (by omega) (by omega)]; omega
    simp only [laws_markStringS.l0, h1, h2, ↓reduceIte, hw, hw2, Int.toNat_natCast]
    refine Ev.bind (hf (m + i) (by omega) (by omega)) ?_
    exact ih (i + 1) (l.set i (f (m + i))) (by simp [hl]) (by rw [take_set_succ _ _ _ (by omega), ht, marksOf_succ]) (by omega)
theorem laws_markStringS_ev (f : Int → ByteArray) (hf : ∀ n : Int, 0 ≤ n → n ≤ 4611686018427387904 → Ev (fun k => laws_markText.f k n) (f n)) (l : List ByteArray) (m : Int) (h0 : 0 ≤ m) (hm : m + l.length ≤ 4611686018427387904) : Ev (fun k => laws_markStringS.f k l m) (m + l.length, marksOf f m l.length) := by
  have h := laws_markStringS_l0 f hf m l.length h0 hm l.length 0 l rfl (by simp [marksOf]) (by omega)
  simpa [laws_markStringS.f] using h
theorem laws_eqIntS_self (l : List Int) (hl : l.length ≤ 9223372036854775807) : Ev (fun k => laws_eqIntS.f k l l) true := by
  unfold laws_eqIntS.f
  simp only [↓reduceIte]
  refine Ev.up (L := fun k i => laws_eqIntS.l0 k l l (i : Int)) (r := fun _ => true) l.length ?_ ?_ 0 (Nat.zero_le _)
  · refine Ev.succ ?_
    have h1 : ¬ ((l.length : Int) < (l.length : Int)) := by omega
    simp only [laws_eqIntS.l0, h1, ↓reduceIte]
    exact Ev.now _
  · intro i hi ih
    refine Ev.succ ?_
    have h1 : (i : Int) < (l.length : Int) := by omega
    have h2 : (0 : Int) ≤ (i : Int) := by omega
    have hw : wrap64 ((i : Int) + 1) = ((i + 1 : Nat) : Int) := by rw [w64 (by omega) (by omega)]; rfl
    simp only [laws_eqIntS.l0, h1, h2, ↓reduceIte, hw]
    exact ih
theorem laws_markIntS_l0 (m : Int) (n : Nat) (h0 : 0 ≤ m) (hm : m + n ≤ 4611686018427387904) (d : Nat) : ∀ (i : Nat) (l : List Int), l.length = n → l.take i = marks m i → i + d = n → Ev (fun k => laws_markIntS.l0 k l (m + i) (i : Int)) (m + n, marks m n) := by
  induction d with
  | zero =>
    intro i l hl ht hi
    obtain rfl : i = n := by omega
    refine Ev.succ ?_
    have h1 : ¬ ((i : Int) < (l.length : Int)) := by omega
    simp only [laws_markIntS.l0, h1, ↓reduceIte]
    rw [List.take_of_length_le (by omega)] at ht
    exact Ev.some_ (by rw [ht])
  | succ d ih =>
    intro i l hl ht hi
    refine Ev.succ ?_
    have h1 : (i : Int) < (l.length : Int) := by omega
    have h2 : (0 : Int) ≤ (i : Int) := by omega
    have hw : wrap64 ((i : Int) + 1) = ((i + 1 : Nat) : Int) := by rw [w64 (by omega) (by omega)]; rfl
    have hw2 : wrap64 (m + (i : Int) + 1) = m + ((i + 1 : Nat) : Int) := by rw [w64 (by omega) (by omega)]; omega
    simp only [laws_markIntS.l0, h1, h2, ↓reduceIte, hw, hw2, Int.toNat_natCast]
    exact ih (i + 1) (l.set i (m + i)) (by simp [hl]) (by rw [take_set_succ _ _ _ (by omega), ht, marks_succ]) (by omega)
theorem laws_markIntS_ev (l : List Int) (m : Int) (h0 : 0 ≤ m) (hm : m + l.length ≤ 4611686018427387904) : Ev (fun k => laws_markIntS.f k l m) (m + l.length, marks m l.length) := by
  have h := laws_markIntS_l0 m l.length h0 hm l.length 0 l rfl (by simp [marks]) (by omega)
  simpa [laws_markIntS.f] using h
theorem laws_heldIntS_ev (m : Int) (n : Nat) (h0 : 0 ≤ m) (hm : m + n ≤ 4611686018427387904) : Ev (fun k => laws_heldIntS.f k (marks m n) m) (m + n) := by
  have h := Ev.up (L := fun k i => laws_heldIntS.l0 k (marks m n) (m + (i : Int)) (i : Int)) (r := fun _ => m + n) n ?_ ?_ 0 (Nat.zero_le _)
  · simpa [laws_heldIntS.f] using h
  · refine Ev.succ ?_
    have h1 : ¬ ((n : Int) < ((marks m n).length : Int)) := by rw [marks_length]; omega
    simp only [laws_heldIntS.l0, h1, ↓reduceIte]
    exact Ev.now _
  · intro i hi ih
    refine Ev.succ ?_
    have h1 : (i : Int) < ((marks m n).length : Int) := by rw [marks_length]; omega
    have h2 : (0 : Int) ≤ (i : Int) := by omega
    have h3 : rd (marks m n) (i : Int) = m + i := by rw [rd_nat _ _ (by rw [marks_length]; exact hi)]; simp [marks]
    have hw : wrap64 ((i : Int) + 1) = ((i + 1 : Nat) : Int) := by rw [w64 (by omega) (by omega)]; rfl
    have hw2 : wrap64 (m + (i : Int) + 1) = m + ((i + 1 : Nat) : Int) := by rw [w64 (by omega) (by omega)]; omega
    simp only [laws_heldIntS.l0, h1, h2, h3, ↓reduceIte, hw, hw2]
    exact ih

/-- The marks stay between 0 and 3. -/
def mk3 (c : List Int) : Prop := ∀ i : Int, 0 ≤ rd c i ∧ rd c i ≤ 3
theorem rd_three {n : Nat} {i : Int} (h0 : 0 ≤ i) (h1 : i < (n : Int)) : rd (List.replicate n 3) i = 3 := by
  unfold rd
  rw [List.getD_eq_getElem?_getD, List.getElem?_replicate, if_pos (by omega)]
  rfl
theorem mk3_three (n : Nat) : mk3 (List.replicate n 3) := by
  intro i
  unfold rd
  rw [List.getD_eq_getElem?_getD, List.getElem?_replicate]
  split
  · exact ⟨by decide, by decide⟩
  · exact ⟨by decide, by decide⟩
theorem rd_set_eq (c : List Int) (p q v : Int) (hp : 0 ≤ p) (hq : 0 ≤ q) (h : p < (c.length : Int)) : rd (c.set p.toNat v) q = if q = p then v else rd c q := by
  by_cases e : q = p
  · subst e
    unfold rd
    rw [if_pos rfl, List.getD_eq_getElem?_getD, List.getElem?_set_self (by omega)]
    rfl
  · rw [if_neg e]
    exact rd_set_ne hp hq e v
theorem mk3_set {c : List Int} (h : mk3 c) (j : Nat) (v : Int) (h0 : 0 ≤ v) (h1 : v ≤ 3) : mk3 (c.set j v) := by
  intro i
  by_cases e : i.toNat = j
  · by_cases e2 : j < c.length
    · unfold rd
      rw [List.getD_eq_getElem?_getD, e, List.getElem?_set_self e2]
      exact ⟨h0, h1⟩
    · rw [List.set_eq_of_length_le (by omega)]
      exact h i
  · unfold rd
    rw [List.getD_eq_getElem?_getD, List.getElem?_set_ne (by omega), ← List.getD_eq_getElem?_getD]
    exact h i
def sumC (c : List Int) (e : List Int) : Int := rd c (rd e 0) + rd c (rd e 1) + rd c (rd e 2)
theorem pfSum_three (c : List Int) (x y z : Int) (h : mk3 c) (hx : 0 ≤ x ∧ x < (c.length : Int)) (hy : 0 ≤ y ∧ y < (c.length : Int)) (hz : 0 ≤ z ∧ z < (c.length : Int)) : Ev (fun k => spec_pfSum.f k c [x, y, z]) (sumC c [x, y, z]) := by
  have m0 := h x
  have m1 := h y
  have m2 := h z
  have w0 : wrap64 (0 + rd c x) = rd c x := by rw [w64 (by omega) (by omega), Int.zero_add]
  have w1 : wrap64 (rd c x + rd c y) = rd c x + rd c y := w64 (by omega) (by omega)
  have w2 : wrap64 (rd c x + rd c y + rd c z) = rd c x + rd c y + rd c z := w64 (by omega) (by omega)
  have i1 : wrap64 (0 + 1) = 1 := w64 (n := 0 + 1) (by decide) (by decide)
  have i2 : wrap64 (1 + 1) = 2 := w64 (n := 1 + 1) (by decide) (by decide)
  have i3 : wrap64 (2 + 1) = 3 := w64 (n := 2 + 1) (by decide) (by decide)
  have r0 : rd [x, y, z] 0 = x := rfl
  have r1 : rd [x, y, z] 1 = y := rfl
  have r2 : rd [x, y, z] 2 = z := rfl
  have e : (([x, y, z] : List Int).length : Int) = 3 := rfl
  unfold sumC spec_pfSum.f
  rw [r0, r1, r2, e]
  refine Ev.succ ?_
  simp only [spec_pfSum.l0, e, r0, hx.1, hx.2, w0, i1, ↓reduceIte, show (0 : Int) < 3 from by decide, show (0 : Int) ≤ 0 from by decide]
  refine Ev.succ ?_
  simp only [spec_pfSum.l0, e, r1, hy.1, hy.2, w1, i2, ↓reduceIte, show (1 : Int) < 3 from by decide, show (0 : Int) ≤ 1 from by decide]
  refine Ev.succ ?_
  simp only [spec_pfSum.l0, e, r2, hz.1, hz.2, w2, i3, ↓reduceIte, show (2 : Int) < 3 from by decide, show (0 : Int) ≤ 2 from by decide]
  refine Ev.succ ?_
  simp only [spec_pfSum.l0, ↓reduceIte, show ¬ ((3 : Int) < 3) from by decide]
  exact Ev.now _
theorem pfIndex_three (x y z p : Int) (hm : p ∈ [x, y, z]) : Ev (fun k => spec_pfIndex.f k [x, y, z] p) (ixT [x, y, z] p) := by
  have i1 : wrap64 (0 + 1) = 1 := w64 (n := 0 + 1) (by decide) (by decide)
  have i2 : wrap64 (1 + 1) = 2 := w64 (n := 1 + 1) (by decide) (by decide)
  have r0 : rd [x, y, z] 0 = x := rfl
  have r1 : rd [x, y, z] 1 = y := rfl
  have r2 : rd [x, y, z] 2 = z := rfl
  have e : (([x, y, z] : List Int).length : Int) = 3 := rfl
  unfold ixT spec_pfIndex.f
  rw [r0, r1, r2, e]
  refine Ev.succ ?_
  by_cases c0 : x = p
  · subst c0
    simp only [spec_pfIndex.l0, e, r0, ↓reduceIte, show (0 : Int) < 3 from by decide, show (0 : Int) ≤ 0 from by decide]
    exact Ev.now _
  have c0' : ¬ p = x := fun h => c0 h.symm
  simp only [spec_pfIndex.l0, e, r0, c0, c0', i1, ↓reduceIte, show (0 : Int) < 3 from by decide, show (0 : Int) ≤ 0 from by decide]
  refine Ev.succ ?_
  by_cases c1 : y = p
  · subst c1
    simp only [spec_pfIndex.l0, e, r1, ↓reduceIte, show (1 : Int) < 3 from by decide, show (0 : Int) ≤ 1 from by decide]
    exact Ev.now _
  have c1' : ¬ p = y := fun h => c1 h.symm
  simp only [spec_pfIndex.l0, e, r1, c1, c1', i2, ↓reduceIte, show (1 : Int) < 3 from by decide, show (0 : Int) ≤ 1 from by decide]
  refine Ev.succ ?_
  have c2 : z = p := by
    simp only [List.mem_cons, List.not_mem_nil, or_false] at hm
    rcases hm with h | h | h
    · exact absurd h c0'
    · exact absurd h c1'
    · exact h.symm
  subst c2
  simp only [spec_pfIndex.l0, e, r2, ↓reduceIte, show (2 : Int) < 3 from by decide, show (0 : Int) ≤ 2 from by decide]
  exact Ev.now _
theorem tmod_pos_ {x m : Int} (hx : 0 ≤ x) : Int.tmod x m = x % m := Int.tmod_eq_emod_of_nonneg hx
theorem pel_value {c : List Int} {p : Int} (h : mk3 c) (hp0 : 0 ≤ p) (hp1 : p < (c.length : Int)) (hcur : rd c p = 3) (x y z : Int) (hx : 0 ≤ x) (hy : 0 ≤ y) (hz : 0 ≤ z) (hm : p ∈ [x, y, z]) :
    Int.tmod (wrap64 ((wrap64 ((ixT [x, y, z] p) - (ledT (c.set p.toNat 0) [x, y, z]))) + 3)) 3 = Int.tmod (wrap64 ((ixT [x, y, z] p) + (wrap64 (2 * sumC c [x, y, z])))) 3 ∧
    0 ≤ Int.tmod (wrap64 ((wrap64 ((ixT [x, y, z] p) - (ledT (c.set p.toNat 0) [x, y, z]))) + 3)) 3 ∧ Int.tmod (wrap64 ((wrap64 ((ixT [x, y, z] p) - (ledT (c.set p.toNat 0) [x, y, z]))) + 3)) 3 ≤ 2 := by
  have m0 := h x
  have m1 := h y
  have m2 := h z
  have r0 : rd [x, y, z] 0 = x := rfl
  have r1 : rd [x, y, z] 1 = y := rfl
  have r2 : rd [x, y, z] 2 = z := rfl
  have hix : 0 ≤ ixT [x, y, z] p ∧ ixT [x, y, z] p ≤ 2 := by
    unfold ixT
    rw [r0, r1, r2]
    simp only [List.mem_cons, List.not_mem_nil, or_false] at hm
    by_cases c0 : p = x
    · rw [if_pos c0]; omega
    by_cases c1 : p = y
    · rw [if_neg c0, if_pos c1]; omega
    by_cases c2 : p = z
    · rw [if_neg c0, if_neg c1, if_pos c2]; omega
    · omega
  generalize ixT [x, y, z] p = ix at *
  unfold ledT sumC
  rw [r0, r1, r2]
  rw [rd_set_eq c p x 0 hp0 hx hp1, rd_set_eq c p y 0 hp0 hy hp1, rd_set_eq c p z 0 hp0 hz hp1]
  have q0 : ∃ t : Int, (0 ≤ t ∧ t ≤ 1) ∧ rd c x = (if x = p then 0 else rd c x) + 3 * t := by
    by_cases e : x = p
    · refine ⟨1, by omega, ?_⟩; rw [if_pos e, e, hcur]; rfl
    · refine ⟨0, by omega, ?_⟩; rw [if_neg e]; omega
  have q1 : ∃ t : Int, (0 ≤ t ∧ t ≤ 1) ∧ rd c y = (if y = p then 0 else rd c y) + 3 * t := by
    by_cases e : y = p
    · refine ⟨1, by omega, ?_⟩; rw [if_pos e, e, hcur]; rfl
    · refine ⟨0, by omega, ?_⟩; rw [if_neg e]; omega
  have q2 : ∃ t : Int, (0 ≤ t ∧ t ≤ 1) ∧ rd c z = (if z = p then 0 else rd c z) + 3 * t := by
    by_cases e : z = p
    · refine ⟨1, by omega, ?_⟩; rw [if_pos e, e, hcur]; rfl
    · refine ⟨0, by omega, ?_⟩; rw [if_neg e]; omega
  have n0 : 0 ≤ (if x = p then 0 else rd c x) ∧ (if x = p then 0 else rd c x) ≤ 3 := by split <;> omega
  have n1 : 0 ≤ (if y = p then 0 else rd c y) ∧ (if y = p then 0 else rd c y) ≤ 3 := by split <;> omega
  have n2 : 0 ≤ (if z = p then 0 else rd c z) ∧ (if z = p then 0 else rd c z) ≤ 3 := by split <;> omega
  obtain ⟨t0, ht0, e0⟩ := q0
  obtain ⟨t1, ht1, e1⟩ := q1
  obtain ⟨t2, ht2, e2⟩ := q2
  generalize (if x = p then 0 else rd c x) = u0 at *
  generalize (if y = p then 0 else rd c y) = u1 at *
  generalize (if z = p then 0 else rd c z) = u2 at *
  rw [e0, e1, e2]
  have w1 : wrap64 (u0 + u1) = u0 + u1 := w64 (by omega) (by omega)
  have w2 : wrap64 (u0 + u1 + u2) = u0 + u1 + u2 := w64 (by omega) (by omega)
  rw [w1, w2, tmod_pos_ (show 0 ≤ u0 + u1 + u2 by omega)]
  have w3 : wrap64 (ix - (u0 + u1 + u2) % 3) = ix - (u0 + u1 + u2) % 3 := w64 (by omega) (by omega)
  have w4 : wrap64 (ix - (u0 + u1 + u2) % 3 + 3) = ix - (u0 + u1 + u2) % 3 + 3 := w64 (by omega) (by omega)
  have w5 : wrap64 (2 * (u0 + 3 * t0 + (u1 + 3 * t1) + (u2 + 3 * t2))) = 2 * (u0 + 3 * t0 + (u1 + 3 * t1) + (u2 + 3 * t2)) := w64 (by omega) (by omega)
  have w6 : wrap64 (ix + 2 * (u0 + 3 * t0 + (u1 + 3 * t1) + (u2 + 3 * t2))) = ix + 2 * (u0 + 3 * t0 + (u1 + 3 * t1) + (u2 + 3 * t2)) := w64 (by omega) (by omega)
  rw [w3, w4, w5, w6, tmod_pos_ (by omega), tmod_pos_ (by omega)]
  omega
theorem buildPeeled_l1 (a b q : Int) (ks : List ByteArray) (hb0 : 1 ≤ b) (hb1 : b ≤ 24) (zs : List (Int × Int)) (hz : zs.length ≤ 1000) (hok : ∀ q ∈ zs, ∃ i, StepOk (3 * b).toNat ks a b q i) (hnd : (zs.map Prod.snd).Nodup) (j : Nat) : ∀ c : List Int, j ≤ zs.length → c.length = (3 * b).toNat → mk3 c → (∀ q ∈ zs.take j, rd c q.2 = 3) →
    Ev (fun k => spec_BuildPeeled.l1 k (stepsS zs) ((j : Int) - 1) q (edgesV a b ks) a b c) (a, b, ((stepsS zs).take j).reverse.foldl (pelStep (edgesV a b ks)) c, true) := by
  induction j with
  | zero =>
    intro c _ _ _ _
    refine Ev.succ ?_
    have h1 : ¬ (((0 : Nat) : Int) - 1 ≥ 0) := by omega
    simp only [spec_BuildPeeled.l1, h1, ↓reduceIte]
    exact Ev.now _
  | succ j ih =>
    intro c hj hc hw h0
    refine Ev.succ ?_
    have hjl : j < zs.length := by omega
    have hjs : j < (stepsS zs).length := by rw [stepsS_length]; exact hjl
    have e1 : (((j + 1 : Nat) : Int) - 1) = (j : Int) := by omega
    have h1 : ((j : Int) ≥ 0) := by omega
    have h2 : (0 : Int) ≤ (j : Int) := by omega
    have h3 : (j : Int) < ((stepsS zs).length : Int) := by omega
    obtain ⟨i, hq⟩ := hok zs[j] (List.getElem_mem hjl)
    have e2 : rd_T65 (stepsS zs) (j : Int) = (⟨zs[j].1, zs[j].2⟩ : S65) := by
      unfold rd_T65 stepsS
      rw [Int.toNat_natCast, List.getD_eq_getElem?_getD, List.getElem?_map, List.getElem?_eq_getElem hjl]
      rfl
    have hwj : wrap64 ((j : Int) - 1) = (j : Int) - 1 := w64 (by omega) (by omega)
    have g1 : (0 : Int) ≤ zs[j].1 := by rw [hq.edge]; omega
    have g3 : zs[j].1 < ((edgesV a b ks).length : Int) := by rw [hq.edge, edgesV_length]; have := hq.lt; omega
    have g4 : zs[j].2 < (c.length : Int) := by rw [hc]; exact hq.p1
    have hrow : rd_L3 (edgesV a b ks) zs[j].1 = tripleV a b (ks[i]'hq.lt) 3 := by
      rw [hq.edge]
      exact (rd_row _ i).trans (edgesV_row a b ks i hq.lt)
    have htr := tripleV_range (a := a) (s := ks[i]'hq.lt) (show 0 < b by omega)
    have hcur : rd c zs[j].2 = 3 := h0 _ (by rw [List.take_succ_eq_append_getElem hjl]; exact List.mem_append_right _ (List.mem_singleton.2 rfl))
    obtain ⟨x, y, z, et⟩ := tripleV_form a b (ks[i]'hq.lt)
    rw [et] at hrow htr
    have hmem := hq.mem
    rw [et] at hmem
    have hx := htr x (by simp)
    have hy := htr y (by simp)
    have hz2 := htr z (by simp)
    have hlt := hq.lt
    have hed := hq.edge
    obtain ⟨hv, hv0, hv1⟩ := pel_value (c := c) (p := zs[j].2) hw hq.p0 g4 hcur x y z hx.1 hy.1 hz2.1 hmem
    have hstep : pelStep (edgesV a b ks) c (⟨zs[j].1, zs[j].2⟩ : S65) = c.set zs[j].2.toNat (Int.tmod (wrap64 ((ixT [x, y, z] zs[j].2) + (wrap64 (2 * sumC c [x, y, z])))) 3) := by
      unfold pelStep
      simp only [hrow, set_set_]
      rw [hv]
    rw [hv] at hv0 hv1
    simp only [spec_BuildPeeled.l1, e1, h1, h2, h3, e2, g1, g3, ↓reduceIte, hwj, hrow]
    refine Ev.bind (pfIndex_three x y z _ hmem) ?_
    refine Ev.bind (pfSum_three c x y z hw ⟨by omega, by omega⟩ ⟨by omega, by omega⟩ ⟨by omega, by omega⟩) ?_
    simp only [hq.p0, g4, ↓reduceIte]
    rw [← hstep]
    have e := ih (pelStep (edgesV a b ks) c ⟨zs[j].1, zs[j].2⟩) (by omega) (by rw [hstep, List.length_set]; exact hc) (by rw [hstep]; exact mk3_set hw _ _ hv0 (by omega)) (fun q hq2 => by
      rw [hstep]
      have hm : q ∈ zs.take (j + 1) := by rw [List.take_succ_eq_append_getElem hjl]; exact List.mem_append_left _ hq2
      obtain ⟨i2, hq3⟩ := hok q (List.mem_of_mem_take hm)
      have hne : q.2 ≠ zs[j].2 := by
        intro e
        obtain ⟨t, ht, rfl⟩ := List.getElem_of_mem hq2
        rw [List.length_take] at ht
        rw [List.getElem_take] at e
        have h9 := List.pairwise_iff_getElem.1 hnd t j (by rw [List.length_map]; omega) (by rw [List.length_map]; omega) (by omega)
        rw [List.getElem_map, List.getElem_map] at h9
        exact h9 e
      rw [rd_set_ne hq.p0 hq3.p0 hne]
      exact h0 q hm)
    have e3 : ((stepsS zs).take (j + 1)).reverse = (⟨zs[j].1, zs[j].2⟩ : S65) :: ((stepsS zs).take j).reverse := by
      rw [List.take_succ_eq_append_getElem hjs, List.reverse_append]
      simp [stepsS]
    rw [e3, List.foldl_cons]
    exact e
theorem pelOk_of {a b : Int} {ks : List ByteArray} (hb0 : 1 ≤ b) (hb1 : b ≤ 24) (hk : ks.length ≤ 1000) : pelOk (edgesV a b ks) (stepsS (peeledK a b ks).1) (3 * b).toNat = true := by
  have h := steps_facts (a := a) hb0 hb1 hk
  unfold pelOk
  rw [Bool.and_eq_true, decide_eq_true_eq, List.all_eq_true, stepsS_length]
  refine ⟨fun s hs => ?_, by omega⟩
  obtain ⟨q, hq, rfl⟩ := List.mem_map.1 (show s ∈ (peeledK a b ks).1.map fun q => (⟨q.1, q.2⟩ : S65) from hs)
  obtain ⟨i, h1⟩ := h.1 q hq
  have hrow : rd_L3 (edgesV a b ks) q.1 = tripleV a b (ks[i]'h1.lt) 3 := by
    rw [h1.edge]
    exact (rd_row _ i).trans (edgesV_row a b ks i h1.lt)
  have htr := tripleV_range (a := a) (s := ks[i]'h1.lt) (show 0 < b by omega)
  obtain ⟨x, y, z, e⟩ := tripleV_form a b (ks[i]'h1.lt)
  rw [e] at htr hrow
  have hx := htr x (by simp)
  have hy := htr y (by simp)
  have hz := htr z (by simp)
  have hlt := h1.lt
  have hed := h1.edge
  unfold pelOk1 threeOk inT
  rw [decide_eq_true_eq]
  simp only [hrow]
  rw [show rd [x, y, z] 0 = x from rfl, show rd [x, y, z] 1 = y from rfl, show rd [x, y, z] 2 = z from rfl, edgesV_length]
  exact ⟨⟨h1.p0, h1.p1⟩, ⟨by omega, by omega⟩, ⟨by simp, ⟨hx.1, by omega⟩, ⟨hy.1, by omega⟩, ⟨hz.1, by omega⟩⟩, rfl⟩
def peeledRes (a : Int) (ks : List ByteArray) (b : Int) : Int × Int × List Int × Bool := if keyedH a ks b = true then (if peelsV a ks b = true then (a, b, pelL (edgesV a b ks) (stepsS (peeledK a b ks).1) (List.replicate (3 * b).toNat 3), true) else (0, 0, [], false)) else (0, 0, [], false)
theorem pelL_length (es : List (List Int)) (zs : List S65) (c : List Int) : (pelL es zs c).length = c.length := by
  unfold pelL
  generalize zs.reverse = l
  induction l generalizing c with
  | nil => rfl
  | cons s l ih => rw [List.foldl_cons, ih]; unfold pelStep; rw [List.length_set, List.length_set]
theorem peeledRes_length (a : Int) (ks : List ByteArray) (b : Int) : (peeledRes a ks b).2.2.1.length ≤ 1000 := by
  unfold peeledRes
  split
  · rename_i h
    have h1 := keyedH_of h
    split
    · simp only [pelL_length, List.length_replicate]
      omega
    · simp
  · simp
theorem threes_l0 (a b q : Int) (ks : List ByteArray) (r : Int × Int × List Int × Bool) (zs : List S65) (hb0 : 1 ≤ b) (hb1 : b ≤ 24) (h : Ev (fun k => spec_BuildPeeled.l1 k zs (wrap64 ((zs.length : Int) - 1)) q (edgesV a b ks) a b (List.replicate (3 * b).toNat 3)) r) (d : Nat) : ∀ i : Nat, i + d = (3 * b).toNat → Ev (fun k => spec_BuildPeeled.l0 k b zs (i : Int) q (edgesV a b ks) a b (List.replicate i 3)) r := by
  have w3 : wrap64 (3 * b) = 3 * b := w64 (by omega) (by omega)
  induction d with
  | zero =>
    intro i hi
    refine Ev.succ ?_
    simp only [spec_BuildPeeled.l0, w3, show ¬ ((i : Int) < 3 * b) from by omega, ↓reduceIte]
    rw [show i = (3 * b).toNat from by omega]
    exact h
  | succ d ih =>
    intro i hi
    refine Ev.succ ?_
    have hw : wrap64 ((i : Int) + 1) = ((i + 1 : Nat) : Int) := by rw [w64 (by omega) (by omega)]; rfl
    simp only [spec_BuildPeeled.l0, w3, show (i : Int) < 3 * b from by omega, List.length_replicate, show i < 17592186044416 from by omega, ↓reduceIte, hw]
    rw [show List.replicate i (3 : Int) ++ [3] = List.replicate (i + 1) 3 from List.replicate_succ'.symm]
    exact ih (i + 1) (by omega)
theorem spec_Peeled_ev (a b : Int) (ks : List ByteArray) (hk : ks.length ≤ 9223372036854775807) (hs : ∀ s ∈ ks, s.size ≤ 9223372036854775807) : Ev (fun k => spec_BuildPeeled.f k a ks b) (peeledRes a ks b) := by
  unfold spec_BuildPeeled.f peeledRes
  refine Ev.bind (spec_peKeyed_ev a b ks hk hs) ?_
  cases ht : keyedH a ks b with
  | false =>
    simp only [Bool.false_eq_true, ↓reduceIte]
    refine Ev.succ ?_
    simp only [spec_BuildPeeled.j0, ↓reduceIte]
    exact Ev.now _
  | true =>
    obtain ⟨ha, hb, hkk⟩ := keyedH_of ht
    have hkl := (areKeys_of hkk).1
    simp only [↓reduceIte]
    refine Ev.bind (spec_pePeels_ev a b ks (by omega) hs ha.1 ha.2 hb.1 hb.2) ?_
    refine Ev.succ ?_
    cases hp : peelsV a ks b with
    | false => simp only [spec_BuildPeeled.j0, Bool.not_false, Bool.false_eq_true, ↓reduceIte]; exact Ev.now _
    | true =>
      simp only [spec_BuildPeeled.j0, Bool.not_true, Bool.false_eq_true, ↓reduceIte]
      have e := spec_pePeel_ev (edgesV_good (a := a) hb.1 hb.2 (show ks.length ≤ 1000 by omega))
      rw [show (((3 * b).toNat : Nat) : Int) = 3 * b from by omega] at e
      have hf := steps_facts (a := a) hb.1 hb.2 (show ks.length ≤ 1000 by omega)
      refine Ev.bind (spec_peHyper_ev a b ks (by omega) hs ha.1 ha.2 hb.1 hb.2) ?_
      refine Ev.bind e ?_
      have e4 : wrap64 (((stepsS (peeledK a b ks).1).length : Int) - 1) = (((peeledK a b ks).1.length : Nat) : Int) - 1 := by rw [stepsS_length, w64 (by omega) (by omega)]
      have h5 := buildPeeled_l1 a b (3 * b) ks hb.1 hb.2 (peeledK a b ks).1 (by omega) hf.1 hf.2.1 (peeledK a b ks).1.length (List.replicate (3 * b).toNat 3) (Nat.le_refl _) (by simp) (mk3_three _) (fun q hq => by
        obtain ⟨i, h6⟩ := hf.1 q (List.mem_of_mem_take hq)
        exact rd_three h6.p0 h6.p1)
      rw [List.take_of_length_le (by rw [stepsS_length]; exact Nat.le_refl _), ← e4] at h5
      exact threes_l0 a b (3 * b) ks _ (stepsS (peeledK a b ks).1) hb.1 hb.2 h5 (3 * b).toNat 0 (by omega)
theorem impl_HyperOf_ev (a b : Int) (ks : List ByteArray) (hk : ks.length ≤ 9223372036854775807) (hs : ∀ s ∈ ks, s.size ≤ 9223372036854775807) : Ev (fun k => impl_HyperOf.f k a ks b) (if keyedH a ks b = true then (3 * b, edgesV a b ks, true) else (0, [], false)) := by
  unfold impl_HyperOf.f keyedH
  simp only [impl_isSeed_eq, impl_segmentOk_eq, Option.bind_some]
  by_cases ha : 0 ≤ a ∧ a ≤ 9999
  · simp only [ha, and_self, decide_true, ↓reduceIte, true_and]
    refine Ev.bind (impl_AreKeys_ev ks hk hs) ?_
    cases hkk : areKeys ks with
    | false => simp only [Bool.false_eq_true, ↓reduceIte, Bool.and_false]; exact Ev.now _
    | true =>
      have hkl := (areKeys_of hkk).1
      by_cases hb : 1 ≤ b ∧ b ≤ 24
      · simp only [hb, and_self, decide_true, ↓reduceIte, Bool.true_and]
        refine Ev.bind (impl_hyper_ev a b ks (by omega) hs ha.1 ha.2 hb.1 hb.2) ?_
        exact Ev.now _
      · simp only [hb, decide_false, ↓reduceIte, Bool.false_and, Bool.false_eq_true]
        exact Ev.now _
  · simp only [ha, false_and, decide_false, Bool.false_eq_true, ↓reduceIte, Bool.false_and]
    exact Ev.now _
theorem impl_Peeled_ev (a b : Int) (ks : List ByteArray) (hk : ks.length ≤ 9223372036854775807) (hs : ∀ s ∈ ks, s.size ≤ 9223372036854775807) : Ev (fun k => impl_BuildPeeled.f k a ks b) (peeledRes a ks b) := by
  unfold impl_BuildPeeled.f peeledRes
  refine Ev.bind (impl_HyperOf_ev a b ks hk hs) ?_
  cases ht : keyedH a ks b with
  | false =>
    simp only [Bool.false_eq_true, ↓reduceIte]
    exact Ev.now _
  | true =>
    obtain ⟨ha, hb, hkk⟩ := keyedH_of ht
    have hkl := (areKeys_of hkk).1
    simp only [↓reduceIte]
    refine Ev.bind (impl_order_ev a b ks (by omega) hb.1 hb.2) ?_
    cases hp : peelsV a ks b with
    | false => simp only [Bool.false_eq_true, ↓reduceIte]; exact Ev.now _
    | true =>
      have hok := pelOk_of (a := a) hb.1 hb.2 (show ks.length ≤ 1000 by omega)
      have hrep : slices_Repeat_int_int.f ([3] : List Int) (3 * b) = some (List.replicate (3 * b).toNat 3) := by
        unfold slices_Repeat_int_int.f
        rw [if_pos (show ([3] : List Int).length = 1 from rfl), if_pos (by omega), if_pos (by omega)]
        rfl
      simp only [↓reduceIte, hrep, Option.bind_some, List.length_replicate, hok]
      exact Ev.now _
theorem laws_markPeeled_ev (a b : Int) (l : List Int) (x : Int) (h0 : 0 ≤ x) (hx : x + (l.length : Int) ≤ 4611686018427387904) : Ev (fun k => laws_markPeeled.f k a b l x) (x + (l.length : Int), marks x l.length) := by
  unfold laws_markPeeled.f
  exact Ev.bind (laws_markIntS_ev l x h0 hx) (Ev.now _)
theorem laws_heldPeeled_ev (a b : Int) (n : Nat) (x : Int) (h0 : 0 ≤ x) (hx : x + (n : Int) ≤ 4611686018427387904) : Ev (fun k => laws_heldPeeled.f k a b (marks x n) x) (x + (n : Int)) := by
  unfold laws_heldPeeled.f
  refine Ev.bind (laws_heldIntS_ev x n h0 hx) ?_
  simp only [show ¬ (x + (n : Int) < 0) from by omega, ↓reduceIte]
  exact Ev.now _
theorem laws_eqPeeled_self (a b : Int) (l : List Int) (hl : l.length ≤ 9223372036854775807) : Ev (fun k => laws_eqPeeled.f k a b l a b l) true := by
  simp only [laws_eqPeeled.f, ↓reduceIte]
  exact Ev.bind (laws_eqIntS_self l hl) (by simp only [↓reduceIte]; exact Ev.now _)
theorem FnExactBuildPeeled : ∀ (a0 : Int) (l1 : List ByteArray) (a2 : Int), ((Lit.int .i64 a0).wf = true) → (l1.length ≤ maxLen ∧ ∀ l1' ∈ l1, l1'.size ≤ maxLen) → ((Lit.int .i64 a2).wf = true) → ∃ k, laws_FnExactBuildPeeled.f k a0 l1 a2 = some true := by
  intro a ks b h0 hl hb
  refine Ev.rounds ?_
  have hl1 : ks.length ≤ 9223372036854775807 := by have := hl.1; unfold maxLen at this; exact this
  have hl2 : ∀ s ∈ ks, s.size ≤ 9223372036854775807 := by have := hl.2; unfold maxLen at this; exact this
  obtain ⟨f, hf⟩ := laws_markText_fn
  unfold laws_FnExactBuildPeeled.f
  refine Ev.bind (laws_szStringS_ev ks 1048576 hl1 hl2 (by decide) (by decide)) ?_
  by_cases z : szTexts ks 1048576 < 0
  · simp only [z, ↓reduceIte]; exact Ev.now _
  simp only [z, ↓reduceIte]
  have zz := szTexts_of z
  have hsp := spec_Peeled_ev a b ks hl1 hl2
  have hi := impl_Peeled_ev a b ks hl1 hl2
  have hg := peeledRes_length a ks b
  generalize peeledRes a ks b = v at *
  refine Ev.bind (laws_toStringS_ev ks (by omega)) ?_
  refine Ev.bind hsp ?_
  refine Ev.bind (laws_toStringS_ev ks (by omega)) ?_
  refine Ev.bind hi ?_
  refine Ev.bind (laws_eqPeeled_self v.1 v.2.1 v.2.2.1 (by omega)) ?_
  simp only [bne_self_eq_false, ↓reduceIte]
  refine Ev.succ ?_
  simp only [laws_FnExactBuildPeeled.j0, bne_self_eq_false, Bool.false_eq_true, ↓reduceIte]
  refine Ev.bind (laws_toStringS_ev ks (by omega)) ?_
  refine Ev.bind (laws_eqStringS_self ks hl1) ?_
  simp only [↓reduceIte]
  refine Ev.bind (laws_markStringS_ev f hf ks 1 (by omega) (by omega)) ?_
  simp only [show ¬ ((1 : Int) + (ks.length : Int) < 0) from by omega, ↓reduceIte]
  refine Ev.bind (laws_eqPeeled_self v.1 v.2.1 v.2.2.1 (by omega)) ?_
  simp only [↓reduceIte, bne_self_eq_false]
  refine Ev.succ ?_
  simp only [laws_FnExactBuildPeeled.j1, bne_self_eq_false, Bool.false_eq_true, ↓reduceIte]
  refine Ev.bind (laws_markPeeled_ev v.1 v.2.1 v.2.2.1 1 (by omega) (by omega)) ?_
  refine Ev.bind (laws_heldPeeled_ev v.1 v.2.1 v.2.2.1.length 1 (by omega) (by omega)) ?_
  simp only [show ¬ ((1 : Int) + (v.2.2.1.length : Int) < 0) from by omega, ↓reduceIte]
  refine Ev.bind (laws_toStringS_ev ks (by omega)) ?_
  refine Ev.bind hi ?_
  refine Ev.bind (laws_eqPeeled_self v.1 v.2.1 v.2.2.1 (by omega)) ?_
  simp only [↓reduceIte, bne_self_eq_false]
  refine Ev.succ ?_
  simp only [laws_FnExactBuildPeeled.j2, bne_self_eq_false, Bool.false_eq_true, ↓reduceIte]
  refine Ev.bind (laws_heldPeeled_ev v.1 v.2.1 v.2.2.1.length 1 (by omega) (by omega)) ?_
  simp only [show ¬ ((1 : Int) + (v.2.2.1.length : Int) < 0) from by omega, ↓reduceIte]
  exact Ev.now _

end Go.Proofs.Ytippedfjmlkpiaa.Pure
