/- The program's CuckooOf returns what the reference's returns, for all arguments. -/
import Derived.Test.YthaicmebdgeamaaPFnExactCuckooOfx10
import Derived.Test.YthaicmebdgeamaaTBase
namespace Go.Proofs.Ythaicmebdgeamaa.Pure
open Go.RowKit Go.Proofs.Ythaicmebdgeamaa.PFnExactCuckooOf Go.Proofs.YthaicmebdgeamaaW.PrintWords Go.Proofs.YthaicmebdgeamaaW.PrintLast Go.Proofs.Ythaicmebdgeamaa.Base
set_option linter.unusedVariables false
set_option linter.unusedSimpArgs false

/-- A strict linear order, told by a Bool. -/
structure Lin {α : Type} (lt : α → α → Bool) : Prop where
  irr : ∀ x, lt x x = false
  trans : ∀ x y z, lt x y = true → lt y z = true → lt x z = true
  tri : ∀ x y, lt x y = true ∨ x = y ∨ lt y x = true
def putG {α : Type} [DecidableEq α] (lt : α → α → Bool) (x : α) : List α → List α
  | [] => [x]
  | y :: ys => if lt y x = true then y :: putG lt x ys else if y = x then y :: ys else x :: y :: ys
def Rising {α : Type} (lt : α → α → Bool) (l : List α) : Prop := l.Pairwise fun x y => lt x y = true
theorem mem_putG {α : Type} [DecidableEq α] {lt : α → α → Bool} {x z : α} {l : List α} : z ∈ putG lt x l ↔ z = x ∨ z ∈ l := by
  induction l with
  | nil => simp [putG]
  | cons y ys ih =>
    unfold putG
    by_cases c : lt y x = true
    · rw [if_pos c]
      simp only [List.mem_cons, ih]
      constructor
      · rintro (h | h | h)
        · exact .inr (.inl h)
        · exact .inl h
        · exact .inr (.inr h)
      · rintro (h | h | h)
        · exact .inr (.inl h)
        · exact .inl h
        · exact .inr (.inr h)
    · rw [if_neg c]
      by_cases d : y = x
      · rw [if_pos d]
        subst d
        simp
      · rw [if_neg d]
        simp
theorem putG_rising {α : Type} [DecidableEq α] {lt : α → α → Bool} (H : Lin lt) (x : α) {l : List α} (h : Rising lt l) : Rising lt (putG lt x l) := by
  induction l with
  | nil => simp [putG, Rising]
  | cons y ys ih =>
    unfold Rising at h ih ⊢
    rw [List.pairwise_cons] at h
    unfold putG
    by_cases c : lt y x = true
    · rw [if_pos c, List.pairwise_cons]
      refine ⟨?_, ih h.2⟩
      intro z hz
      rcases mem_putG.1 hz with rfl | hz
      · exact c
      · exact h.1 z hz
    · rw [if_neg c]
      by_cases d : y = x
      · rw [if_pos d]
        exact List.pairwise_cons.2 h
      · rw [if_neg d]
        have e : lt x y = true := by
          rcases H.tri x y with e | e | e
          · exact e
          · exact absurd e.symm d
          · exact absurd e c
        refine List.pairwise_cons.2 ⟨?_, List.pairwise_cons.2 h⟩
        intro z hz
        rcases List.mem_cons.1 hz with rfl | hz
        · exact e
        · exact H.trans _ _ _ e (h.1 z hz)
theorem Rising.nodup {α : Type} {lt : α → α → Bool} (H : Lin lt) {l : List α} (h : Rising lt l) : l.Nodup := by
  refine List.Pairwise.imp ?_ h
  intro a b hab e
  subst e
  rw [H.irr] at hab
  cases hab
theorem rising_ext {α : Type} {lt : α → α → Bool} (H : Lin lt) : ∀ {l m : List α}, Rising lt l → Rising lt m → (∀ x, x ∈ l ↔ x ∈ m) → l = m
  | [], [], _, _, _ => rfl
  | [], y :: m, _, _, h => absurd ((h y).2 (by simp)) (by simp)
  | x :: l, [], _, _, h => absurd ((h x).1 (by simp)) (by simp)
  | x :: l, y :: m, hl, hm, h => by
    unfold Rising at hl hm
    rw [List.pairwise_cons] at hl hm
    have e : x = y := by
      have h1 := (h x).1 (by simp)
      have h2 := (h y).2 (by simp)
      rcases List.mem_cons.1 h1 with e | e
      · exact e
      · rcases List.mem_cons.1 h2 with e2 | e2
        · exact e2.symm
        · have := H.trans _ _ _ (hl.1 y e2) (hm.1 x e)
          rw [H.irr] at this
          cases this
    subst e
    congr 1
    refine rising_ext H hl.2 hm.2 ?_
    intro z
    have hz := h z
    simp only [List.mem_cons] at hz
    constructor
    · intro h1
      rcases hz.1 (.inr h1) with e | e
      · subst e
        have := hl.1 z h1
        rw [H.irr] at this
        cases this
      · exact e
    · intro h1
      rcases hz.2 (.inr h1) with e | e
      · subst e
        have := hm.1 z h1
        rw [H.irr] at this
        cases this
      · exact e
theorem putG_same {α : Type} [DecidableEq α] {lt : α → α → Bool} (H : Lin lt) {x : α} {l : List α} (h : Rising lt l) (hx : x ∈ l) : putG lt x l = l := by
  refine rising_ext H (putG_rising H x h) h fun z => ?_
  rw [mem_putG]
  constructor
  · rintro (rfl | h)
    · exact hx
    · exact h
  · exact .inr
theorem putG_length {α : Type} [DecidableEq α] {lt : α → α → Bool} (H : Lin lt) {x : α} {l : List α} (h : Rising lt l) (hx : x ∉ l) : (putG lt x l).length = l.length + 1 := by
  have h1 : (putG lt x l).Perm (x :: l) := by
    refine (List.perm_ext_iff_of_nodup ((putG_rising H x h).nodup H) (List.nodup_cons.2 ⟨hx, h.nodup H⟩)).2 fun z => ?_
    rw [mem_putG, List.mem_cons]
  rw [h1.length_eq, List.length_cons]
theorem putG_length_le {α : Type} [DecidableEq α] {lt : α → α → Bool} (x : α) (l : List α) : (putG lt x l).length ≤ l.length + 1 := by
  induction l with
  | nil => simp [putG]
  | cons y ys ih =>
    unfold putG
    split
    · simp only [List.length_cons]
      omega
    · split <;> simp
def ltI (x y : Int) : Bool := decide (x < y)
theorem linI : Lin ltI where
  irr x := by simp [ltI]
  trans x y z h1 h2 := by
    simp only [ltI, decide_eq_true_eq] at *
    omega
  tri x y := by
    simp only [ltI, decide_eq_true_eq]
    omega
def putI (x : Int) (l : List Int) : List Int := putG ltI x l
def putAll {α : Type} [DecidableEq α] (lt : α → α → Bool) (xs l : List α) : List α := xs.foldl (fun l x => putG lt x l) l
theorem putAll_rising {α : Type} [DecidableEq α] {lt : α → α → Bool} (H : Lin lt) (xs : List α) : ∀ {l : List α}, Rising lt l → Rising lt (putAll lt xs l) := by
  induction xs with
  | nil => exact fun h => h
  | cons x xs ih => exact fun h => ih (putG_rising H x h)
theorem mem_putAll {α : Type} [DecidableEq α] {lt : α → α → Bool} {z : α} (xs : List α) : ∀ {l : List α}, z ∈ putAll lt xs l ↔ z ∈ xs ∨ z ∈ l := by
  induction xs with
  | nil => simp [putAll]
  | cons x xs ih =>
    intro l
    show z ∈ putAll lt xs (putG lt x l) ↔ _
    rw [ih, mem_putG, List.mem_cons]
    constructor
    · rintro (h | h | h)
      · exact .inl (.inr h)
      · exact .inl (.inl h)
      · exact .inr h
    · rintro ((h | h) | h)
      · exact .inr (.inl h)
      · exact .inl h
      · exact .inr (.inr h)
theorem rising_of_sorted {α : Type} {lt : α → α → Bool} (H : Lin lt) {m : List α} (hs : m.Pairwise fun x y => lt y x = false) (hn : m.Nodup) : Rising lt m := by
  unfold Rising
  refine List.Pairwise.imp ?_ (List.Pairwise.and hs hn)
  rintro a b ⟨h1, h2⟩
  rcases H.tri a b with h | h | h
  · exact h
  · exact absurd h h2
  · rw [h] at h1
    cases h1
theorem putAll_count {α : Type} [DecidableEq α] {lt : α → α → Bool} (H : Lin lt) (xs : List α) : ∀ {l : List α}, Rising lt l → (putAll lt xs l).length ≤ xs.length + l.length ∧ ((putAll lt xs l).length = xs.length + l.length ↔ xs.Nodup ∧ ∀ x ∈ xs, x ∉ l) := by
  induction xs with
  | nil => intro l _; simp [putAll]
  | cons x xs ih =>
    intro l hl
    obtain ⟨h1, h2⟩ := ih (putG_rising H x hl)
    show (putAll lt xs (putG lt x l)).length ≤ _ ∧ ((putAll lt xs (putG lt x l)).length = _ ↔ _)
    by_cases c : x ∈ l
    · rw [putG_same H hl c] at h1 h2 ⊢
      rw [List.length_cons]
      refine ⟨by omega, ?_⟩
      constructor
      · intro h
        omega
      · rintro ⟨_, h⟩
        exact absurd c (h x (by simp))
    · rw [putG_length H hl c] at h1 h2
      rw [List.length_cons]
      refine ⟨by omega, ?_⟩
      rw [show xs.length + 1 + l.length = xs.length + (l.length + 1) from by omega, h2, List.nodup_cons]
      constructor
      · rintro ⟨h3, h4⟩
        refine ⟨⟨fun hx => h4 x hx (mem_putG.2 (.inl rfl)), h3⟩, ?_⟩
        intro y hy
        rcases List.mem_cons.1 hy with rfl | hy
        · exact c
        · exact fun hyl => h4 y hy (mem_putG.2 (.inr hyl))
      · rintro ⟨⟨h3, h4⟩, h5⟩
        refine ⟨h4, ?_⟩
        intro y hy hyp
        rcases mem_putG.1 hyp with rfl | h6
        · exact h3 hy
        · exact h5 y (by simp [hy]) h6
theorem putAll_nodup {α : Type} [DecidableEq α] {lt : α → α → Bool} (H : Lin lt) (xs : List α) : (putAll lt xs []).length = xs.length ↔ xs.Nodup := by
  have h := (putAll_count H xs (l := []) (by simp [Rising])).2
  simpa using h
theorem sorted_put {α : Type} [DecidableEq α] {lt : α → α → Bool} (H : Lin lt) {m xs : List α} (hp : m.Perm xs) (hs : m.Pairwise fun x y => lt y x = false) (hn : xs.Nodup) : m = putAll lt xs [] := by
  refine rising_ext H (rising_of_sorted H hs (hp.symm.nodup hn)) (putAll_rising H xs (by simp [Rising])) fun x => ?_
  rw [mem_putAll, hp.mem_iff]
  simp
theorem sorted_rising {α : Type} {lt : α → α → Bool} (H : Lin lt) {m xs : List α} (hp : m.Perm xs) (hs : m.Pairwise fun x y => lt y x = false) : Rising lt m ↔ xs.Nodup := by
  constructor
  · exact fun h => hp.nodup (h.nodup H)
  · exact fun h => rising_of_sorted H hs (hp.symm.nodup h)
theorem spec_l1In_eq (a b c : Int) : spec_l1In.f a b c = some (decide (b ≤ a ∧ a ≤ c)) := by
  unfold spec_l1In.f
  by_cases h : b ≤ a <;> simp [h]
theorem spec_IsKey_ev (s : ByteArray) (hs : s.size ≤ 9223372036854775807) : Ev (fun k => spec_IsKey.f k s) (isKey s) := by
  have h := Ev.up (L := fun k i => spec_IsKey.l0 k s (i : Int)) (r := fun i => ((bytesOf s).drop i).all okByte && decide (1 ≤ (s.size : Int) ∧ (s.size : Int) ≤ 12)) s.size ?_ ?_ 0 (Nat.zero_le _)
  · exact h
  · refine Ev.succ ?_
    have h1 : ¬ ((s.size : Int) < (s.size : Int)) := by omega
    simp only [spec_IsKey.l0, h1, ↓reduceIte, spec_l1In_eq, Option.bind_some]
    exact Ev.some_ (by rw [List.drop_of_length_le (by rw [bytesOf_length]; exact Nat.le_refl _)]; simp)
  · intro i hi ih
    refine Ev.succ ?_
    have h1 : (i : Int) < (s.size : Int) := by omega
    have h2 : (0 : Int) ≤ (i : Int) := by omega
    have hw : wrap64 ((i : Int) + 1) = ((i + 1 : Nat) : Int) := by rw [w64 (by omega) (by omega)]; rfl
    have hb := bt_nat s i hi
    simp only [spec_IsKey.l0, h1, h2, ↓reduceIte, hw]
    rw [drop_cons _ _ (by rw [bytesOf_length]; exact hi), List.all_cons, ← hb]
    by_cases c1 : bt s i < 33
    · simp only [c1, ↓reduceIte]
      exact Ev.some_ (by simp [okByte]; omega)
    · by_cases c2 : bt s i > 125
      · simp only [c1, c2, ↓reduceIte]
        exact Ev.some_ (by simp [okByte]; omega)
      · simp only [c1, c2, ↓reduceIte]
        have c3 : okByte (bt s i) = true := by simp [okByte]; omega
        rw [c3, Bool.true_and]
        exact ih
theorem impl_in_eq (a b c : Int) : impl_in.f a b c = some (decide (b ≤ a ∧ a ≤ c)) := by
  unfold impl_in.f
  by_cases h : b ≤ a <;> simp [h]
theorem impl_IsKey_ev (s : ByteArray) (hs : s.size ≤ 9223372036854775807) : Ev (fun k => impl_IsKey.f k s) (isKey s) := by
  have h := Ev.up (L := fun k i => impl_IsKey.l0 k s (s.size : Int) (i : Int)) (r := fun i => ((bytesOf s).drop i).all okByte && decide (1 ≤ (s.size : Int) ∧ (s.size : Int) ≤ 12)) s.size ?_ ?_ 0 (Nat.zero_le _)
  · exact h
  · refine Ev.succ ?_
    have h1 : ¬ ((s.size : Int) < (s.size : Int)) := by omega
    simp only [impl_IsKey.l0, h1, ↓reduceIte, impl_in_eq, Option.bind_some]
    exact Ev.some_ (by rw [List.drop_of_length_le (by rw [bytesOf_length]; exact Nat.le_refl _)]; simp)
  · intro i hi ih
    refine Ev.succ ?_
    have h1 : (i : Int) < (s.size : Int) := by omega
    have h2 : (0 : Int) ≤ (i : Int) := by omega
    have hw : wrap64 ((i : Int) + 1) = ((i + 1 : Nat) : Int) := by rw [w64 (by omega) (by omega)]; rfl
    have hb := bt_nat s i hi
    simp only [impl_IsKey.l0, h1, h2, ↓reduceIte, hw]
    rw [drop_cons _ _ (by rw [bytesOf_length]; exact hi), List.all_cons, ← hb]
    by_cases c1 : bt s i < 33
    · simp only [c1, ↓reduceIte]
      exact Ev.some_ (by simp [okByte]; omega)
    · by_cases c2 : bt s i > 125
      · simp only [c1, c2, ↓reduceIte]
        exact Ev.some_ (by simp [okByte]; omega)
      · simp only [c1, c2, ↓reduceIte]
        have c3 : okByte (bt s i) = true := by simp [okByte]; omega
        rw [c3, Bool.true_and]
        exact ih
def keyAt (l : List ByteArray) (i : Nat) : Bool := isKey (rdOf ByteArray.empty l (i : Int)) && (decide (i = 0) || Op.bytesLess (rdOf ByteArray.empty l ((i - 1 : Nat) : Int)).toList (rdOf ByteArray.empty l (i : Int)).toList)
def keysFrom (l : List ByteArray) (i : Nat) : Bool := (List.range' i (l.length - i)).all (keyAt l) && decide ((l.length : Int) ≤ 40)
def areKeys (l : List ByteArray) : Bool := keysFrom l 0
theorem keysFrom_end (l : List ByteArray) : keysFrom l l.length = decide ((l.length : Int) ≤ 40) := by simp [keysFrom]
theorem keysFrom_step (l : List ByteArray) (i : Nat) (h : i < l.length) : keysFrom l i = (keyAt l i && keysFrom l (i + 1)) := by
  unfold keysFrom
  rw [show l.length - i = (l.length - (i + 1)) + 1 from by omega, List.range'_succ, List.all_cons, Bool.and_assoc]
theorem areKeys_of {l : List ByteArray} (h : areKeys l = true) : l.length ≤ 40 ∧ ∀ s ∈ l, isKey s = true := by
  unfold areKeys keysFrom at h
  simp only [Bool.and_eq_true, decide_eq_true_eq, List.all_eq_true, List.mem_range'] at h
  refine ⟨by omega, fun s hs => ?_⟩
  obtain ⟨i, hi, rfl⟩ := List.getElem_of_mem hs
  have := h.1 i ⟨i, by omega, by omega⟩
  unfold keyAt at this
  simp only [Bool.and_eq_true] at this
  rw [rdOf_nat _ _ _ hi] at this
  exact this.1
theorem rdOf_size {l : List ByteArray} (h : ∀ s ∈ l, s.size ≤ 9223372036854775807) (i : Int) : (rdOf ByteArray.empty l i).size ≤ 9223372036854775807 := by
  unfold rdOf
  rw [List.getD_eq_getElem?_getD]
  cases e : l[i.toNat]? with
  | none => simp
  | some x => simpa using h x (List.mem_of_getElem? e)
theorem spec_biKeys_ev (l : List ByteArray) (hl : l.length ≤ 9223372036854775807) (hs : ∀ s ∈ l, s.size ≤ 9223372036854775807) : Ev (fun k => spec_biKeys.f k l) (areKeys l) := by
  refine Ev.up (L := fun k i => spec_biKeys.l0 k l l (l.length : Int) (i : Int)) (r := fun i => keysFrom l i) l.length ?_ ?_ 0 (Nat.zero_le _)
  · refine Ev.succ ?_
    have h1 : ¬ ((l.length : Int) < (l.length : Int)) := by omega
    simp only [spec_biKeys.l0, h1, ↓reduceIte, keysFrom_end]
    exact Ev.now _
  · intro i hi ih
    refine Ev.succ ?_
    have h1 : (i : Int) < (l.length : Int) := by omega
    have h2 : (0 : Int) ≤ (i : Int) := by omega
    have hw : wrap64 ((i : Int) + 1) = ((i + 1 : Nat) : Int) := by rw [w64 (by omega) (by omega)]; rfl
    simp only [spec_biKeys.l0, h1, h2, ↓reduceIte, hw]
    refine Ev.bind (spec_IsKey_ev _ (rdOf_size hs _)) ?_
    rw [keysFrom_step l i hi]
    unfold keyAt
    cases isKey (rdOf ByteArray.empty l (i : Int)) with
    | false => simp only [Bool.false_eq_true, ↓reduceIte, Bool.false_and]; exact Ev.now _
    | true =>
      simp only [↓reduceIte, Bool.true_and]
      by_cases c : i = 0
      · subst c
        simp only [Int.natCast_zero, decide_true, Bool.true_or, Bool.true_and, ↓reduceIte, gt_iff_lt, Int.lt_irrefl]
        exact ih
      · have h3 : (i : Int) > 0 := by omega
        have hw1 : wrap64 ((i : Int) - 1) = ((i - 1 : Nat) : Int) := by rw [w64 (by omega) (by omega)]; omega
        have h4 : (0 : Int) ≤ ((i - 1 : Nat) : Int) := by omega
        have h5 : ((i - 1 : Nat) : Int) < (l.length : Int) := by omega
        simp only [c, h3, hw1, h4, h5, ↓reduceIte, decide_false, Bool.false_or]
        cases Op.bytesLess (rdOf ByteArray.empty l ((i - 1 : Nat) : Int)).toList (rdOf ByteArray.empty l (i : Int)).toList with
        | false => simp only [Bool.false_eq_true, ↓reduceIte, Bool.false_and]; exact Ev.now _
        | true => simp only [↓reduceIte, Bool.true_and]; exact ih
theorem impl_AreKeys_ev (l : List ByteArray) (hl : l.length ≤ 9223372036854775807) (hs : ∀ s ∈ l, s.size ≤ 9223372036854775807) : Ev (fun k => impl_AreKeys.f k l) (areKeys l) := by
  refine Ev.up (L := fun k i => impl_AreKeys.l0 k l l (l.length : Int) (i : Int)) (r := fun i => keysFrom l i) l.length ?_ ?_ 0 (Nat.zero_le _)
  · refine Ev.succ ?_
    have h1 : ¬ ((l.length : Int) < (l.length : Int)) := by omega
    simp only [impl_AreKeys.l0, h1, ↓reduceIte, keysFrom_end]
    exact Ev.now _
  · intro i hi ih
    refine Ev.succ ?_
    have h1 : (i : Int) < (l.length : Int) := by omega
    have h2 : (0 : Int) ≤ (i : Int) := by omega
    have hw : wrap64 ((i : Int) + 1) = ((i + 1 : Nat) : Int) := by rw [w64 (by omega) (by omega)]; rfl
    simp only [impl_AreKeys.l0, h1, h2, ↓reduceIte, hw]
    refine Ev.bind (impl_IsKey_ev _ (rdOf_size hs _)) ?_
    rw [keysFrom_step l i hi]
    unfold keyAt
    cases isKey (rdOf ByteArray.empty l (i : Int)) with
    | false => simp only [Bool.false_eq_true, ↓reduceIte, Bool.false_and]; exact Ev.now _
    | true =>
      simp only [↓reduceIte, Bool.true_and]
      by_cases c : i = 0
      · subst c
        simp only [Int.natCast_zero, decide_true, Bool.true_or, Bool.true_and, ↓reduceIte, gt_iff_lt, Int.lt_irrefl]
        exact ih
      · have h3 : (i : Int) > 0 := by omega
        have hw1 : wrap64 ((i : Int) - 1) = ((i - 1 : Nat) : Int) := by rw [w64 (by omega) (by omega)]; omega
        have h4 : (0 : Int) ≤ ((i - 1 : Nat) : Int) := by omega
        have h5 : ((i - 1 : Nat) : Int) < (l.length : Int) := by omega
        simp only [c, h3, hw1, h4, h5, ↓reduceIte, decide_false, Bool.false_or]
        cases Op.bytesLess (rdOf ByteArray.empty l ((i - 1 : Nat) : Int)).toList (rdOf ByteArray.empty l (i : Int)).toList with
        | false => simp only [Bool.false_eq_true, ↓reduceIte, Bool.false_and]; exact Ev.now _
        | true => simp only [↓reduceIte, Bool.true_and]; exact ih
def ltS (x y : ByteArray) : Bool := Op.bytesLess x.toList y.toList
theorem ltS_eq (x y : ByteArray) : ltS x y = decide (x.toList < y.toList) := bytesLess_eq _ _
theorem toList_inj {x y : ByteArray} (h : x.toList = y.toList) : x = y := by
  rw [ByteArray.toList_eq, ByteArray.toList_eq] at h
  cases x
  cases y
  congr
  exact Array.toList_inj.1 h
theorem linS : Lin ltS where
  irr x := by
    rw [ltS_eq, decide_eq_false_iff_not]
    exact List.lt_irrefl _
  trans x y z h1 h2 := by
    rw [ltS_eq, decide_eq_true_eq] at *
    exact List.lt_trans h1 h2
  tri x y := by
    rw [ltS_eq, ltS_eq, decide_eq_true_eq, decide_eq_true_eq]
    by_cases h1 : x.toList < y.toList
    · exact .inl h1
    · by_cases h2 : y.toList < x.toList
      · exact .inr (.inr h2)
      · exact .inr (.inl (toList_inj (List.le_antisymm (List.not_lt.1 h2) (List.not_lt.1 h1))))
/-- Right keys, rising: what is asked of a list of keys. -/
theorem areKeys_iff (l : List ByteArray) : areKeys l = true ↔ (∀ s ∈ l, isKey s = true) ∧ Rising ltS l ∧ l.length ≤ 40 := by
  constructor
  · intro h
    have h2 := areKeys_of h
    refine ⟨h2.2, ?_, h2.1⟩
    unfold areKeys keysFrom at h
    simp only [Bool.and_eq_true, decide_eq_true_eq, List.all_eq_true, List.mem_range'] at h
    have hstep : ∀ i, (hi : i + 1 < l.length) → ltS l[i] l[i + 1] = true := by
      intro i hi
      have := h.1 (i + 1) ⟨i + 1, by omega, by omega⟩
      unfold keyAt at this
      simp only [Bool.and_eq_true, Bool.or_eq_true, decide_eq_true_eq] at this
      rcases this.2 with h3 | h3
      · omega
      · rw [rdOf_nat _ _ _ hi, show i + 1 - 1 = i from rfl, rdOf_nat _ _ _ (by omega)] at h3
        exact h3
    unfold Rising
    rw [List.pairwise_iff_getElem]
    intro i j hi hj hij
    have H : ∀ d, (hd : i + 1 + d < l.length) → ltS l[i] l[i + 1 + d] = true := by
      intro d
      induction d with
      | zero => intro hd; exact hstep i hd
      | succ d ih =>
        intro hd
        exact linS.trans _ _ _ (ih (by omega)) (hstep (i + 1 + d) hd)
    have := H (j - i - 1) (by omega)
    simp only [show i + 1 + (j - i - 1) = j from by omega] at this
    exact this
  · rintro ⟨h1, h2, h3⟩
    unfold areKeys keysFrom
    simp only [Bool.and_eq_true, decide_eq_true_eq, List.all_eq_true, List.mem_range']
    refine ⟨?_, by omega⟩
    rintro i ⟨k, hk, rfl⟩
    unfold keyAt
    simp only [Bool.and_eq_true, Bool.or_eq_true, decide_eq_true_eq]
    have hk' : 0 + 1 * k < l.length := by omega
    refine ⟨by rw [rdOf_nat _ _ _ hk']; exact h1 _ (List.getElem_mem hk'), ?_⟩
    by_cases c : k = 0
    · exact .inl (by omega)
    · refine .inr ?_
      unfold Rising at h2
      rw [List.pairwise_iff_getElem] at h2
      have := h2 (0 + 1 * k - 1) (0 + 1 * k) (by omega) hk' (by omega)
      rw [rdOf_nat _ _ _ hk', rdOf_nat _ _ _ (by omega)]
      exact this
open Go.Proofs.Ythaicmebdgeamaa.Sorts in
theorem sortS_perm (l : List ByteArray) : (sortS l).Perm l := by
  unfold sortS
  have h1 := (List.mergeSort_perm (l.map fun s => s.data.toList) fun x y => decide (x ≤ y)).map fun b : List UInt8 => (⟨b.toArray⟩ : ByteArray)
  rw [List.map_map] at h1
  have h2 : (l.map ((fun b : List UInt8 => (⟨b.toArray⟩ : ByteArray)) ∘ fun s => s.data.toList)) = l := by
    conv => rhs; rw [← List.map_id l]
    exact List.map_congr_left fun s _ => rfl
  rw [h2] at h1
  exact h1
open Go.Proofs.Ythaicmebdgeamaa.Sorts in
theorem sortS_sorted (l : List ByteArray) : (sortS l).Pairwise fun x y => ltS y x = false := by
  unfold sortS
  rw [List.pairwise_map]
  refine List.Pairwise.imp ?_ (List.pairwise_mergeSort (le := fun x y : List UInt8 => decide (x ≤ y)) ?_ ?_ _)
  · intro a b h
    rw [ltS_eq, decide_eq_false_iff_not, ByteArray.toList_eq, ByteArray.toList_eq]
    simpa [List.not_lt] using h
  · intro a b c h1 h2
    simp only [decide_eq_true_eq] at *
    exact List.le_trans h1 h2
  · intro a b
    simp only [Bool.or_eq_true, decide_eq_true_eq]
    exact List.le_total a b
open Go.Proofs.Ythaicmebdgeamaa.Sorts in
/-- Sorted, a list of right keys is one just where no key stands twice. -/
theorem areKeys_sort {l : List ByteArray} (h : ∀ s ∈ l, isKey s = true) : areKeys (sortS l) = decide (l.length ≤ 40 ∧ (putAll ltS l []).length = l.length) := by
  rw [Bool.eq_iff_iff, areKeys_iff, decide_eq_true_eq, sorted_rising linS (sortS_perm l) (sortS_sorted l), putAll_nodup linS, (sortS_perm l).length_eq]
  constructor
  · rintro ⟨_, h2, h3⟩
    exact ⟨h3, h2⟩
  · rintro ⟨h2, h3⟩
    exact ⟨fun s hs => h s ((sortS_perm l).mem_iff.1 hs), h3, h2⟩
open Go.Proofs.Ythaicmebdgeamaa.Sorts in
theorem sortS_put {l : List ByteArray} (h : (putAll ltS l []).length = l.length) : sortS l = putAll ltS l [] := sorted_put linS (sortS_perm l) (sortS_sorted l) ((putAll_nodup linS l).1 h)
theorem mem_take_succ {l : List Int} {i : Nat} (h : i < l.length) (x : Int) : x ∈ l.take (i + 1) ↔ x ∈ l.take i ∨ x = rd l (i : Int) := by
  rw [List.take_succ_eq_append_getElem h, rd_nat l i h, List.mem_append, List.mem_singleton]
theorem spec_cuSize_eq (a b : Int) : spec_cuSize.f a b = some (decide ((0 ≤ a ∧ a ≤ 9999) ∧ 1 ≤ b ∧ b ≤ 64)) := by
  by_cases h : 0 ≤ a ∧ a ≤ 9999 <;> simp [spec_cuSize.f, spec_l1In_eq, h]
theorem spec_pow (h : Int) (h0 : 0 ≤ h) (h1 : h < 65521) : Int.tmod (wrap64 ((Int.tmod (wrap64 ((Int.tmod (wrap64 ((Int.tmod (wrap64 ((Int.tmod (wrap64 (h * h)) 65521) * (Int.tmod (wrap64 (h * h)) 65521))) 65521) * h)) 65521) * (Int.tmod (wrap64 ((Int.tmod (wrap64 ((Int.tmod (wrap64 (h * h)) 65521) * (Int.tmod (wrap64 (h * h)) 65521))) 65521) * h)) 65521))) 65521) * h)) 65521 = h ^ 11 % 65521 := by
  have step : ∀ a b : Int, 0 ≤ a → a < 65521 → 0 ≤ b → b < 65521 → Int.tmod (wrap64 (a * b)) 65521 = a * b % 65521 := by
    intro a b ha ha' hb hb'
    obtain ⟨p0, p1⟩ := prod_range ha ha' hb hb'
    rw [w64 (by omega) (by omega), tmod_pos p0]
  have rng : ∀ x : Int, 0 ≤ x % 65521 ∧ x % 65521 < 65521 := fun x => ⟨Int.emod_nonneg _ (by decide), Int.emod_lt_of_pos _ (by decide)⟩
  rw [step h h h0 h1 h0 h1]
  rw [step _ _ (rng _).1 (rng _).2 (rng _).1 (rng _).2]
  rw [step _ _ (rng _).1 (rng _).2 h0 h1]
  rw [step _ _ (rng _).1 (rng _).2 (rng _).1 (rng _).2]
  rw [step _ _ (rng _).1 (rng _).2 h0 h1]
  simp only [mul_mod_l, mul_mod_r]
  congr 1
  simp only [Int.pow_succ, Int.pow_zero, Int.one_mul, Int.mul_assoc]
theorem spec_biHash_l0 (s : ByteArray) (hs : s.size ≤ 9223372036854775807) (d : Nat) : ∀ (i : Nat) (h : Int), i + d = s.size → 0 ≤ h → h < 65521 → Ev (fun k => spec_biHash.l0 k s h (i : Int)) (hashFrom h ((bytesOf s).drop i)) := by
  induction d with
  | zero =>
    intro i h hi h0 h1
    refine Ev.succ ?_
    have c1 : ¬ ((i : Int) < (s.size : Int)) := by omega
    simp only [spec_biHash.l0, c1, ↓reduceIte]
    rw [spec_pow h h0 h1]
    exact Ev.some_ (by rw [List.drop_of_length_le (by rw [bytesOf_length]; omega)]; rfl)
  | succ d ih =>
    intro i h hi h0 h1
    refine Ev.succ ?_
    have c1 : (i : Int) < (s.size : Int) := by omega
    have c2 : (0 : Int) ≤ (i : Int) := by omega
    have hw : wrap64 ((i : Int) + 1) = ((i + 1 : Nat) : Int) := by rw [w64 (by omega) (by omega)]; rfl
    have hb := bt_nat s i (by omega)
    have hr := bt_range s i
    have e : Int.tmod (wrap64 ((wrap64 (263 * h)) + (wrap64 (bt s i)))) 65521 = hstep h (bt s i) := by
      rw [w64 (n := 263 * h) (by omega) (by omega), w64 (n := bt s i) (by omega) (by omega), w64 (by omega) (by omega), tmod_pos (by omega)]
      rfl
    simp only [spec_biHash.l0, c1, c2, ↓reduceIte, hw, e]
    rw [drop_cons _ _ (by rw [bytesOf_length]; omega), ← hb]
    exact ih (i + 1) (hstep h (bt s i)) (by omega) (Int.emod_nonneg _ (by decide)) (Int.emod_lt_of_pos _ (by decide))
theorem spec_biHash_ev (a b : Int) (s : ByteArray) (hs : s.size ≤ 9223372036854775807) (ha0 : 0 ≤ a) (ha1 : a ≤ 9999) (hb0 : 0 ≤ b) (hb1 : b ≤ 9) : Ev (fun k => spec_biHash.f k a b s) (hashV a b s) := by
  have e : Int.tmod (wrap64 ((wrap64 ((wrap64 (31 * a)) + (wrap64 (977 * b)))) + 7)) 65521 = hash0 a b := by
    rw [w64 (n := 31 * a) (by omega) (by omega), w64 (n := 977 * b) (by omega) (by omega), w64 (n := 31 * a + 977 * b) (by omega) (by omega), w64 (by omega) (by omega), tmod_pos (by omega)]
    rfl
  unfold spec_biHash.f
  simp only [e]
  exact spec_biHash_l0 s hs s.size 0 (hash0 a b) (by omega) (Int.emod_nonneg _ (by decide)) (Int.emod_lt_of_pos _ (by decide))
theorem spec_biPlace_ev (a b : Int) (s : ByteArray) (n : Int) (hs : s.size ≤ 9223372036854775807) (ha0 : 0 ≤ a) (ha1 : a ≤ 9999) (hb0 : 0 ≤ b) (hb1 : b ≤ 9) (hn0 : 0 ≤ n) (hn1 : n ≤ 65521) : Ev (fun k => spec_biPlace.f k a b s n) (placeV a b s n) := by
  have hr := hash_range a b s
  have p0 : 0 ≤ hashV a b s * n := Int.mul_nonneg hr.1 hn0
  have p1 : hashV a b s * n ≤ 4293001441 := by
    have h1 : hashV a b s * n ≤ hashV a b s * 65521 := Int.mul_le_mul_of_nonneg_left (by omega) hr.1
    omega
  unfold spec_biPlace.f
  refine Ev.bind (spec_biHash_ev a b s hs ha0 ha1 hb0 hb1) ?_
  refine Ev.some_ ?_
  have h2 : hashV a b s * n / 65521 ≤ hashV a b s * n := Int.ediv_le_self _ p0
  have h3 : 0 ≤ hashV a b s * n / 65521 := Int.ediv_nonneg p0 (by decide)
  rw [w64 (n := hashV a b s * n) (by omega) (by omega), tdiv_pos p0, w64 (by omega) (by omega)]
  rfl
theorem spec_cuCells_ev (a : Int) (s : ByteArray) (n : Int) (hs : s.size ≤ 9223372036854775807) (ha0 : 0 ≤ a) (ha1 : a ≤ 9999) (hn0 : 0 ≤ n) (hn1 : n ≤ 65521) : Ev (fun k => spec_cuCells.f k a s n) [placeV a 0 s n, placeV a 1 s n] := by
  unfold spec_cuCells.f
  refine Ev.bind (spec_biPlace_ev a 0 s n hs ha0 ha1 (by decide) (by decide) hn0 hn1) ?_
  exact Ev.bind (spec_biPlace_ev a 1 s n hs ha0 ha1 (by decide) (by decide) hn0 hn1) (Ev.now _)
theorem impl_hash_l1 (h : Int) (h0 : 0 ≤ h) (h1 : h < 65521) (d : Nat) : ∀ (i : Nat) (o : Int), i + d = 11 → o = h ^ i % 65521 → Ev (fun k => impl_hash.l1 k h o (i : Int)) (h ^ 11 % 65521) := by
  induction d with
  | zero =>
    intro i o hi ho
    obtain rfl : i = 11 := by omega
    refine Ev.succ ?_
    simp only [impl_hash.l1]
    exact Ev.some_ ho
  | succ d ih =>
    intro i o hi ho
    refine Ev.succ ?_
    have c1 : (i : Int) < 11 := by omega
    have hw : wrap64 ((i : Int) + 1) = ((i + 1 : Nat) : Int) := by rw [w64 (by omega) (by omega)]; rfl
    have r : 0 ≤ o ∧ o < 65521 := by rw [ho]; exact ⟨Int.emod_nonneg _ (by decide), Int.emod_lt_of_pos _ (by decide)⟩
    obtain ⟨p0, p1⟩ := prod_range r.1 r.2 h0 h1
    have e : Int.tmod (wrap64 (o * h)) 65521 = h ^ (i + 1) % 65521 := by
      rw [w64 (by omega) (by omega), tmod_pos p0, ho, mul_mod_l, Int.pow_succ]
    simp only [impl_hash.l1, c1, ↓reduceIte, hw]
    exact ih (i + 1) _ (by omega) e
theorem impl_hash_l0 (s : ByteArray) (hs : s.size ≤ 9223372036854775807) (d : Nat) : ∀ (i : Nat) (h : Int), i + d = s.size → 0 ≤ h → h < 65521 → Ev (fun k => impl_hash.l0 k s h (s.size : Int) (i : Int)) (hashFrom h ((bytesOf s).drop i)) := by
  induction d with
  | zero =>
    intro i h hi h0 h1
    refine Ev.succ ?_
    have c1 : ¬ ((i : Int) < (s.size : Int)) := by omega
    simp only [impl_hash.l0, c1, ↓reduceIte]
    rw [List.drop_of_length_le (by rw [bytesOf_length]; omega)]
    exact impl_hash_l1 h h0 h1 11 0 1 (by omega) (by simp)
  | succ d ih =>
    intro i h hi h0 h1
    refine Ev.succ ?_
    have c1 : (i : Int) < (s.size : Int) := by omega
    have c2 : (0 : Int) ≤ (i : Int) := by omega
    have hw : wrap64 ((i : Int) + 1) = ((i + 1 : Nat) : Int) := by rw [w64 (by omega) (by omega)]; rfl
    have hb := bt_nat s i (by omega)
    have hr := bt_range s i
    have e : Int.tmod (wrap64 ((wrap64 (263 * h)) + (wrap64 (bt s i)))) 65521 = hstep h (bt s i) := by
      rw [w64 (n := 263 * h) (by omega) (by omega), w64 (n := bt s i) (by omega) (by omega), w64 (by omega) (by omega), tmod_pos (by omega)]
      rfl
    simp only [impl_hash.l0, c1, c2, ↓reduceIte, hw, e]
    rw [drop_cons _ _ (by rw [bytesOf_length]; omega), ← hb]
    exact ih (i + 1) (hstep h (bt s i)) (by omega) (Int.emod_nonneg _ (by decide)) (Int.emod_lt_of_pos _ (by decide))
theorem impl_hash_ev (a b : Int) (s : ByteArray) (hs : s.size ≤ 9223372036854775807) (ha0 : 0 ≤ a) (ha1 : a ≤ 9999) (hb0 : 0 ≤ b) (hb1 : b ≤ 9) : Ev (fun k => impl_hash.f k a b s) (hashV a b s) := by
  have e : Int.tmod (wrap64 ((wrap64 ((wrap64 (31 * a)) + (wrap64 (977 * b)))) + 7)) 65521 = hash0 a b := by
    rw [w64 (n := 31 * a) (by omega) (by omega), w64 (n := 977 * b) (by omega) (by omega), w64 (n := 31 * a + 977 * b) (by omega) (by omega), w64 (by omega) (by omega), tmod_pos (by omega)]
    rfl
  unfold impl_hash.f
  simp only [e]
  exact impl_hash_l0 s hs s.size 0 (hash0 a b) (by omega) (Int.emod_nonneg _ (by decide)) (Int.emod_lt_of_pos _ (by decide))
theorem impl_place_ev (a b : Int) (s : ByteArray) (n : Int) (hs : s.size ≤ 9223372036854775807) (ha0 : 0 ≤ a) (ha1 : a ≤ 9999) (hb0 : 0 ≤ b) (hb1 : b ≤ 9) (hn0 : 0 ≤ n) (hn1 : n ≤ 65521) : Ev (fun k => impl_place.f k a b s n) (placeV a b s n) := by
  have hr := hash_range a b s
  have p0 : 0 ≤ hashV a b s * n := Int.mul_nonneg hr.1 hn0
  have p1 : hashV a b s * n ≤ 4293001441 := by
    have h1 : hashV a b s * n ≤ hashV a b s * 65521 := Int.mul_le_mul_of_nonneg_left (by omega) hr.1
    omega
  unfold impl_place.f
  refine Ev.bind (impl_hash_ev a b s hs ha0 ha1 hb0 hb1) ?_
  refine Ev.some_ ?_
  have h2 : hashV a b s * n / 65521 ≤ hashV a b s * n := Int.ediv_le_self _ p0
  have h3 : 0 ≤ hashV a b s * n / 65521 := Int.ediv_nonneg p0 (by decide)
  rw [w64 (n := hashV a b s * n) (by omega) (by omega), tdiv_pos p0, w64 (by omega) (by omega)]
  rfl
theorem impl_cellsOf_ev (a : Int) (s : ByteArray) (n : Int) (hs : s.size ≤ 9223372036854775807) (ha0 : 0 ≤ a) (ha1 : a ≤ 9999) (hn0 : 0 ≤ n) (hn1 : n ≤ 65521) : Ev (fun k => impl_cellsOf.f k a s n) (placeV a 0 s n, placeV a 1 s n) := by
  unfold impl_cellsOf.f
  refine Ev.bind (impl_place_ev a 0 s n hs ha0 ha1 (by decide) (by decide) hn0 hn1) ?_
  exact Ev.bind (impl_place_ev a 1 s n hs ha0 ha1 (by decide) (by decide) hn0 hn1) (Ev.now _)
theorem impl_cellsOk_eq (a : Int) : impl_cellsOk.f a = some (decide (1 ≤ a ∧ a ≤ 64)) := by
  simp only [impl_cellsOk.f, impl_in_eq, Option.bind_some]
theorem impl_isSeed_eq (a : Int) : impl_isSeed.f a = some (decide (0 ≤ a ∧ a ≤ 9999)) := by
  simp only [impl_isSeed.f, impl_in_eq, Option.bind_some]
theorem laws_eqStringS_self (l : List ByteArray) (hl : l.length ≤ 9223372036854775807) : Ev (fun k => laws_eqStringS.f k l l) true := by
  unfold laws_eqStringS.f
  simp only [↓reduceIte]
  refine Ev.up (L := fun k i => laws_eqStringS.l0 k l l (i : Int)) (r := fun _ => true) l.length ?_ ?_ 0 (Nat.zero_le _)
  · refine Ev.succ ?_
    have h1 : ¬ ((l.length : Int) < (l.length : Int)) := by omega
    simp only [laws_eqStringS.l0, h1, ↓reduceIte]
    exact Ev.now _
  · intro i hi ih
    refine Ev.succ ?_
    have h1 : (i : Int) < (l.length : Int) := by omega
    have h2 : (0 : Int) ≤ (i : Int) := by omega
    have hw : wrap64 ((i : Int) + 1) = ((i + 1 : Nat) : Int) := by rw [w64 (by omega) (by omega)]; rfl
    simp only [laws_eqStringS.l0, h1, h2, ↓reduceIte, hw]
    exact ih
theorem laws_toStringS_l0 (l : List ByteArray) (hl : l.length ≤ 9223372036854775807) (d : Nat) : ∀ (i : Nat) (o : List ByteArray), o.length = l.length → o.take i = l.take i → i + d = l.length → Ev (fun k => laws_toStringS.l0 k l o (i : Int)) l := by
  induction d with
  | zero =>
    intro i o ho ht hi
    refine Ev.succ ?_
    have h1 : ¬ ((i : Int) < (l.length : Int)) := by omega
    simp only [laws_toStringS.l0, h1, ↓reduceIte]
    rw [List.take_of_length_le (by omega), List.take_of_length_le (by omega)] at ht
    exact Ev.some_ ht
  | succ d ih =>
    intro i o ho ht hi
    refine Ev.succ ?_
    have h1 : (i : Int) < (l.length : Int) := by omega
    have h2 : (0 : Int) ≤ (i : Int) := by omega
    have h3 : (i : Int) < (o.length : Int) := by omega
    have hw : wrap64 ((i : Int) + 1) = ((i + 1 : Nat) : Int) := by rw [w64 (by omega) (by omega)]; rfl
    simp only [laws_toStringS.l0, h1, h2, h3, ↓reduceIte, hw, Int.toNat_natCast]
    exact ih (i + 1) _ (by simp [ho]) (by rw [take_set_succ _ _ _ (by omega), ht, rdOf_nat _ _ _ (by omega), List.take_succ_eq_append_getElem (by omega)]) (by omega)
theorem laws_toStringS_ev (l : List ByteArray) (hl : l.length ≤ 17592186044416) : Ev (fun k => laws_toStringS.f k l) l := by
  have h1 : 0 ≤ (l.length : Int) := by omega
  have h2 : ((l.length : Int)).toNat ≤ 17592186044416 := by omega
  simp only [laws_toStringS.f, h1, h2, ↓reduceIte]
  exact laws_toStringS_l0 l (by omega) l.length 0 _ (by simp) (by simp) (by omega)
def szT : List ByteArray → Int → Int
  | [], m => m
  | s :: r, m => if m - (s.size : Int) < 0 then -1 else szT r (m - (s.size : Int))
theorem szT_le (l : List ByteArray) : ∀ m : Int, 0 ≤ m → szT l m ≤ m := by
  induction l with
  | nil => intro m h; exact Int.le_refl m
  | cons s r ih =>
    intro m h
    unfold szT
    by_cases c : m - (s.size : Int) < 0
    · rw [if_pos c]; omega
    · rw [if_neg c]
      have := ih (m - (s.size : Int)) (by omega)
      omega
theorem szT_sizes (l : List ByteArray) : ∀ m : Int, 0 ≤ szT l m → ∀ s ∈ l, (s.size : Int) ≤ m := by
  induction l with
  | nil => intro m h s hs; cases hs
  | cons x r ih =>
    intro m h s hs
    unfold szT at h
    by_cases c : m - (x.size : Int) < 0
    · rw [if_pos c] at h; omega
    · rw [if_neg c] at h
      rcases List.mem_cons.1 hs with rfl | hs
      · omega
      · have := ih _ h s hs
        omega
theorem laws_szStringS_l0 (l : List ByteArray) (hl : l.length ≤ 9223372036854775807) (hs : ∀ s ∈ l, s.size ≤ 9223372036854775807) (d : Nat) : ∀ (i : Nat) (m : Int), i + d = l.length → 0 ≤ m → m ≤ 1048576 → Ev (fun k => laws_szStringS.l0 k l m (i : Int)) (szT (l.drop i) m) := by
  induction d with
  | zero =>
    intro i m hi m0 m1
    refine Ev.succ ?_
    have h1 : ¬ ((i : Int) < (l.length : Int)) := by omega
    simp only [laws_szStringS.l0, h1, ↓reduceIte]
    exact Ev.some_ (by rw [List.drop_eq_nil_of_le (by omega)]; rfl)
  | succ d ih =>
    intro i m hi m0 m1
    refine Ev.succ ?_
    have h0 : i < l.length := by omega
    have h1 : (i : Int) < (l.length : Int) := by omega
    have h2 : (0 : Int) ≤ (i : Int) := by omega
    have hw : wrap64 ((i : Int) + 1) = ((i + 1 : Nat) : Int) := by rw [w64 (by omega) (by omega)]; rfl
    have hz := hs _ (List.getElem_mem h0)
    have hw2 : wrap64 (m - ((l[i]).size : Int)) = m - ((l[i]).size : Int) := w64 (by omega) (by omega)
    rw [drop_cons l i h0]
    simp only [laws_szStringS.l0, h1, h2, ↓reduceIte, hw, rdOf_nat ByteArray.empty l i h0, hw2, szT]
    by_cases c : m - ((l[i]).size : Int) < 0
    · simp only [c, ↓reduceIte]; exact Ev.now _
    · simp only [c, ↓reduceIte]
      exact ih (i + 1) _ (by omega) (by omega) (by omega)
def szTexts (l : List ByteArray) (m : Int) : Int := if m - (l.length : Int) < 0 then -1 else szT l (m - (l.length : Int))
theorem laws_szStringS_ev (l : List ByteArray) (m : Int) (hl : l.length ≤ 9223372036854775807) (hs : ∀ s ∈ l, s.size ≤ 9223372036854775807) (m0 : 0 ≤ m) (m1 : m ≤ 1048576) : Ev (fun k => laws_szStringS.f k l m) (szTexts l m) := by
  unfold laws_szStringS.f szTexts
  rw [w64 (n := m - (l.length : Int)) (by omega) (by omega)]
  by_cases c : m - (l.length : Int) < 0
  · simp only [c, ↓reduceIte]; exact Ev.now _
  · simp only [c, ↓reduceIte]
    exact laws_szStringS_l0 l hl hs l.length 0 _ (by omega) (by omega) (by omega)
theorem szTexts_of {l : List ByteArray} {m : Int} (h : ¬ szTexts l m < 0) : (l.length : Int) ≤ m ∧ szTexts l m ≤ m ∧ 0 ≤ szTexts l m := by
  have e : szTexts l m = if m - (l.length : Int) < 0 then -1 else szT l (m - (l.length : Int)) := rfl
  by_cases c : m - (l.length : Int) < 0
  · rw [if_pos c] at e; omega
  · rw [if_neg c] at e
    have := szT_le l (m - (l.length : Int)) (by omega)
    omega
def blankS (s : ByteArray) : Bool := decide (s.toList = ([] : List UInt8))
def cellOk (a n : Int) (s : ByteArray) (i : Nat) : Bool := blankS s || (isKey s && (decide (placeV a 0 s n = (i : Int)) || decide (placeV a 1 s n = (i : Int))))
def cellsFrom (a : Int) (l : List ByteArray) (i : Nat) : Bool := (List.range' i (l.length - i)).all fun j => cellOk a l.length (rdOf ByteArray.empty l (j : Int)) j
theorem cellsFrom_end (a : Int) (l : List ByteArray) : cellsFrom a l l.length = true := by simp [cellsFrom]
theorem cellsFrom_step (a : Int) (l : List ByteArray) (i : Nat) (h : i < l.length) : cellsFrom a l i = (cellOk a l.length (rdOf ByteArray.empty l (i : Int)) i && cellsFrom a l (i + 1)) := by
  unfold cellsFrom
  rw [show l.length - i = (l.length - (i + 1)) + 1 from by omega, List.range'_succ, List.all_cons]
theorem cellsFrom_mem {a : Int} {l : List ByteArray} (h : cellsFrom a l 0 = true) (i : Nat) (hi : i < l.length) : cellOk a l.length l[i] i = true := by
  unfold cellsFrom at h
  rw [List.all_eq_true] at h
  have := h i (by rw [List.mem_range']; exact ⟨i, by omega, by omega⟩)
  rw [rdOf_nat _ _ _ hi] at this
  exact this
def fullS (l : List ByteArray) : List ByteArray := l.filter fun s => !blankS s
def allV (l m : List ByteArray) : List ByteArray := fullS l ++ m
theorem isKey_full {s : ByteArray} (h : isKey s = true) : blankS s = false := by
  have h1 := isKey_size h
  unfold blankS
  rw [decide_eq_false_iff_not, ByteArray.toList_eq]
  intro e
  have h2 : s.data.toList.length = 0 := by rw [e]; rfl
  have h3 : s.size = s.data.size := rfl
  rw [Array.length_toList] at h2
  omega
theorem fullS_keys {l : List ByteArray} (h : ∀ s ∈ l, isKey s = true) : fullS l = l := List.filter_eq_self.2 fun s hs => by rw [isKey_full (h s hs)]; rfl
theorem allV_eq {l m : List ByteArray} (h : ∀ s ∈ m, isKey s = true) : fullS (l ++ m) = allV l m := by
  unfold fullS allV
  rw [List.filter_append]
  congr 1
  exact fullS_keys h
theorem allV_keys {a : Int} {l m : List ByteArray} (h : cellsFrom a l 0 = true) (hm : ∀ s ∈ m, isKey s = true) : ∀ s ∈ allV l m, isKey s = true := by
  intro s hs
  unfold allV fullS at hs
  rcases List.mem_append.1 hs with h1 | h1
  · rw [List.mem_filter] at h1
    obtain ⟨i, hi, rfl⟩ := List.getElem_of_mem h1.1
    have := cellsFrom_mem h i hi
    unfold cellOk at this
    simp only [Bool.or_eq_true, Bool.and_eq_true] at this
    rcases this with h2 | h2
    · rw [h2] at h1
      simp at h1
    · exact h2.1
  · exact hm s h1
theorem allV_length (l m : List ByteArray) : (allV l m).length ≤ l.length + m.length := by
  unfold allV fullS
  rw [List.length_append]
  have := List.length_filter_le (fun s => !blankS s) l
  omega
def headOk (a : Int) (l m : List ByteArray) : Bool := decide ((0 ≤ a ∧ a ≤ 9999) ∧ (1 ≤ (l.length : Int) ∧ (l.length : Int) ≤ 64) ∧ (m.length : Int) ≤ 4) && areKeys m
def goodCuckoo (a : Int) (l m : List ByteArray) : Bool := headOk a l m && (cellsFrom a l 0 && decide ((allV l m).length ≤ 40 ∧ (putAll ltS (allV l m) []).length = (allV l m).length))
theorem headOk_of {a : Int} {l m : List ByteArray} (h : headOk a l m = true) : (0 ≤ a ∧ a ≤ 9999) ∧ (1 ≤ l.length ∧ l.length ≤ 64) ∧ m.length ≤ 4 ∧ areKeys m = true := by
  unfold headOk at h
  simp only [Bool.and_eq_true, decide_eq_true_eq] at h
  exact ⟨h.1.1, by omega, by omega, h.2⟩
theorem goodCuckoo_of {a : Int} {l m : List ByteArray} (h : goodCuckoo a l m = true) : headOk a l m = true ∧ cellsFrom a l 0 = true ∧ (allV l m).length ≤ 40 ∧ (putAll ltS (allV l m) []).length = (allV l m).length := by
  unfold goodCuckoo at h
  simp only [Bool.and_eq_true, decide_eq_true_eq] at h
  exact ⟨h.1, h.2.1, h.2.2⟩
/-- Putting a string into a rising list, as the reference does it. -/
theorem spec_l1PutS_ev (l : List ByteArray) (x : ByteArray) (hl : l.length ≤ 4000000) : Ev (fun k => spec_l1PutS.f k l x) (putG ltS x l) := by
  suffices H : ∀ d i : Nat, i + d = l.length → Ev (fun k => spec_l1PutS.l0 k l x (i : Int)) (l.take i ++ putG ltS x (l.drop i)) from H l.length 0 (by omega)
  intro d
  induction d with
  | zero =>
    intro i hi
    refine Ev.succ ?_
    obtain rfl : i = l.length := by omega
    have h1 : ¬ ((l.length : Int) < (l.length : Int)) := by omega
    have h2 : (0 : Int) ≤ (l.length : Int) := by omega
    have h4 : l.length < 8796093022208 := by omega
    simp only [spec_l1PutS.l0, h1, h2, Int.le_refl, ↓reduceIte, Option.bind_some, Int.toNat_natCast, List.take_length, List.drop_length, List.length_nil, Nat.zero_add, h4, List.nil_append, List.length_append, List.length_singleton, Nat.add_zero, show l.length + 1 < 8796093022208 from by omega, putG]
    exact Ev.some_ (by simp)
  | succ d ih =>
    intro i hi
    refine Ev.succ ?_
    have h0 : i < l.length := by omega
    have h1 : (i : Int) < (l.length : Int) := by omega
    have h2 : (0 : Int) ≤ (i : Int) := by omega
    have h3 : (i : Int) ≤ (l.length : Int) := by omega
    have hw : wrap64 ((i : Int) + 1) = ((i + 1 : Nat) : Int) := by rw [w64 (by omega) (by omega)]; rfl
    rw [drop_cons l i h0]
    unfold putG
    simp only [spec_l1PutS.l0, h1, h2, ↓reduceIte, hw, rdOf_nat ByteArray.empty l i h0]
    by_cases c : ltS l[i] x = true
    · rw [show Op.bytesLess l[i].toList x.toList = true from c]
      simp only [↓reduceIte, c]
      have e := ih (i + 1) (by omega)
      rw [List.take_succ_eq_append_getElem h0, List.append_assoc] at e
      exact e
    · have c' : ¬ (Op.bytesLess l[i].toList x.toList = true) := c
      simp only [c, c', ↓reduceIte]
      by_cases g : l[i] = x
      · simp only [g, ↓reduceIte, Bool.false_eq_true]
        refine Ev.some_ ?_
        rw [← g, ← drop_cons l i h0, List.take_append_drop]
      · have g' : ¬ (l[i].toList = x.toList) := fun e => g (toList_inj e)
        have t1 : (l.take i).length = i := by rw [List.length_take]; omega
        have t2 : (l.drop i).length = l.length - i := List.length_drop
        simp only [g, g', ↓reduceIte, Option.bind_some, h3, Int.toNat_natCast, List.length_nil, Nat.zero_add, List.nil_append, t1, t2, List.length_append, List.length_singleton, show i < 8796093022208 from by omega, show i + 1 + (l.length - i) < 8796093022208 from by omega]
        exact Ev.some_ (by rw [← drop_cons l i h0]; simp)
def manyV (l m : List ByteArray) (i : Nat) : Nat := m.length + (fullS (l.take i)).length
theorem impl_all_eq (a : Int) (l m : List ByteArray) (hl0 : 0 < l.length) (hl : l.length ≤ 64) (hm : m.length ≤ 4) : impl_Cuckoo_all_in26_0.f a l m = some (allV l m) := by
  have h1 : l.length < 8796093022208 := by omega
  have h2 : 0 < l.length ∧ l.length ≤ 9223372036854775807 := by omega
  have h3 : (l.filter fun s => !decide (s.toList = [])) = fullS l := rfl
  have h4 := List.length_filter_le (fun s => !blankS s) l
  have h5 : (fullS l).length + m.length < 8796093022208 := by unfold fullS; omega
  simp only [impl_Cuckoo_all_in26_0.f, slices_Clone_string_string.f, h1, ↓reduceIte, Option.bind_some, slices_DeleteFunc_all.f, h2, and_self, h3, h5]
  rfl
theorem slices_Sort_eq (l : List ByteArray) (h : l.length ≤ 1000) : slices_Sort_string_string.f l = some (Go.Proofs.Ythaicmebdgeamaa.Sorts.sortS l) := by
  unfold slices_Sort_string_string.f
  rw [if_pos (by omega)]
theorem sortS_sizes {l : List ByteArray} (h : ∀ s ∈ l, isKey s = true) : (∀ s ∈ Go.Proofs.Ythaicmebdgeamaa.Sorts.sortS l, s.size ≤ 9223372036854775807) := by
  intro s hs
  have := isKey_size (h s ((sortS_perm l).mem_iff.1 hs))
  omega
theorem impl_IsCuckoo_l0 (a : Int) (l m : List ByteArray) (hl0 : 0 < l.length) (hl : l.length ≤ 64) (hm : m.length ≤ 4) (hs : ∀ s ∈ l, s.size ≤ 9223372036854775807) (ha0 : 0 ≤ a) (ha1 : a ≤ 9999) (hk : ∀ s ∈ m, isKey s = true) (d : Nat) : ∀ i : Nat, i + d = l.length → (cellsFrom a l i = true → cellsFrom a l 0 = true) →
    Ev (fun k => impl_IsCuckoo.l0 k l (l.length : Int) (i : Int) a l m) (cellsFrom a l i && decide ((allV l m).length ≤ 40 ∧ (putAll ltS (allV l m) []).length = (allV l m).length)) := by
  induction d with
  | zero =>
    intro i hi hc
    refine Ev.succ ?_
    obtain rfl : i = l.length := by omega
    have h1 : ¬ ((l.length : Int) < (l.length : Int)) := by omega
    have hall := allV_keys (hc (cellsFrom_end a l)) hk
    have hle := allV_length l m
    simp only [impl_IsCuckoo.l0, h1, ↓reduceIte, cellsFrom_end, Bool.true_and, impl_all_eq a l m hl0 hl hm, slices_Sort_eq _ (show (allV l m).length ≤ 1000 by omega), Option.bind_some]
    refine Ev.bind (impl_AreKeys_ev _ (by rw [(sortS_perm _).length_eq]; omega) (sortS_sizes hall)) ?_
    rw [areKeys_sort hall]
    exact Ev.now _
  | succ d ih =>
    intro i hi hc
    refine Ev.succ ?_
    have h0 : i < l.length := by omega
    have h1 : (i : Int) < (l.length : Int) := by omega
    have h2 : (0 : Int) ≤ (i : Int) := by omega
    have hw : wrap64 ((i : Int) + 1) = ((i + 1 : Nat) : Int) := by rw [w64 (by omega) (by omega)]; rfl
    have hsz := hs _ (List.getElem_mem h0)
    rw [cellsFrom_step a l i h0] at hc ⊢
    rw [rdOf_nat ByteArray.empty l i h0] at hc
    simp only [impl_IsCuckoo.l0, h1, h2, ↓reduceIte, hw, rdOf_nat ByteArray.empty l i h0]
    by_cases g : cellOk a (l.length : Int) l[i] i = true
    · rw [g, Bool.true_and] at hc ⊢
      have e := ih (i + 1) (by omega) hc
      unfold cellOk at g
      by_cases c : l[i].toList = ([] : List UInt8)
      · simp only [c, ↓reduceIte]
        exact e
      · have hb : blankS l[i] = false := by unfold blankS; rw [decide_eq_false_iff_not]; exact c
        rw [hb] at g
        simp only [Bool.false_or, Bool.and_eq_true, Bool.or_eq_true, decide_eq_true_eq] at g
        simp only [c, ↓reduceIte]
        refine Ev.bind (impl_IsKey_ev _ hsz) ?_
        simp only [g.1, ↓reduceIte]
        refine Ev.bind (impl_cellsOf_ev a _ _ hsz ha0 ha1 (by omega) (by omega)) ?_
        by_cases g1 : placeV a 0 l[i] (l.length : Int) = (i : Int)
        · simp only [g1, ↓reduceIte]
          exact e
        · rcases g.2 with g2 | g2
          · exact absurd g2 g1
          · simp only [g1, g2, ↓reduceIte]
            exact e
    · have g' : cellOk a (l.length : Int) l[i] i = false := by simpa using g
      rw [g', Bool.false_and, Bool.false_and]
      unfold cellOk at g'
      by_cases c : l[i].toList = ([] : List UInt8)
      · have hb : blankS l[i] = true := by unfold blankS; rw [c]; rfl
        rw [hb] at g'
        cases g'
      · have hb : blankS l[i] = false := by unfold blankS; rw [decide_eq_false_iff_not]; exact c
        rw [hb] at g'
        simp only [Bool.false_or, Bool.and_eq_false_iff, Bool.or_eq_false_iff, decide_eq_false_iff_not] at g'
        simp only [c, ↓reduceIte]
        refine Ev.bind (impl_IsKey_ev _ hsz) ?_
        cases hik : isKey l[i] with
        | false => simp only [Bool.false_eq_true, ↓reduceIte]; exact Ev.now _
        | true =>
          rw [hik] at g'
          have g2 := g'.resolve_left (by simp)
          simp only [↓reduceIte]
          refine Ev.bind (impl_cellsOf_ev a _ _ hsz ha0 ha1 (by omega) (by omega)) ?_
          simp only [g2.1, g2.2, ↓reduceIte]
          exact Ev.now _
theorem impl_IsCuckoo_ev (a : Int) (l m : List ByteArray) (hl : l.length ≤ 9223372036854775807) (hm : m.length ≤ 9223372036854775807) (hs : ∀ s ∈ l, s.size ≤ 9223372036854775807) (hs' : ∀ s ∈ m, s.size ≤ 9223372036854775807) : Ev (fun k => impl_IsCuckoo.f k a l m) (goodCuckoo a l m) := by
  unfold impl_IsCuckoo.f goodCuckoo headOk
  simp only [impl_isSeed_eq, impl_cellsOk_eq, Option.bind_some]
  have hno : Ev (fun k => impl_IsCuckoo.j0 k true a l m) false := by
    refine Ev.succ ?_
    simp only [impl_IsCuckoo.j0, ↓reduceIte]
    exact Ev.now _
  by_cases c : 0 ≤ a ∧ a ≤ 9999
  · simp only [c, and_self, decide_true, ↓reduceIte, true_and]
    by_cases c1 : 1 ≤ (l.length : Int) ∧ (l.length : Int) ≤ 64
    · simp only [c1, and_self, decide_true, ↓reduceIte, true_and]
      by_cases c2 : (m.length : Int) > 4
      · have c3 : ¬ ((m.length : Int) ≤ 4) := by omega
        simp only [c2, c3, decide_false, ↓reduceIte, Bool.false_and]
        exact hno
      · have c3 : (m.length : Int) ≤ 4 := by omega
        simp only [c2, c3, decide_true, ↓reduceIte, Bool.true_and]
        refine Ev.bind (impl_AreKeys_ev m hm hs') ?_
        cases hk : areKeys m with
        | false => simp only [Bool.not_false, Bool.false_and]; exact hno
        | true =>
          refine Ev.succ ?_
          simp only [impl_IsCuckoo.j0, Bool.not_true, Bool.false_eq_true, ↓reduceIte, Bool.true_and]
          exact impl_IsCuckoo_l0 a l m (by omega) (by omega) (by omega) hs c.1 c.2 (areKeys_of hk).2 l.length 0 (by omega) id
    · simp only [c1, decide_false, Bool.false_eq_true, ↓reduceIte, false_and, Bool.false_and]
      exact hno
  · simp only [c, decide_false, Bool.false_eq_true, ↓reduceIte, false_and, Bool.false_and]
    exact hno
def isS (s x : ByteArray) : Bool := decide (x = s)
theorem isS_iff (s x : ByteArray) : isS s x = true ↔ x.toList = s.toList := by
  unfold isS
  rw [decide_eq_true_eq]
  exact ⟨fun h => by rw [h], toList_inj⟩
def findV (l m : List ByteArray) (s : ByteArray) : Int := idxV (isS s) (l ++ m) 0
theorem idxV_append {α : Type} (p : α → Bool) (l m : List α) : idxV p (l ++ m) 0 = if idxV p l 0 ≥ 0 then idxV p l 0 else if idxV p m 0 ≥ 0 then (l.length : Int) + idxV p m 0 else -1 := by
  unfold idxV
  rw [List.drop_zero, List.drop_zero, List.drop_zero, List.findIdx?_append]
  cases h1 : l.findIdx? p with
  | some j => simp
  | none =>
    cases h2 : m.findIdx? p with
    | some j =>
      simp
      omega
    | none => simp
theorem idxV_range {α : Type} (p : α → Bool) (l : List α) : idxV p l 0 < l.length := by
  unfold idxV
  rw [List.drop_zero]
  cases h1 : l.findIdx? p with
  | some j =>
    have := (List.findIdx?_eq_some_iff_findIdx_eq.1 h1).1
    simp only
    omega
  | none =>
    simp only
    omega
theorem slices_IndexS_ev (xs : List ByteArray) (s : ByteArray) (hx : xs.length ≤ 2000000) : Ev (fun k => slices_Index_string_string.f k xs s) (idxV (isS s) xs 0) := by
  refine Ev.up (L := fun k i => slices_Index_string_string.l0 k xs s (xs.length : Int) (i : Int)) (r := fun i => idxV (isS s) xs i) xs.length ?_ ?_ 0 (Nat.zero_le _)
  · refine Ev.succ ?_
    have h1 : ¬ ((xs.length : Int) < (xs.length : Int)) := by omega
    simp only [slices_Index_string_string.l0, h1, ↓reduceIte]
    exact Ev.some_ (idxV_end _ _).symm
  · intro i hi ih
    refine Ev.succ ?_
    have h1 : (i : Int) < (xs.length : Int) := by omega
    have h2 : (0 : Int) ≤ (i : Int) := by omega
    have hw : wrap64 ((i : Int) + 1) = ((i + 1 : Nat) : Int) := by rw [w64 (by omega) (by omega)]; rfl
    simp only [slices_Index_string_string.l0, h1, h2, ↓reduceIte, hw, rdOf_nat ByteArray.empty xs i hi]
    by_cases c : s.toList = xs[i].toList
    · simp only [← c, ↓reduceIte]
      exact Ev.some_ (idxV_hit hi ((isS_iff s xs[i]).2 c.symm)).symm
    · simp only [c, ↓reduceIte]
      rw [idxV_miss hi (by rw [← Bool.not_eq_true, isS_iff]; exact fun e => c e.symm)]
      exact ih
theorem impl_find_ev (a : Int) (l m : List ByteArray) (s : ByteArray) (hl : l.length + m.length ≤ 2000000) : Ev (fun k => impl_Cuckoo_find_in26_0.f k a l m s) (findV l m s) := by
  unfold impl_Cuckoo_find_in26_0.f findV
  rw [idxV_append]
  refine Ev.bind (slices_IndexS_ev l s (by omega)) ?_
  by_cases c : idxV (isS s) l 0 ≥ 0
  · simp only [c, ↓reduceIte]
    exact Ev.now _
  · simp only [c, ↓reduceIte]
    refine Ev.bind (slices_IndexS_ev m s (by omega)) ?_
    by_cases c2 : idxV (isS s) m 0 ≥ 0
    · have := idxV_range (isS s) m
      simp only [c2, ↓reduceIte, w64 (n := (l.length : Int) + idxV (isS s) m 0) (by omega) (by omega)]
      exact Ev.now _
    · simp only [c2, ↓reduceIte]
      exact Ev.now _
def foundV (a : Int) (l m : List ByteArray) (s : ByteArray) : Int × Bool := if goodCuckoo a l m = true then (if isKey s = true then (if findV l m s < 0 then (0, false) else (findV l m s, true)) else (0, false)) else (0, false)
theorem goodCuckoo_len {a : Int} {l m : List ByteArray} (h : goodCuckoo a l m = true) : 1 ≤ l.length ∧ l.length ≤ 64 ∧ m.length ≤ 4 := by
  have h1 := headOk_of (goodCuckoo_of h).1
  exact ⟨h1.2.1.1, h1.2.1.2, h1.2.2.1⟩
theorem u64_id {n : Int} (h0 : 0 ≤ n) (h1 : n ≤ 9223372036854775807) : IntKind.u64.wrap n = n := by
  have e : IntKind.u64.wrap n = n % 18446744073709551616 := by simp [IntKind.wrap, IntKind.bits, IntKind.signed]
  rw [e]
  omega
theorem midV {i j : Nat} (h : i + j ≤ 4000000) : wrap64 ((IntKind.u64.wrap (wrap64 ((i : Int) + (j : Int)))) / 2) = (((i + j) / 2 : Nat) : Int) := by
  rw [w64 (n := (i : Int) + (j : Int)) (by omega) (by omega), u64_id (by omega) (by omega), w64 (by omega) (by omega)]
  omega
theorem putG_at {α : Type} [DecidableEq α] {lt : α → α → Bool} {x : α} : ∀ {l : List α} {p : Nat}, p ≤ l.length → (∀ k, (hk : k < l.length) → k < p → lt l[k] x = true) → (∀ hp : p < l.length, lt l[p] x = false) → x ∉ l → putG lt x l = l.take p ++ x :: l.drop p := by
  intro l
  induction l with
  | nil => intro p _ _ _ _; simp [putG]
  | cons y ys ih =>
    intro p hp h1 h2 hx
    unfold putG
    cases p with
    | zero =>
      have c := h2 (by simp)
      simp only [List.getElem_cons_zero] at c
      rw [if_neg (by rw [c]; decide), if_neg (fun e => hx (by rw [e]; simp))]
      simp
    | succ p =>
      have c := h1 0 (by simp) (by omega)
      simp only [List.getElem_cons_zero] at c
      rw [if_pos c]
      rw [ih (p := p) (by simp only [List.length_cons] at hp; omega) (fun k hk hkp => by have := h1 (k + 1) (by simp only [List.length_cons]; omega) (by omega); simpa using this) (fun hp' => by have := h2 (by simp only [List.length_cons]; omega); simpa using this) (fun h => hx (List.mem_cons_of_mem _ h))]
      simp
theorem rising_lt {α : Type} {lt : α → α → Bool} {l : List α} (h : Rising lt l) {i j : Nat} (hij : i < j) (hj : j < l.length) : lt (l[i]'(by omega)) l[j] = true := by
  unfold Rising at h
  rw [List.pairwise_iff_getElem] at h
  exact h i j (by omega) hj hij
theorem slices_BinarySearchS_ev (l : List ByteArray) (x : ByteArray) (hr : Rising ltS l) (hl : l.length ≤ 1000000) : ∃ (p : Nat) (b : Bool), Ev (fun k => slices_BinarySearch_string_string.f k l x) ((p : Int), b) ∧ p ≤ l.length ∧ (∀ k, (hk : k < l.length) → k < p → ltS l[k] x = true) ∧ (∀ hp : p < l.length, ltS l[p] x = false) := by
  unfold slices_BinarySearch_string_string.f
  suffices H : ∀ d i j : Nat, j - i ≤ d → i ≤ j → j ≤ l.length → (∀ k, (hk : k < l.length) → k < i → ltS l[k] x = true) → (∀ hp : j < l.length, ltS l[j] x = false) → ∃ (p : Nat) (b : Bool), Ev (fun k => slices_BinarySearch_string_string.l0 k l x (l.length : Int) (i : Int) (j : Int)) ((p : Int), b) ∧ p ≤ l.length ∧ (∀ k, (hk : k < l.length) → k < p → ltS l[k] x = true) ∧ (∀ hp : p < l.length, ltS l[p] x = false) by
    exact H l.length 0 l.length (by omega) (by omega) (Nat.le_refl _) (fun _ _ h => absurd h (by omega)) (fun h => absurd h (by omega))
  intro d
  induction d with
  | zero =>
    intro i j h1 h2 h3 h4 h5
    obtain rfl : i = j := by omega
    have c1 : ¬ ((i : Int) < (i : Int)) := by omega
    have hnan : ∀ y : ByteArray, slices_isNaN_string.f y = some false := fun y => by simp [slices_isNaN_string.f]
    by_cases c2 : i < l.length
    · refine ⟨i, decide (l[i].toList = x.toList), Ev.succ ?_, h3, h4, h5⟩
      have c3 : (i : Int) < (l.length : Int) := by omega
      have c4 : (0 : Int) ≤ (i : Int) := by omega
      simp only [slices_BinarySearch_string_string.l0, c1, c3, c4, ↓reduceIte, rdOf_nat ByteArray.empty l i c2, hnan, Option.bind_some, Bool.false_eq_true]
      by_cases c5 : l[i].toList = x.toList
      · simp only [c5, ↓reduceIte, decide_true]
        exact Ev.now _
      · simp only [c5, ↓reduceIte, decide_false]
        exact Ev.now _
    · refine ⟨i, false, Ev.succ ?_, h3, h4, h5⟩
      have c3 : ¬ ((i : Int) < (l.length : Int)) := by omega
      simp only [slices_BinarySearch_string_string.l0, c1, c3, ↓reduceIte]
      exact Ev.now _
  | succ d ih =>
    intro i j h1 h2 h3 h4 h5
    by_cases c : i = j
    · exact ih i j (by omega) h2 h3 h4 h5
    · have c1 : (i : Int) < (j : Int) := by omega
      have hm := midV (i := i) (j := j) (by omega)
      have hlt : (i + j) / 2 < l.length := by omega
      have c2 : (0 : Int) ≤ (((i + j) / 2 : Nat) : Int) := by omega
      have c3 : (((i + j) / 2 : Nat) : Int) < (l.length : Int) := by omega
      have hw : wrap64 ((((i + j) / 2 : Nat) : Int) + 1) = (((i + j) / 2 + 1 : Nat) : Int) := by rw [w64 (by omega) (by omega)]; rfl
      have hnan : ∀ y : ByteArray, cmp_isNaN_string.f y = some false := fun y => by simp [cmp_isNaN_string.f]
      have hless : ∀ y : ByteArray, cmp_Less_string.f y x = some (ltS y x) := fun y => by simp [cmp_Less_string.f, hnan, ltS]
      by_cases g : ltS l[(i + j) / 2] x = true
      · obtain ⟨p, b, e, r⟩ := ih ((i + j) / 2 + 1) j (by omega) (by omega) h3 (fun k hk hki => by
          by_cases e : k = (i + j) / 2
          · subst e; exact g
          · exact linS.trans _ _ _ (rising_lt hr (show k < (i + j) / 2 by omega) hlt) g) h5
        refine ⟨p, b, Ev.succ ?_, r⟩
        simp only [slices_BinarySearch_string_string.l0, c1, ↓reduceIte, hm, c2, c3, rdOf_nat ByteArray.empty l _ hlt, hless, Option.bind_some, g, hw]
        exact e
      · have g' : ltS l[(i + j) / 2] x = false := by simpa using g
        obtain ⟨p, b, e, r⟩ := ih i ((i + j) / 2) (by omega) (by omega) (by omega) h4 (fun _ => g')
        refine ⟨p, b, Ev.succ ?_, r⟩
        simp only [slices_BinarySearch_string_string.l0, c1, ↓reduceIte, hm, c2, c3, rdOf_nat ByteArray.empty l _ hlt, hless, Option.bind_some, g', Bool.false_eq_true]
        exact e
def cellV (a : Int) (l : List ByteArray) (s : ByteArray) : Int := if blankS (rdOf ByteArray.empty l (placeV a 0 s (l.length : Int))) = true then placeV a 0 s (l.length : Int) else if blankS (rdOf ByteArray.empty l (placeV a 1 s (l.length : Int))) = true then placeV a 1 s (l.length : Int) else -1
theorem cellV_lt (a : Int) (l : List ByteArray) (s : ByteArray) (h : 1 ≤ l.length) : cellV a l s < (l.length : Int) := by
  have h0 := place_range (a := a) (b := 0) (s := s) (n := (l.length : Int)) (by omega)
  have h1 := place_range (a := a) (b := 1) (s := s) (n := (l.length : Int)) (by omega)
  unfold cellV
  split
  · exact h0.2
  · split
    · exact h1.2
    · omega
theorem cellV_at {a : Int} {l : List ByteArray} {s : ByteArray} (h : cellV a l s ≥ 0) : blankS (rdOf ByteArray.empty l (cellV a l s)) = true ∧ (placeV a 0 s (l.length : Int) = cellV a l s ∨ placeV a 1 s (l.length : Int) = cellV a l s) := by
  unfold cellV at h ⊢
  split
  · rename_i c
    exact ⟨c, .inl rfl⟩
  · split
    · rename_i c
      exact ⟨c, .inr rfl⟩
    · rename_i c d
      rw [if_neg c, if_neg d] at h
      omega
theorem spec_cuEmpty_ev (a : Int) (l m : List ByteArray) (s : ByteArray) (hs : s.size ≤ 9223372036854775807) (ha0 : 0 ≤ a) (ha1 : a ≤ 9999) (hl0 : 1 ≤ l.length) (hl1 : l.length ≤ 64) : Ev (fun k => spec_cuEmpty.f k a l m s) (cellV a l s) := by
  have h0 := place_range (a := a) (b := 0) (s := s) (n := (l.length : Int)) (by omega)
  have h1 := place_range (a := a) (b := 1) (s := s) (n := (l.length : Int)) (by omega)
  unfold spec_cuEmpty.f
  refine Ev.bind (spec_cuCells_ev a s (l.length : Int) hs ha0 ha1 (by omega) (by omega)) ?_
  unfold cellV
  generalize placeV a 0 s (l.length : Int) = x at *
  generalize placeV a 1 s (l.length : Int) = y at *
  have e0 : rd [x, y] 0 = x := rfl
  have e1 : rd [x, y] 1 = y := rfl
  have hlen : (([x, y] : List Int).length : Int) = 2 := rfl
  have w1 : wrap64 (0 + 1) = 1 := (w64 (n := 0 + 1) (by omega) (by omega)).trans rfl
  have w2 : wrap64 (1 + 1) = 2 := (w64 (n := 1 + 1) (by omega) (by omega)).trans rfl
  rw [hlen]
  refine Ev.succ ?_
  simp only [spec_cuEmpty.l0, hlen, e0, show (0 : Int) < 2 from by decide, show (0 : Int) ≤ 0 from by decide, h0.1, h0.2, ↓reduceIte, w1]
  by_cases c : (rdOf ByteArray.empty l x).toList = ([] : List UInt8)
  · have c' : blankS (rdOf ByteArray.empty l x) = true := decide_eq_true c
    simp only [c, c', ↓reduceIte]
    exact Ev.now _
  · have c' : blankS (rdOf ByteArray.empty l x) = false := decide_eq_false c
    simp only [c, c', ↓reduceIte, Bool.false_eq_true]
    refine Ev.succ ?_
    simp only [spec_cuEmpty.l0, hlen, e1, show (1 : Int) < 2 from by decide, show (0 : Int) ≤ 1 from by decide, h1.1, h1.2, ↓reduceIte, w2]
    by_cases d : (rdOf ByteArray.empty l y).toList = ([] : List UInt8)
    · have d' : blankS (rdOf ByteArray.empty l y) = true := decide_eq_true d
      simp only [d, d', ↓reduceIte]
      exact Ev.now _
    · have d' : blankS (rdOf ByteArray.empty l y) = false := decide_eq_false d
      simp only [d, d', ↓reduceIte, Bool.false_eq_true]
      refine Ev.succ ?_
      simp only [spec_cuEmpty.l0, show ¬ ((2 : Int) < 2) from by decide, ↓reduceIte]
      exact Ev.now _
theorem impl_settle_ev (a : Int) (l : List ByteArray) (s : ByteArray) (hs : s.size ≤ 9223372036854775807) (ha0 : 0 ≤ a) (ha1 : a ≤ 9999) (hl0 : 1 ≤ l.length) (hl1 : l.length ≤ 64) : Ev (fun k => impl_settle.f k a l s) (if cellV a l s ≥ 0 then (true, l.set (cellV a l s).toNat s) else (false, l)) := by
  have h0 := place_range (a := a) (b := 0) (s := s) (n := (l.length : Int)) (by omega)
  have h1 := place_range (a := a) (b := 1) (s := s) (n := (l.length : Int)) (by omega)
  unfold impl_settle.f
  refine Ev.bind (impl_cellsOf_ev a s (l.length : Int) hs ha0 ha1 (by omega) (by omega)) ?_
  unfold cellV
  generalize placeV a 0 s (l.length : Int) = x at *
  generalize placeV a 1 s (l.length : Int) = y at *
  simp only [h0.1, h0.2, ↓reduceIte]
  by_cases c : (rdOf ByteArray.empty l x).toList = ([] : List UInt8)
  · have c' : blankS (rdOf ByteArray.empty l x) = true := decide_eq_true c
    simp only [c, c', ↓reduceIte, show x ≥ 0 from h0.1]
    exact Ev.now _
  · have c' : blankS (rdOf ByteArray.empty l x) = false := decide_eq_false c
    simp only [c, c', ↓reduceIte, Bool.false_eq_true, h1.1, h1.2]
    by_cases d : (rdOf ByteArray.empty l y).toList = ([] : List UInt8)
    · have d' : blankS (rdOf ByteArray.empty l y) = true := decide_eq_true d
      simp only [d, d', ↓reduceIte, show y ≥ 0 from h1.1]
      exact Ev.now _
    · have d' : blankS (rdOf ByteArray.empty l y) = false := decide_eq_false d
      simp only [d, d', ↓reduceIte, Bool.false_eq_true, show ¬ ((-1 : Int) ≥ 0) from by decide]
      exact Ev.now _
/-- A key in a blank cell is one key more; in another's cell it is there for that one. -/
theorem fullS_set_blank {l : List ByteArray} {i : Nat} {s : ByteArray} (h : i < l.length) (hb : blankS l[i] = true) (hs : blankS s = false) : (fullS (l.set i s)).Perm (s :: fullS l) := by
  unfold fullS
  rw [List.set_eq_take_append_cons_drop, if_pos h]
  have e : l = l.take i ++ l[i] :: l.drop (i + 1) := by rw [← drop_cons l i h, List.take_append_drop]
  conv => rhs; rw [e]
  rw [List.filter_append, List.filter_cons, List.filter_append, List.filter_cons]
  simp only [hb, hs, Bool.not_false, Bool.not_true, ↓reduceIte, Bool.false_eq_true]
  exact List.perm_middle
theorem fullS_set_full {l : List ByteArray} {i : Nat} {s : ByteArray} (h : i < l.length) (hb : blankS l[i] = false) (hs : blankS s = false) : (l[i] :: fullS (l.set i s)).Perm (s :: fullS l) := by
  unfold fullS
  rw [List.set_eq_take_append_cons_drop, if_pos h]
  have e : l = l.take i ++ l[i] :: l.drop (i + 1) := by rw [← drop_cons l i h, List.take_append_drop]
  conv => rhs; rw [e]
  rw [List.filter_append, List.filter_cons, List.filter_append, List.filter_cons]
  simp only [hb, hs, Bool.not_false, ↓reduceIte]
  refine (List.Perm.cons _ List.perm_middle).trans ((List.Perm.swap _ _ _).trans ?_)
  exact List.Perm.cons _ List.perm_middle.symm
theorem cellsFrom_of {a : Int} {l : List ByteArray} (h : ∀ i, (hi : i < l.length) → cellOk a l.length l[i] i = true) : cellsFrom a l 0 = true := by
  unfold cellsFrom
  rw [List.all_eq_true]
  intro i hi
  rw [List.mem_range'_1] at hi
  rw [rdOf_nat _ _ _ (by omega)]
  exact h i (by omega)
theorem cellsFrom_set {a : Int} {l : List ByteArray} (h : cellsFrom a l 0 = true) {i : Nat} {s : ByteArray} (hs : isKey s = true) (hi : placeV a 0 s (l.length : Int) = (i : Int) ∨ placeV a 1 s (l.length : Int) = (i : Int)) : cellsFrom a (l.set i s) 0 = true := by
  refine cellsFrom_of fun j hj => ?_
  rw [List.length_set] at hj ⊢
  rw [List.getElem_set]
  by_cases c : i = j
  · rw [if_pos c]
    subst c
    unfold cellOk
    simp only [hs, Bool.true_and, Bool.or_eq_true, decide_eq_true_eq]
    exact .inr hi
  · rw [if_neg c]
    exact cellsFrom_mem h j hj
/-- What is right of a table, one key being in hand: its cells, its stash, no key twice. -/
structure Held (a : Int) (l m : List ByteArray) (s : ByteArray) (R : List ByteArray) : Prop where
  a0 : 0 ≤ a
  a1 : a ≤ 9999
  l0 : 1 ≤ l.length
  l1 : l.length ≤ 64
  m1 : m.length ≤ 4
  cells : cellsFrom a l 0 = true
  keys : areKeys m = true
  key : isKey s = true
  perm : (s :: allV l m).Perm R
  nodup : R.Nodup
structure Done (a : Int) (l m R : List ByteArray) : Prop where
  a0 : 0 ≤ a
  a1 : a ≤ 9999
  l0 : 1 ≤ l.length
  l1 : l.length ≤ 64
  m1 : m.length ≤ 4
  cells : cellsFrom a l 0 = true
  keys : areKeys m = true
  perm : (allV l m).Perm R
  nodup : R.Nodup
theorem Done.good {a : Int} {l m R : List ByteArray} (h : Done a l m R) (hR : R.length ≤ 40) : goodCuckoo a l m = true := by
  unfold goodCuckoo headOk
  have h1 : (allV l m).length = R.length := h.perm.length_eq
  have h2 : (putAll ltS (allV l m) []).length = (allV l m).length := (putAll_nodup linS _).2 (h.perm.nodup_iff.2 h.nodup)
  have := h.a0; have := h.a1; have := h.l0; have := h.l1; have := h.m1
  simp only [h.cells, h.keys, h2, Bool.and_eq_true, decide_eq_true_eq, and_true, true_and, Bool.true_and]
  omega
theorem Held.fresh {a : Int} {l m : List ByteArray} {s : ByteArray} {R : List ByteArray} (h : Held a l m s R) : s ∉ m := by
  have h1 := h.perm.nodup_iff.2 h.nodup
  rw [List.nodup_cons] at h1
  intro hs
  exact h1.1 (by unfold allV; exact List.mem_append_right _ hs)
theorem Held.blank {a : Int} {l m : List ByteArray} {s : ByteArray} {R : List ByteArray} (h : Held a l m s R) {i : Nat} (hi : i < l.length) (hb : blankS l[i] = true) (hp : placeV a 0 s (l.length : Int) = (i : Int) ∨ placeV a 1 s (l.length : Int) = (i : Int)) : Done a (l.set i s) m R where
  a0 := h.a0
  a1 := h.a1
  l0 := by rw [List.length_set]; exact h.l0
  l1 := by rw [List.length_set]; exact h.l1
  m1 := h.m1
  cells := cellsFrom_set h.cells h.key hp
  keys := h.keys
  perm := by
    refine List.Perm.trans ?_ h.perm
    unfold allV
    rw [← List.cons_append]
    exact (fullS_set_blank hi hb (isKey_full h.key)).append_right m
  nodup := h.nodup
theorem Held.full {a : Int} {l m : List ByteArray} {s : ByteArray} {R : List ByteArray} (h : Held a l m s R) {i : Nat} (hi : i < l.length) (hb : blankS l[i] = false) (hp : placeV a 0 s (l.length : Int) = (i : Int) ∨ placeV a 1 s (l.length : Int) = (i : Int)) : Held a (l.set i s) m l[i] R where
  a0 := h.a0
  a1 := h.a1
  l0 := by rw [List.length_set]; exact h.l0
  l1 := by rw [List.length_set]; exact h.l1
  m1 := h.m1
  cells := cellsFrom_set h.cells h.key hp
  keys := h.keys
  key := by
    have := cellsFrom_mem h.cells i hi
    unfold cellOk at this
    rw [hb, Bool.false_or, Bool.and_eq_true] at this
    exact this.1
  perm := by
    refine List.Perm.trans ?_ h.perm
    unfold allV
    rw [← List.cons_append, ← List.cons_append]
    exact (fullS_set_full hi hb (isKey_full h.key)).append_right m
  nodup := h.nodup
theorem Held.cellOf {a : Int} {l m : List ByteArray} {s : ByteArray} {R : List ByteArray} (h : Held a l m s R) {i : Nat} (hi : i < l.length) (hb : blankS l[i] = false) : placeV a 0 l[i] (l.length : Int) = (i : Int) ∨ placeV a 1 l[i] (l.length : Int) = (i : Int) := by
  have := cellsFrom_mem h.cells i hi
  unfold cellOk at this
  rw [hb, Bool.false_or, Bool.and_eq_true, Bool.or_eq_true, decide_eq_true_eq, decide_eq_true_eq] at this
  exact this.2
theorem Held.stashed {a : Int} {l m : List ByteArray} {s : ByteArray} {R : List ByteArray} (h : Held a l m s R) (hm : m.length + 1 ≤ 4) : Done a l (putG ltS s m) R := by
  have hk := (areKeys_iff m).1 h.keys
  have hr := putG_rising linS s hk.2.1
  have hlen := putG_length linS hk.2.1 h.fresh
  refine ⟨h.a0, h.a1, h.l0, h.l1, by omega, h.cells, (areKeys_iff _).2 ⟨?_, hr, by omega⟩, ?_, h.nodup⟩
  · intro x hx
    rcases mem_putG.1 hx with rfl | hx
    · exact h.key
    · exact hk.1 x hx
  · refine List.Perm.trans ?_ h.perm
    have h1 : (putG ltS s m).Perm (s :: m) := by
      refine (List.perm_ext_iff_of_nodup (hr.nodup linS) (List.nodup_cons.2 ⟨h.fresh, hk.2.1.nodup linS⟩)).2 fun z => ?_
      rw [mem_putG, List.mem_cons]
    unfold allV
    exact (List.Perm.append_left _ h1).trans List.perm_middle
/-- What a push answers: how many were thrown out, and the table; none where there is no room. -/
def ansV (a : Int) (r : Option (Int × List ByteArray × List ByteArray)) : Int × List ByteArray × List ByteArray × Int × Bool := match r with | some (t, l, m) => (a, l, m, t, true) | none => (0, [], [], 0, false)
def OkAns (a : Int) (R : List ByteArray) : Option (Int × List ByteArray × List ByteArray) → Prop | some (_, l, m) => Done a l m R | none => True
theorem sizeS {s : ByteArray} (h : isKey s = true) : s.size ≤ 9223372036854775807 := by have := isKey_size h; omega
theorem push_both (a mv : Int) (m R : List ByteArray) (hm0 : mv ≤ 40) (d : Nat) : ∀ (l : List ByteArray) (s : ByteArray) (i : Nat) (t : Int), t + (d : Int) = mv → 0 ≤ t → Held a l m s R → i < l.length → (placeV a 0 s (l.length : Int) = (i : Int) ∨ placeV a 1 s (l.length : Int) = (i : Int)) →
    ∃ (r : Option (Int × List ByteArray × List ByteArray)) (p : Int × Bool × List ByteArray × List ByteArray), Ev (fun k => impl_pushL a mv m k l s (i : Int) t) p ∧ (if p.2.1 = true then some (p.1, p.2.2.1, p.2.2.2) else none) = r ∧ Ev (fun k => spec_cuInsert.l0 k s mv (i : Int) t a l m) (ansV a r) ∧ OkAns a R r := by
  induction d with
  | zero =>
    intro l s i t ht h0 H hi hp
    obtain rfl : t = mv := by omega
    have c1 : (0 : Int) ≤ (i : Int) := by omega
    have c2 : (i : Int) < (l.length : Int) := by omega
    by_cases b : l[i].toList = ([] : List UInt8)
    · have hb : blankS l[i] = true := decide_eq_true b
      refine ⟨some (t, l.set i s, m), (t, true, l.set i s, m), Ev.succ ?_, by simp, Ev.succ ?_, H.blank hi hb hp⟩
      · simp only [impl_pushL, c1, c2, ↓reduceIte, rdOf_nat ByteArray.empty l i hi, b, Int.toNat_natCast]
        exact Ev.now _
      · simp only [spec_cuInsert.l0, c1, c2, ↓reduceIte, rdOf_nat ByteArray.empty l i hi, b, Int.toNat_natCast]
        exact Ev.now _
    · have hk := (areKeys_iff m).1 H.keys
      obtain ⟨p, f, e, p1, p2, p3⟩ := slices_BinarySearchS_ev m s hk.2.1 (by have := H.m1; omega)
      have hm1 := H.m1
      have hput := putG_at (lt := ltS) p1 p2 p3 H.fresh
      by_cases c : m.length + 1 ≤ 4
      · refine ⟨some (t, l, putG ltS s m), (t, true, l, putG ltS s m), Ev.succ ?_, by simp, Ev.succ ?_, H.stashed c⟩
        · simp only [impl_pushL, c1, c2, ↓reduceIte, rdOf_nat ByteArray.empty l i hi, b]
          refine Ev.bind e ?_
          have g : 0 ≤ (p : Int) ∧ (p : Int) ≤ (m.length : Int) ∧ m.length ≤ 1000 := by omega
          rw [if_pos g, Int.toNat_natCast, ← hput]
          exact Ev.some_ (by rw [decide_eq_true (by omega)])
        · have g : ¬ ((m.length : Int) = 4) := by omega
          simp only [spec_cuInsert.l0, c1, c2, ↓reduceIte, rdOf_nat ByteArray.empty l i hi, b, g]
          refine Ev.bind (spec_l1PutS_ev m s (by omega)) ?_
          exact Ev.now _
      · refine ⟨none, (t, false, l, putG ltS s m), Ev.succ ?_, by simp, Ev.succ ?_, trivial⟩
        · simp only [impl_pushL, c1, c2, ↓reduceIte, rdOf_nat ByteArray.empty l i hi, b]
          refine Ev.bind e ?_
          have g : 0 ≤ (p : Int) ∧ (p : Int) ≤ (m.length : Int) ∧ m.length ≤ 1000 := by omega
          rw [if_pos g, Int.toNat_natCast, ← hput]
          exact Ev.some_ (by rw [decide_eq_false (by omega)])
        · have g : (m.length : Int) = 4 := by omega
          simp only [spec_cuInsert.l0, c1, c2, ↓reduceIte, rdOf_nat ByteArray.empty l i hi, b, g]
          exact Ev.now _
  | succ d ih =>
    intro l s i t ht h0 H hi hp
    have c1 : (0 : Int) ≤ (i : Int) := by omega
    have c2 : (i : Int) < (l.length : Int) := by omega
    have c3 : ¬ (t = mv) := by omega
    by_cases b : l[i].toList = ([] : List UInt8)
    · have hb : blankS l[i] = true := decide_eq_true b
      refine ⟨some (t, l.set i s, m), (t, true, l.set i s, m), Ev.succ ?_, by simp, Ev.succ ?_, H.blank hi hb hp⟩
      · simp only [impl_pushL, c1, c2, ↓reduceIte, rdOf_nat ByteArray.empty l i hi, b, Int.toNat_natCast]
        exact Ev.now _
      · simp only [spec_cuInsert.l0, c1, c2, ↓reduceIte, rdOf_nat ByteArray.empty l i hi, b, Int.toNat_natCast]
        exact Ev.now _
    · have hb : blankS l[i] = false := decide_eq_false b
      have H2 := H.full hi hb hp
      have hx := place_range (a := a) (b := 0) (s := l[i]) (n := (l.length : Int)) (by have := H.l0; omega)
      have hy := place_range (a := a) (b := 1) (s := l[i]) (n := (l.length : Int)) (by have := H.l0; omega)
      have hc := H.cellOf hi hb
      have hl1 := H.l1
      have hl0 := H.l0
      obtain ⟨j, hj⟩ : ∃ j : Nat, (j : Int) = placeV a 0 l[i] (l.length : Int) + placeV a 1 l[i] (l.length : Int) - (i : Int) := ⟨(placeV a 0 l[i] (l.length : Int) + placeV a 1 l[i] (l.length : Int) - (i : Int)).toNat, by omega⟩
      have hjl : j < l.length := by omega
      have hw1 : wrap64 (placeV a 0 l[i] (l.length : Int) + placeV a 1 l[i] (l.length : Int)) = placeV a 0 l[i] (l.length : Int) + placeV a 1 l[i] (l.length : Int) := w64 (by omega) (by omega)
      have hw2 : wrap64 (placeV a 0 l[i] (l.length : Int) + placeV a 1 l[i] (l.length : Int) - (i : Int)) = (j : Int) := by rw [w64 (by omega) (by omega), hj]
      have hw3 : wrap64 (t + 1) = t + 1 := w64 (by omega) (by omega)
      have hlen : (l.set i s).length = l.length := List.length_set ..
      obtain ⟨r, p, e1, e2, e3, e4⟩ := ih (l.set i s) l[i] j (t + 1) (by omega) (by omega) H2 (by rw [hlen]; exact hjl) (by rw [hlen]; omega)
      refine ⟨r, p, Ev.succ ?_, e2, Ev.succ ?_, e4⟩
      · simp only [impl_pushL, c1, c2, c3, ↓reduceIte, rdOf_nat ByteArray.empty l i hi, b, Int.toNat_natCast]
        refine Ev.bind (impl_cellsOf_ev a l[i] (l.length : Int) (sizeS H2.key) H.a0 H.a1 (by omega) (by omega)) ?_
        simp only [hw1, hw2, hw3]
        exact e1
      · simp only [spec_cuInsert.l0, c1, c2, c3, ↓reduceIte, rdOf_nat ByteArray.empty l i hi, b, Int.toNat_natCast, Option.bind_some]
        unfold spec_cuOther.f
        rw [hlen]
        refine Ev.bind (Ev.bind (spec_cuCells_ev a l[i] (l.length : Int) (sizeS H2.key) H.a0 H.a1 (by omega) (by omega)) (r := (j : Int)) ?_) ?_
        · have k0 : (0 : Int) < (([placeV a 0 l[i] (l.length : Int), placeV a 1 l[i] (l.length : Int)] : List Int).length : Int) := by simp
          have k1 : (1 : Int) < (([placeV a 0 l[i] (l.length : Int), placeV a 1 l[i] (l.length : Int)] : List Int).length : Int) := by simp
          simp only [k0, k1, ↓reduceIte]
          rw [show rd [placeV a 0 l[i] (l.length : Int), placeV a 1 l[i] (l.length : Int)] 0 = placeV a 0 l[i] (l.length : Int) from rfl, show rd [placeV a 0 l[i] (l.length : Int), placeV a 1 l[i] (l.length : Int)] 1 = placeV a 1 l[i] (l.length : Int) from rfl, hw1, hw2]
          exact Ev.now _
        · rw [hw3]
          exact e3
/-- A key that is not there goes into a table: what the program and the reference answer, and that the table stays right. -/
theorem insert_both (a mv : Int) (l m : List ByteArray) (s : ByteArray) (R : List ByteArray) (hm0 : 0 ≤ mv) (hm1 : mv ≤ 40) (H : Held a l m s R) :
    ∃ r : Option (Int × List ByteArray × List ByteArray), Ev (fun k => (impl_settle.f k a l s).bind fun c => if c.1 = true then some (a, c.2, m, 0, true) else (impl_push.f k a c.2 m s mv).bind fun p => if p.2.1 = true then some (a, p.2.2.1, p.2.2.2, p.1, true) else some (0, ([] : List ByteArray), ([] : List ByteArray), 0, false)) (ansV a r) ∧ Ev (fun k => spec_cuInsert.f k a l m s mv) (ansV a r) ∧ OkAns a R r := by
  have hs := sizeS H.key
  have hl0 := H.l0
  have hl1 := H.l1
  have hlt := cellV_lt a l s H.l0
  by_cases c : cellV a l s ≥ 0
  · obtain ⟨hb, hp⟩ := cellV_at c
    obtain ⟨i, hi⟩ : ∃ i : Nat, cellV a l s = (i : Int) := ⟨(cellV a l s).toNat, by omega⟩
    rw [hi] at hb hp hlt
    have hil : i < l.length := by omega
    rw [rdOf_nat _ _ _ hil] at hb
    refine ⟨some (0, l.set i s, m), ?_, ?_, H.blank hil hb hp⟩
    · refine Ev.bind (impl_settle_ev a l s hs H.a0 H.a1 hl0 hl1) ?_
      simp only [c, ↓reduceIte, hi, Int.toNat_natCast]
      exact Ev.now _
    · unfold spec_cuInsert.f
      refine Ev.bind (spec_cuEmpty_ev a l m s hs H.a0 H.a1 hl0 hl1) ?_
      simp only [hi, show ((i : Int) ≥ 0) from by omega, show ((0 : Int) ≤ (i : Int)) from by omega, hlt, ↓reduceIte, Int.toNat_natCast]
      exact Ev.now _
  · have hx := place_range (a := a) (b := 0) (s := s) (n := (l.length : Int)) (by omega)
    obtain ⟨i, hi⟩ : ∃ i : Nat, placeV a 0 s (l.length : Int) = (i : Int) := ⟨(placeV a 0 s (l.length : Int)).toNat, by omega⟩
    obtain ⟨r, p, e1, e2, e3, e4⟩ := push_both a mv m R hm1 mv.toNat l s i 0 (by omega) (by omega) H (by omega) (.inl hi)
    refine ⟨r, ?_, ?_, e4⟩
    · refine Ev.bind (impl_settle_ev a l s hs H.a0 H.a1 hl0 hl1) ?_
      simp only [c, ↓reduceIte, Bool.false_eq_true]
      unfold impl_push.f
      refine Ev.bind (Ev.bind (impl_cellsOf_ev a s (l.length : Int) hs H.a0 H.a1 (by omega) (by omega)) (by rw [hi]; exact e1)) ?_
      rw [← e2]
      by_cases g : p.2.1 = true
      · simp only [g, ↓reduceIte]
        exact Ev.now _
      · simp only [g, ↓reduceIte]
        exact Ev.now _
    · unfold spec_cuInsert.f
      refine Ev.bind (spec_cuEmpty_ev a l m s hs H.a0 H.a1 hl0 hl1) ?_
      simp only [c, ↓reduceIte]
      refine Ev.bind (spec_cuCells_ev a s (l.length : Int) hs H.a0 H.a1 (by omega) (by omega)) ?_
      have k0 : (0 : Int) < (([placeV a 0 s (l.length : Int), placeV a 1 s (l.length : Int)] : List Int).length : Int) := by simp
      simp only [k0, ↓reduceIte]
      rw [show rd [placeV a 0 s (l.length : Int), placeV a 1 s (l.length : Int)] 0 = placeV a 0 s (l.length : Int) from rfl, hi]
      exact e3
theorem ansV_length {a : Int} {R : List ByteArray} {r : Option (Int × List ByteArray × List ByteArray)} (h : OkAns a R r) : (ansV a r).2.1.length ≤ 64 ∧ (ansV a r).2.2.1.length ≤ 64 := by
  cases r with
  | none => simp [ansV]
  | some r =>
    obtain ⟨t, l, m⟩ := r
    have h1 : Done a l m R := h
    have := h1.l1
    have := h1.m1
    simp only [ansV]
    omega
theorem impl_clone_eq (a : Int) (l m : List ByteArray) (hl : l.length ≤ 1000) (hm : m.length ≤ 1000) : impl_cloneCuckoo.f a l m = some (a, l, m) := by
  simp only [impl_cloneCuckoo.f, slices_Clone_string_string.f, show l.length < 8796093022208 from by omega, show m.length < 8796093022208 from by omega, ↓reduceIte, Option.bind_some]
theorem spec_cuMoves_eq (n : Int) : spec_cuMoves.f n = some (decide (0 ≤ n ∧ n ≤ 40)) := by
  simp only [spec_cuMoves.f, spec_l1In_eq, Option.bind_some]
theorem findV_no {l m : List ByteArray} {s : ByteArray} (h : s ∉ allV l m) (hs : blankS s = false) : ¬ findV l m s ≥ 0 := by
  have h1 : decide (findV l m s ≥ 0) = (l ++ m).any (isS s) := idxV_ge (isS s) (l ++ m)
  intro hf
  rw [decide_eq_true hf] at h1
  obtain ⟨x, hx, he⟩ := List.any_eq_true.1 h1.symm
  unfold isS at he
  rw [decide_eq_true_eq] at he
  subst he
  apply h
  unfold allV fullS
  rw [List.mem_append] at hx ⊢
  rcases hx with h3 | h3
  · exact .inl (List.mem_filter.2 ⟨h3, by rw [hs]; rfl⟩)
  · exact .inr h3
theorem impl_insert_ev {a mv : Int} {l m : List ByteArray} {s : ByteArray} {v : Int × List ByteArray × List ByteArray × Int × Bool} (h : goodCuckoo a l m = true) (hs : ∀ s ∈ l, s.size ≤ 9223372036854775807) (hs' : ∀ s ∈ m, s.size ≤ 9223372036854775807) (hk : isKey s = true) (hm0 : 0 ≤ mv) (hm1 : mv ≤ 40) (hf : ¬ findV l m s ≥ 0) (hn : (allV l m).length ≠ 40)
    (f1 : Ev (fun k => (impl_settle.f k a l s).bind fun c => if c.1 = true then some (a, c.2, m, 0, true) else (impl_push.f k a c.2 m s mv).bind fun p => if p.2.1 = true then some (a, p.2.2.1, p.2.2.2, p.1, true) else some (0, ([] : List ByteArray), ([] : List ByteArray), 0, false)) v) : Ev (fun k => impl_CuckooInsert.f k a l m s mv) v := by
  have hg := goodCuckoo_len h
  have e2 := impl_IsCuckoo_ev a l m (by omega) (by omega) hs hs'
  have e4 := impl_IsKey_ev s (sizeS hk)
  have e6 := impl_find_ev a l m s (by omega)
  have e9 := impl_all_eq a l m (by omega) (by omega) (by omega)
  have hn' : ((((allV l m).length : Nat) : Int) == 40) = false := by rw [beq_eq_false_iff_ne]; omega
  have hmv : 0 ≤ mv ∧ mv ≤ 40 := ⟨hm0, hm1⟩
  rw [h] at e2
  rw [hk] at e4
  unfold impl_CuckooInsert.f
  refine Ev.bind e2 ?_
  simp only [↓reduceIte]; refine Ev.bind e4 ?_; simp only [↓reduceIte, impl_in_eq, hmv, and_self, decide_true, Option.bind_some]; refine Ev.bind e6 ?_; simp only [hf, ↓reduceIte, e9, Option.bind_some]; rw [hn']
  refine Ev.succ ?_
  simp only [impl_CuckooInsert.j0, Bool.false_eq_true, ↓reduceIte, impl_clone_eq a l m (by omega) (by omega), Option.bind_some]
  exact f1
theorem strOfNums_one (x : Int) : (strOfNums [x]).size = 1 := by
  simp [strOfNums, ByteArray.size]
theorem laws_markText_l0 (f : Nat) : ∀ (n : Int) (acc : ByteArray), 0 ≤ n → n < 2 ^ f → n ≤ 4611686018427387904 → acc.size + f ≤ 1000 → ∃ r, Ev (fun k => laws_markText.l0 k n acc) r := by
  induction f with
  | zero =>
    intro n acc h0 h1 hn hs
    refine ⟨(⟨#[109]⟩ : ByteArray) ++ acc, Ev.succ ?_⟩
    have c1 : ¬ (n > 0) := by simp at h1; omega
    have c2 : 1 + acc.size ≤ 9223372036854775807 := by omega
    simp only [laws_markText.l0, c1, c2, ↓reduceIte]
    exact Ev.now _
  | succ f ih =>
    intro n acc h0 h1 hn hs
    by_cases c1 : n > 0
    · have e2 : (2 : Int) ^ (f + 1) = 2 * 2 ^ f := by rw [Int.pow_succ, Int.mul_comm]
      have e : wrap64 (Int.tdiv n 10) = n / 10 := by rw [tdiv_pos h0, w64 (by omega) (by omega)]
      have e3 := strOfNums_one ((wrap64 (48 + (Int.tmod n 10))) % 256)
      obtain ⟨r, hr⟩ := ih (n / 10) (strOfNums [(wrap64 (48 + (Int.tmod n 10))) % 256] ++ acc) (by omega) (by omega) (by omega) (by rw [ByteArray.size_append, e3]; omega)
      refine ⟨r, Ev.succ ?_⟩
      have c3 : (strOfNums [(wrap64 (48 + (Int.tmod n 10))) % 256]).size + acc.size ≤ 9223372036854775807 := by rw [e3]; omega
      simp only [laws_markText.l0, c1, ↓reduceIte, Option.bind_some, c3, e]
      exact hr
    · refine ⟨(⟨#[109]⟩ : ByteArray) ++ acc, Ev.succ ?_⟩
      have c2 : 1 + acc.size ≤ 9223372036854775807 := by omega
      simp only [laws_markText.l0, c1, c2, ↓reduceIte]
      exact Ev.now _
theorem laws_markText_some (n : Int) (h0 : 0 ≤ n) (hn : n ≤ 4611686018427387904) : ∃ r, Ev (fun k => laws_markText.f k n) r := by
  unfold laws_markText.f
  by_cases c : n ≤ 0
  · simp only [c, ↓reduceIte]
    exact ⟨_, Ev.now _⟩
  · simp only [c, ↓reduceIte]
    exact laws_markText_l0 63 n ⟨#[]⟩ h0 (by omega) hn (by decide)
theorem laws_markText_fn : ∃ f : Int → ByteArray, ∀ n : Int, 0 ≤ n → n ≤ 4611686018427387904 → Ev (fun k => laws_markText.f k n) (f n) :=
  ⟨fun n => if h : 0 ≤ n ∧ n ≤ 4611686018427387904 then Classical.choose (laws_markText_some n h.1 h.2) else ⟨#[]⟩, fun n h0 hn => by
    have e : (if h : 0 ≤ n ∧ n ≤ 4611686018427387904 then Classical.choose (laws_markText_some n h.1 h.2) else (⟨#[]⟩ : ByteArray)) = Classical.choose (laws_markText_some n h0 hn) := dif_pos ⟨h0, hn⟩
    show Ev _ (if h : 0 ≤ n ∧ n ≤ 4611686018427387904 then Classical.choose (laws_markText_some n h.1 h.2) else (⟨#[]⟩ : ByteArray))
    rw [e]
    exact Classical.choose_spec (laws_markText_some n h0 hn)⟩
theorem laws_markStringS_l0 (f : Int → ByteArray) (hf : ∀ n : Int, 0 ≤ n → n ≤ 4611686018427387904 → Ev (fun k => laws_markText.f k n) (f n)) (m : Int) (n : Nat) (h0 : 0 ≤ m) (hm : m + n ≤ 4611686018427387904) (d : Nat) : ∀ (i : Nat) (l : List ByteArray), l.length = n → l.take i = marksOf f m i → i + d = n → Ev (fun k => laws_markStringS.l0 k l (m + i) (i : Int)) (m + n, marksOf f m n) := by
  induction d with
  | zero =>
    intro i l hl ht hi
    obtain rfl : i = n := by omega
    refine Ev.succ ?_
    have h1 : ¬ ((i : Int) < (l.length : Int)) := by omega
    simp only [laws_markStringS.l0, h1, ↓reduceIte]
    rw [List.take_of_length_le (by omega)] at ht
    exact Ev.some_ (by rw [ht])
  | succ d ih =>
    intro i l hl ht hi
    refine Ev.succ ?_
    have h1 : (i : Int) < (l.length : Int) := by omega
    have h2 : (0 : Int) ≤ (i : Int) := by omega
    have hw : wrap64 ((i : Int) + 1) = ((i + 1 : Nat) : Int) := by rw [w64 (by omega) (by omega)]; rfl
    have hw2 : wrap64 (m + (i : Int) + 1) = m + ((i + 1 : Nat) : Int) := by rw [w64 (by omega) (by omega)]; omega
    simp only [laws_markStringS.l0, h1, h2, ↓reduceIte, hw, hw2, Int.toNat_natCast]
    refine Ev.bind (hf (m + i) (by omega) (by omega)) ?_
    exact ih (i + 1) (l.set i (f (m + i))) (by simp [hl]) (by rw [take_set_succ _ _ _ (by omega), ht, marksOf_succ]) (by omega)
theorem laws_markStringS_ev (f : Int → ByteArray) (hf : ∀ n : Int, 0 ≤ n → n ≤ 4611686018427387904 → Ev (fun k => laws_markText.f k n) (f n)) (l : List ByteArray) (m : Int) (h0 : 0 ≤ m) (hm : m + l.length ≤ 4611686018427387904) : Ev (fun k => laws_markStringS.f k l m) (m + l.length, marksOf f m l.length) := by
  have h := laws_markStringS_l0 f hf m l.length h0 hm l.length 0 l rfl (by simp [marksOf]) (by omega)
  simpa [laws_markStringS.f] using h
theorem laws_heldStringS_ev (f : Int → ByteArray) (hf : ∀ n : Int, 0 ≤ n → n ≤ 4611686018427387904 → Ev (fun k => laws_markText.f k n) (f n)) (m : Int) (n : Nat) (h0 : 0 ≤ m) (hm : m + n ≤ 4611686018427387904) : Ev (fun k => laws_heldStringS.f k (marksOf f m n) m) (m + n) := by
  have h := Ev.up (L := fun k i => laws_heldStringS.l0 k (marksOf f m n) (m + (i : Int)) (i : Int)) (r := fun _ => m + n) n ?_ ?_ 0 (Nat.zero_le _)
  · simpa [laws_heldStringS.f] using h
  · refine Ev.succ ?_
    have h1 : ¬ ((n : Int) < ((marksOf f m n).length : Int)) := by rw [marksOf_length]; omega
    simp only [laws_heldStringS.l0, h1, ↓reduceIte]
    exact Ev.now _
  · intro i hi ih
    refine Ev.succ ?_
    have h1 : (i : Int) < ((marksOf f m n).length : Int) := by rw [marksOf_length]; omega
    have h2 : (0 : Int) ≤ (i : Int) := by omega
    have h3 : rdOf ByteArray.empty (marksOf f m n) (i : Int) = f (m + i) := by rw [rdOf_nat _ _ _ (by rw [marksOf_length]; exact hi)]; simp [marksOf]
    have hw : wrap64 ((i : Int) + 1) = ((i + 1 : Nat) : Int) := by rw [w64 (by omega) (by omega)]; rfl
    have hw2 : wrap64 (m + (i : Int) + 1) = m + ((i + 1 : Nat) : Int) := by rw [w64 (by omega) (by omega)]; omega
    simp only [laws_heldStringS.l0, h1, h2, h3, ↓reduceIte, hw, hw2]
    refine Ev.bind (hf (m + i) (by omega) (by omega)) ?_
    simp only [↓reduceIte]
    exact ih
theorem szT_neg (l : List ByteArray) : ∀ m : Int, 0 ≤ m → szT l m < 0 → szT l m = -1 := by
  induction l with
  | nil =>
    intro m h0 h
    unfold szT at h
    omega
  | cons x r ih =>
    intro m h0 h
    unfold szT at h ⊢
    by_cases c : m - (x.size : Int) < 0
    · rw [if_pos c]
    · rw [if_neg c] at h ⊢
      exact ih _ (by omega) h
theorem szTexts_len {l : List ByteArray} {m : Int} (h : ¬ szTexts l m < 0) : szTexts l m + (l.length : Int) ≤ m := by
  have e : szTexts l m = if m - (l.length : Int) < 0 then -1 else szT l (m - (l.length : Int)) := rfl
  by_cases c : m - (l.length : Int) < 0
  · rw [if_pos c] at e; omega
  · rw [if_neg c] at e
    have := szT_le l (m - (l.length : Int)) (by omega)
    omega
def szCu (l m : List ByteArray) (x : Int) : Int := if szTexts l x < 0 then -1 else szTexts m (szTexts l x)
theorem szCu_of {l m : List ByteArray} {x : Int} (h : ¬ szCu l m x < 0) : (l.length : Int) ≤ x ∧ (m.length : Int) ≤ x ∧ (l.length : Int) + (m.length : Int) ≤ x := by
  unfold szCu at h
  by_cases c : szTexts l x < 0
  · rw [if_pos c] at h
    omega
  · rw [if_neg c] at h
    have z := szTexts_of c
    have z2 := szTexts_of h
    have z3 := szTexts_len c
    omega
theorem laws_eqCuckoo_self (a : Int) (l m : List ByteArray) (hl : l.length ≤ 9223372036854775807) (hm : m.length ≤ 9223372036854775807) : Ev (fun k => laws_eqCuckoo.f k a l m a l m) true := by
  simp only [laws_eqCuckoo.f, ↓reduceIte]
  refine Ev.bind (laws_eqStringS_self l hl) ?_
  simp only [↓reduceIte]
  refine Ev.bind (laws_eqStringS_self m hm) ?_
  simp only [↓reduceIte]
  exact Ev.now _
theorem laws_markCuckoo_ev (f : Int → ByteArray) (hf : ∀ n : Int, 0 ≤ n → n ≤ 4611686018427387904 → Ev (fun k => laws_markText.f k n) (f n)) (a : Int) (l m : List ByteArray) (x : Int) (h0 : 0 ≤ x) (hx : x + (l.length : Int) + (m.length : Int) ≤ 4611686018427387904) : Ev (fun k => laws_markCuckoo.f k a l m x) (x + (l.length : Int) + (m.length : Int), marksOf f x l.length, marksOf f (x + (l.length : Int)) m.length) := by
  unfold laws_markCuckoo.f
  exact Ev.bind (laws_markStringS_ev f hf l x h0 (by omega)) (Ev.bind (laws_markStringS_ev f hf m (x + (l.length : Int)) (by omega) (by omega)) (Ev.now _))
theorem laws_heldCuckoo_ev (f : Int → ByteArray) (hf : ∀ n : Int, 0 ≤ n → n ≤ 4611686018427387904 → Ev (fun k => laws_markText.f k n) (f n)) (a : Int) (n p : Nat) (x : Int) (h0 : 0 ≤ x) (hx : x + (n : Int) + (p : Int) ≤ 4611686018427387904) : Ev (fun k => laws_heldCuckoo.f k a (marksOf f x n) (marksOf f (x + (n : Int)) p) x) (x + (n : Int) + (p : Int)) := by
  unfold laws_heldCuckoo.f
  refine Ev.bind (laws_heldStringS_ev f hf x n h0 (by omega)) ?_
  simp only [show ¬ (x + (n : Int) < 0) from by omega, ↓reduceIte]
  refine Ev.bind (laws_heldStringS_ev f hf (x + (n : Int)) p (by omega) (by omega)) ?_
  simp only [show ¬ (x + (n : Int) + (p : Int) < 0) from by omega, ↓reduceIte]
  exact Ev.now _

theorem done_sizes {a : Int} {l m R : List ByteArray} (h : Done a l m R) (hR : ∀ s ∈ R, isKey s = true) : (∀ s ∈ l, s.size ≤ 9223372036854775807) ∧ (∀ s ∈ m, s.size ≤ 9223372036854775807) := by
  have hk := (areKeys_iff m).1 h.keys
  refine ⟨fun s hs => ?_, fun s hs => sizeS (hk.1 s hs)⟩
  cases hb : blankS s with
  | true =>
    unfold blankS at hb
    rw [decide_eq_true_eq, ByteArray.toList_eq] at hb
    have h2 : s.data.toList.length = 0 := by rw [hb]; rfl
    have h3 : s.size = s.data.size := rfl
    rw [Array.length_toList] at h2
    omega
  | false =>
    have h1 : s ∈ allV l m := by
      unfold allV fullS
      exact List.mem_append_left _ (List.mem_filter.2 ⟨hs, by rw [hb]; rfl⟩)
    exact sizeS (hR s (h.perm.mem_iff.1 h1))
theorem blank_empty : blankS (⟨#[]⟩ : ByteArray) = true := by decide +kernel
theorem done_new {a : Int} {c : Nat} (ha0 : 0 ≤ a) (ha1 : a ≤ 9999) (h0 : 1 ≤ c) (h1 : c ≤ 64) : Done a (List.replicate c (⟨#[]⟩ : ByteArray)) [] [] where
  a0 := ha0
  a1 := ha1
  l0 := by simpa using h0
  l1 := by simpa using h1
  m1 := by simp
  cells := cellsFrom_of fun i hi => by
    rw [List.getElem_replicate]
    unfold cellOk
    rw [blank_empty, Bool.true_or]
  keys := (areKeys_iff []).2 ⟨by simp, by simp [Rising], by simp⟩
  perm := by
    have e : fullS (List.replicate c (⟨#[]⟩ : ByteArray)) = [] := by
      unfold fullS
      rw [List.filter_eq_nil_iff]
      intro s hs
      rw [List.eq_of_mem_replicate hs, blank_empty]
      decide
    unfold allV
    rw [e]
    exact List.Perm.refl _
  nodup := List.nodup_nil
theorem of_both (a mv : Int) (ks : List ByteArray) (hm0 : 0 ≤ mv) (hm1 : mv ≤ 40) (hk : ∀ s ∈ ks, isKey s = true) (hn : ks.Nodup) (hl : ks.length ≤ 40) (d : Nat) : ∀ (i : Nat) (l m : List ByteArray), i + d = ks.length → Done a l m (ks.take i) →
    ∃ v : Int × List ByteArray × List ByteArray × Bool, Ev (fun k => spec_cuOf.l0 k mv ks (ks.length : Int) (i : Int) a l m) v ∧ Ev (fun k => impl_CuckooOf.l0 k mv ks (ks.length : Int) (i : Int) a l m) v ∧ v.2.1.length ≤ 64 ∧ v.2.2.1.length ≤ 64 := by
  induction d with
  | zero =>
    intro i l m hi H
    have c1 : ¬ ((i : Int) < (ks.length : Int)) := by omega
    have h1 := H.l1
    have h2 := H.m1
    refine ⟨(a, l, m, true), Ev.succ ?_, Ev.succ ?_, h1, by simp only; omega⟩
    · simp only [spec_cuOf.l0, c1, ↓reduceIte]; exact Ev.now _
    · simp only [impl_CuckooOf.l0, c1, ↓reduceIte]; exact Ev.now _
  | succ d ih =>
    intro i l m hi H
    have hil : i < ks.length := by omega
    have c1 : (i : Int) < (ks.length : Int) := by omega
    have c2 : (0 : Int) ≤ (i : Int) := by omega
    have hw : wrap64 ((i : Int) + 1) = ((i + 1 : Nat) : Int) := by rw [w64 (by omega) (by omega)]; rfl
    have hks := hk _ (List.getElem_mem hil)
    have hlen : (ks.take i).length = i := by rw [List.length_take]; omega
    have hmem : ks[i] ∉ allV l m := by
      rw [H.perm.mem_iff]
      intro h
      obtain ⟨j, hj, e⟩ := List.getElem_of_mem h
      rw [hlen] at hj
      rw [List.getElem_take] at e
      have h9 := List.pairwise_iff_getElem.1 hn j i (by omega) hil hj
      exact h9 e
    have hp : (ks[i] :: allV l m).Perm (ks.take (i + 1)) := by
      rw [List.take_succ_eq_append_getElem hil]
      exact (List.Perm.cons _ H.perm).trans (List.perm_append_singleton _ _).symm
    have hh : Held a l m ks[i] (ks.take (i + 1)) := ⟨H.a0, H.a1, H.l0, H.l1, H.m1, H.cells, H.keys, hks, hp, hn.sublist (List.take_sublist _ _)⟩
    have hgood := H.good (by omega)
    have hsz := done_sizes H (fun s hs => hk s (List.mem_of_mem_take hs))
    have hal : (allV l m).length = i := by rw [H.perm.length_eq, hlen]
    obtain ⟨r, f1, f2, f3⟩ := insert_both a mv l m ks[i] _ hm0 hm1 hh
    have f4 := impl_insert_ev hgood hsz.1 hsz.2 hks hm0 hm1 (findV_no hmem (isKey_full hks)) (by omega) f1
    cases r with
    | none =>
      refine ⟨(0, [], [], false), Ev.succ ?_, Ev.succ ?_, by simp, by simp⟩
      · simp only [spec_cuOf.l0, c1, c2, ↓reduceIte, rdOf_nat ByteArray.empty ks i hil]
        refine Ev.bind f2 ?_
        simp only [ansV, Bool.false_eq_true, ↓reduceIte]
        exact Ev.now _
      · simp only [impl_CuckooOf.l0, c1, c2, ↓reduceIte, rdOf_nat ByteArray.empty ks i hil]
        refine Ev.bind f4 ?_
        simp only [ansV, Bool.false_eq_true, ↓reduceIte]
        exact Ev.now _
    | some r =>
      obtain ⟨t, l2, m2⟩ := r
      obtain ⟨v, e1, e2, e3⟩ := ih (i + 1) l2 m2 (by omega) f3
      refine ⟨v, Ev.succ ?_, Ev.succ ?_, e3⟩
      · simp only [spec_cuOf.l0, c1, c2, ↓reduceIte, rdOf_nat ByteArray.empty ks i hil]
        refine Ev.bind f2 ?_
        simp only [ansV, ↓reduceIte, hw]
        exact e1
      · simp only [impl_CuckooOf.l0, c1, c2, ↓reduceIte, rdOf_nat ByteArray.empty ks i hil]
        refine Ev.bind f4 ?_
        simp only [ansV, ↓reduceIte, hw]
        exact e2
theorem of_fn (a c mv : Int) (ks : List ByteArray) (hl : ks.length ≤ 9223372036854775807) (hs : ∀ s ∈ ks, s.size ≤ 9223372036854775807) :
    ∃ v : Int × List ByteArray × List ByteArray × Bool, Ev (fun k => spec_CuckooOf.f k a ks c mv) v ∧ Ev (fun k => impl_CuckooOf.f k a ks c mv) v ∧ v.2.1.length ≤ 64 ∧ v.2.2.1.length ≤ 64 := by
  have no2 : ∀ (y : Int) (x3 x4 : List ByteArray), Ev (fun k => impl_CuckooOf.j0 k ks mv true y x3 x4) (0, [], [], false) := fun y x3 x4 => by
    refine Ev.succ ?_
    simp only [impl_CuckooOf.j0, ↓reduceIte]
    exact Ev.now _
  unfold spec_CuckooOf.f spec_cuKeyed.f impl_CuckooOf.f impl_NewCuckoo.f
  simp only [spec_cuSize_eq, impl_isSeed_eq, impl_cellsOk_eq, Option.bind_some, spec_cuMoves_eq, impl_in_eq]
  by_cases h1 : 0 ≤ a ∧ a ≤ 9999
  · by_cases h2 : 1 ≤ c ∧ c ≤ 64
    · have e1 := spec_biKeys_ev ks hl hs
      have e2 := impl_AreKeys_ev ks hl hs
      have h3 : 0 ≤ c := by omega
      have h4 : c.toNat ≤ 17592186044416 := by omega
      simp only [h1, h2, h3, h4, and_self, decide_true, ↓reduceIte, Option.bind_some]
      cases hk : areKeys ks with
      | false =>
        rw [hk] at e1 e2
        refine ⟨(0, [], [], false), Ev.bind (Ev.bind e1 (Ev.now _)) ?_, Ev.bind e2 ?_, by simp, by simp⟩
        · simp only [Bool.false_eq_true, ↓reduceIte]; exact Ev.now _
        · simp only [Bool.false_eq_true, ↓reduceIte]; exact no2 _ _ _
      | true =>
        rw [hk] at e1 e2
        have hkk := (areKeys_iff ks).1 hk
        by_cases hmv : 0 ≤ mv ∧ mv ≤ 40
        · obtain ⟨v, f1, f2, f3⟩ := of_both a mv ks hmv.1 hmv.2 hkk.1 (hkk.2.1.nodup linS) hkk.2.2 ks.length 0 (List.replicate c.toNat (⟨#[]⟩ : ByteArray)) [] (by omega) (by rw [List.take_zero]; exact done_new h1.1 h1.2 (by omega) (by omega))
          refine ⟨v, Ev.bind (Ev.bind e1 (Ev.now _)) ?_, Ev.bind e2 ?_, f3⟩
          · simp only [↓reduceIte, hmv, and_self, decide_true, spec_cuOf.f, h3, h4]
            exact Ev.bind f1 (Ev.now _)
          · simp only [↓reduceIte, hmv, and_self, decide_true, Bool.not_true]
            refine Ev.succ ?_
            simp only [impl_CuckooOf.j0, Bool.false_eq_true, ↓reduceIte]
            exact f2
        · refine ⟨(0, [], [], false), Ev.bind (Ev.bind e1 (Ev.now _)) ?_, Ev.bind e2 ?_, by simp, by simp⟩
          · simp only [↓reduceIte, hmv, decide_false, Bool.false_eq_true]; exact Ev.now _
          · simp only [↓reduceIte, hmv, decide_false, Bool.not_false]; exact no2 _ _ _
    · simp only [h1, h2, and_self, and_false, decide_true, decide_false, ↓reduceIte, Option.bind_some, Bool.false_eq_true]
      exact ⟨(0, [], [], false), Ev.now _, no2 _ _ _, by simp, by simp⟩
  · simp only [h1, false_and, decide_false, ↓reduceIte, Option.bind_some, Bool.false_eq_true]
    exact ⟨(0, [], [], false), Ev.now _, no2 _ _ _, by simp, by simp⟩
theorem FnExactCuckooOf : ∀ (a0 : Int) (l1 : List ByteArray) (a2 : Int) (a3 : Int), ((Lit.int .i64 a0).wf = true) → (l1.length ≤ maxLen ∧ ∀ l1' ∈ l1, l1'.size ≤ maxLen) → ((Lit.int .i64 a2).wf = true) → ((Lit.int .i64 a3).wf = true) → ∃ k, laws_FnExactCuckooOf.f k a0 l1 a2 a3 = some true := by
  intro a ks c mv h0 hl hc hmv
  refine Ev.rounds ?_
  have hl1 : ks.length ≤ 9223372036854775807 := by have := hl.1; unfold maxLen at this; exact this
  have hl2 : ∀ s ∈ ks, s.size ≤ 9223372036854775807 := by have := hl.2; unfold maxLen at this; exact this
  obtain ⟨f, hf⟩ := laws_markText_fn
  unfold laws_FnExactCuckooOf.f
  refine Ev.bind (laws_szStringS_ev ks 1048576 hl1 hl2 (by decide) (by decide)) ?_
  by_cases z : szTexts ks 1048576 < 0
  · simp only [z, ↓reduceIte]; exact Ev.now _
  simp only [z, ↓reduceIte]
  have zz := szTexts_of z
  obtain ⟨v, hv, hi, hg⟩ := of_fn a c mv ks hl1 hl2
  refine Ev.bind (laws_toStringS_ev ks (by omega)) ?_
  refine Ev.bind hv ?_
  refine Ev.bind (laws_toStringS_ev ks (by omega)) ?_
  refine Ev.bind hi ?_
  refine Ev.bind (laws_eqCuckoo_self v.1 v.2.1 v.2.2.1 (by omega) (by omega)) ?_
  simp only [bne_self_eq_false, ↓reduceIte]
  refine Ev.succ ?_
  simp only [laws_FnExactCuckooOf.j0, bne_self_eq_false, Bool.false_eq_true, ↓reduceIte]
  refine Ev.bind (laws_toStringS_ev ks (by omega)) ?_
  refine Ev.bind (laws_eqStringS_self ks hl1) ?_
  simp only [↓reduceIte]
  refine Ev.bind (laws_markStringS_ev f hf ks 1 (by omega) (by omega)) ?_
  simp only [show ¬ ((1 : Int) + (ks.length : Int) < 0) from by omega, ↓reduceIte]
  refine Ev.bind (laws_eqCuckoo_self v.1 v.2.1 v.2.2.1 (by omega) (by omega)) ?_
  simp only [↓reduceIte, bne_self_eq_false]
  refine Ev.succ ?_
  simp only [laws_FnExactCuckooOf.j1, bne_self_eq_false, Bool.false_eq_true, ↓reduceIte]
  refine Ev.bind (laws_markCuckoo_ev f hf v.1 v.2.1 v.2.2.1 1 (by omega) (by omega)) ?_
  refine Ev.bind (laws_heldCuckoo_ev f hf v.1 v.2.1.length v.2.2.1.length 1 (by omega) (by omega)) ?_
  simp only [show ¬ ((1 : Int) + (v.2.1.length : Int) + (v.2.2.1.length : Int) < 0) from by omega, ↓reduceIte]
  refine Ev.bind (laws_toStringS_ev ks (by omega)) ?_
  refine Ev.bind hi ?_
  refine Ev.bind (laws_eqCuckoo_self v.1 v.2.1 v.2.2.1 (by omega) (by omega)) ?_
  simp only [↓reduceIte, bne_self_eq_false]
  refine Ev.succ ?_
  simp only [laws_FnExactCuckooOf.j2, bne_self_eq_false, Bool.false_eq_true, ↓reduceIte]
  refine Ev.bind (laws_heldCuckoo_ev f hf v.1 v.2.1.length v.2.2.1.length 1 (by omega) (by omega)) ?_
  simp only [show ¬ ((1 : Int) + (v.2.1.length : Int) + (v.2.2.1.length : Int) < 0) from by omega, ↓reduceIte]
  exact Ev.now _

end Go.Proofs.Ythaicmebdgeamaa.Pure
