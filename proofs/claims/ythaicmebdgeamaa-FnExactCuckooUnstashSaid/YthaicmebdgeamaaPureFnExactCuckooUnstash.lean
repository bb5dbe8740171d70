/- The program's CuckooUnstash returns what the reference's returns, for all arguments. -/
import Derived.Test.YthaicmebdgeamaaPFnExactCuckooUnstashx10
import Derived.Test.YthaicmebdgeamaaBase
namespace Go.Proofs.Ythaicmebdgeamaa.Pure
open Go.RowKit Go.Proofs.Ythaicmebdgeamaa.PFnExactCuckooUnstash Go.Proofs.YthaicmebdgeamaaW.PrintWords Go.Proofs.YthaicmebdgeamaaW.PrintLast Go.Proofs.Ythaicmebdgeamaa.Base
set_option linter.unusedVariables false
set_option linter.unusedSimpArgs false

/-- A strict linear order, told by a Bool. -/
structure Lin {α : Type} (lt : α → α → Bool) : Prop where
  irr : ∀ x, lt x x = false
  trans : ∀ x y z, lt x y = true → lt y z = true → lt x z = true
  tri : ∀ x y, lt x y = true ∨ x = y ∨ lt y x = true
def putG {α : Type} [DecidableEq α] (lt : α → α → Bool) (x : α) : List α → List α
  | [] => [x]
  | y :: ys => if lt y x = true then y :: putG lt x ys else if y = x then y :: ys else x :: y :: ys
def Rising {α : Type} (lt : α → α → Bool) (l : List α) : Prop := l.Pairwise fun x y => lt x y = true
theorem mem_putG {α : Type} [DecidableEq α] {lt : α → α → Bool} {x z : α} {l : List α} : z ∈ putG lt x l ↔ z = x ∨ z ∈ l := by
  induction l with
  | nil => simp [putG]
  | cons y ys ih =>
    unfold putG
    by_cases c : lt y x = true
    · rw [if_pos c]
      simp only [List.mem_cons, ih]
      constructor
      · rintro (h | h | h)
        · exact .inr (.inl h)
        · exact .inl h
        · exact .inr (.inr h)
      · rintro (h | h | h)
        · exact .inr (.inl h)
        · exact .inl h
        · exact .inr (.inr h)
    · rw [if_neg c]
      by_cases d : y = x
      · rw [if_pos d]
        subst d
        simp
      · rw [if_neg d]
        simp
theorem putG_rising {α : Type} [DecidableEq α] {lt : α → α → Bool} (H : Lin lt) (x : α) {l : List α} (h : Rising lt l) : Rising lt (putG lt x l) := by
  induction l with
  | nil => simp [putG, Rising]
  | cons y ys ih =>
    unfold Rising at h ih ⊢
    rw [List.pairwise_cons] at h
    unfold putG
    by_cases c : lt y x = true
    · rw [if_pos c, List.pairwise_cons]
      refine ⟨?_, ih h.2⟩
      intro z hz
      rcases mem_putG.1 hz with rfl | hz
      · exact c
      · exact h.1 z hz
    · rw [if_neg c]
      by_cases d : y = x
      · rw [if_pos d]
        exact List.pairwise_cons.2 h
      · rw [if_neg d]
        have e : lt x y = true := by
          rcases H.tri x y with e | e | e
          · exact e
          · exact absurd e.symm d
          · exact absurd e c
        refine List.pairwise_cons.2 ⟨?_, List.pairwise_cons.2 h⟩
        intro z hz
        rcases List.mem_cons.1 hz with rfl | hz
        · exact e
        · exact H.trans _ _ _ e (h.1 z hz)
theorem Rising.nodup {α : Type} {lt : α → α → Bool} (H : Lin lt) {l : List α} (h : Rising lt l) : l.Nodup := by
  refine List.Pairwise.imp ?_ h
  intro a b hab e
  subst e
  rw [H.irr] at hab
  cases hab
theorem rising_ext {α : Type} {lt : α → α → Bool} (H : Lin lt) : ∀ {l m : List α}, Rising lt l → Rising lt m → (∀ x, x ∈ l ↔ x ∈ m) → l = m
  | [], [], _, _, _ => rfl
  | [], y :: m, _, _, h => absurd ((h y).2 (by simp)) (by simp)
  | x :: l, [], _, _, h => absurd ((h x).1 (by simp)) (by simp)
  | x :: l, y :: m, hl, hm, h => by
    unfold Rising at hl hm
    rw [List.pairwise_cons] at hl hm
    have e : x = y := by
      have h1 := (h x).1 (by simp)
      have h2 := (h y).2 (by simp)
      rcases List.mem_cons.1 h1 with e | e
      · exact e
      · rcases List.mem_cons.1 h2 with e2 | e2
        · exact e2.symm
        · have := H.trans _ _ _ (hl.1 y e2) (hm.1 x e)
          rw [H.irr] at this
          cases this
    subst e
    congr 1
    refine rising_ext H hl.2 hm.2 ?_
    intro z
    have hz := h z
    simp only [List.mem_cons] at hz
    constructor
    · intro h1
      rcases hz.1 (.inr h1) with e | e
      · subst e
        have := hl.1 z h1
        rw [H.irr] at this
        cases this
      · exact e
    · intro h1
      rcases hz.2 (.inr h1) with e | e
      · subst e
        have := hm.1 z h1
        rw [H.irr] at this
        cases this
      · exact e
theorem putG_same {α : Type} [DecidableEq α] {lt : α → α → Bool} (H : Lin lt) {x : α} {l : List α} (h : Rising lt l) (hx : x ∈ l) : putG lt x l = l := by
  refine rising_ext H (putG_rising H x h) h fun z => ?_
  rw [mem_putG]
  constructor
  · rintro (rfl | h)
    · exact hx
    · exact h
  · exact .inr
theorem putG_length {α : Type} [DecidableEq α] {lt : α → α → Bool} (H : Lin lt) {x : α} {l : List α} (h : Rising lt l) (hx : x ∉ l) : (putG lt x l).length = l.length + 1 := by
  have h1 : (putG lt x l).Perm (x :: l) := by
    refine (List.perm_ext_iff_of_nodup ((putG_rising H x h).nodup H) (List.nodup_cons.2 ⟨hx, h.nodup H⟩)).2 fun z => ?_
    rw [mem_putG, List.mem_cons]
  rw [h1.length_eq, List.length_cons]
theorem putG_length_le {α : Type} [DecidableEq α] {lt : α → α → Bool} (x : α) (l : List α) : (putG lt x l).length ≤ l.length + 1 := by
  induction l with
  | nil => simp [putG]
  | cons y ys ih =>
    unfold putG
    split
    · simp only [List.length_cons]
      omega
    · split <;> simp
def ltI (x y : Int) : Bool := decide (x < y)
theorem linI : Lin ltI where
  irr x := by simp [ltI]
  trans x y z h1 h2 := by
    simp only [ltI, decide_eq_true_eq] at *
    omega
  tri x y := by
    simp only [ltI, decide_eq_true_eq]
    omega
def putI (x : Int) (l : List Int) : List Int := putG ltI x l
def putAll {α : Type} [DecidableEq α] (lt : α → α → Bool) (xs l : List α) : List α := xs.foldl (fun l x => putG lt x l) l
theorem putAll_rising {α : Type} [DecidableEq α] {lt : α → α → Bool} (H : Lin lt) (xs : List α) : ∀ {l : List α}, Rising lt l → Rising lt (putAll lt xs l) := by
  induction xs with
  | nil => exact fun h => h
  | cons x xs ih => exact fun h => ih (putG_rising H x h)
theorem mem_putAll {α : Type} [DecidableEq α] {lt : α → α → Bool} {z : α} (xs : List α) : ∀ {l : List α}, z ∈ putAll lt xs l ↔ z ∈ xs ∨ z ∈ l := by
  induction xs with
  | nil => simp [putAll]
  | cons x xs ih =>
    intro l
    show z ∈ putAll lt xs (putG lt x l) ↔ _
    rw [ih, mem_putG, List.mem_cons]
    constructor
    · rintro (h | h | h)
      · exact .inl (.inr h)
      · exact .inl (.inl h)
      · exact .inr h
    · rintro ((h | h) | h)
      · exact .inr (.inl h)
      · exact .inl h
      · exact .inr (.inr h)
theorem rising_of_sorted {α : Type} {lt : α → α → Bool} (H : Lin lt) {m : List α} (hs : m.Pairwise fun x y => lt y x = false) (hn : m.Nodup) : Rising lt m := by
  unfold Rising
  refine List.Pairwise.imp ?_ (List.Pairwise.and hs hn)
  rintro a b ⟨h1, h2⟩
  rcases H.tri a b with h | h | h
  · exact h
  · exact absurd h h2
  · rw [h] at h1
    cases h1
theorem putAll_count {α : Type} [DecidableEq α] {lt : α → α → Bool} (H : Lin lt) (xs : List α) : ∀ {l : List α}, Rising lt l → (putAll lt xs l).length ≤ xs.length + l.length ∧ ((putAll lt xs l).length = xs.length + l.length ↔ xs.Nodup ∧ ∀ x ∈ xs, x ∉ l) := by
  induction xs with
  | nil => intro l _; simp [putAll]
  | cons x xs ih =>
    intro l hl
    obtain ⟨h1, h2⟩ := ih (putG_rising H x hl)
    show (putAll lt xs (putG lt x l)).length ≤ _ ∧ ((putAll lt xs (putG lt x l)).length = _ ↔ _)
    by_cases c : x ∈ l
    · rw [putG_same H hl c] at h1 h2 ⊢
      rw [List.length_cons]
      refine ⟨by omega, ?_⟩
      constructor
      · intro h
        omega
      · rintro ⟨_, h⟩
        exact absurd c (h x (by simp))
    · rw [putG_length H hl c] at h1 h2
      rw [List.length_cons]
      refine ⟨by omega, ?_⟩
      rw [show xs.length + 1 + l.length = xs.length + (l.length + 1) from by omega, h2, List.nodup_cons]
      constructor
      · rintro ⟨h3, h4⟩
        refine ⟨⟨fun hx => h4 x hx (mem_putG.2 (.inl rfl)), h3⟩, ?_⟩
        intro y hy
        rcases List.mem_cons.1 hy with rfl | hy
        · exact c
        · exact fun hyl => h4 y hy (mem_putG.2 (.inr hyl))
      · rintro ⟨⟨h3, h4⟩, h5⟩
        refine ⟨h4, ?_⟩
        intro y hy hyp
        rcases mem_putG.1 hyp with rfl | h6
        · exact h3 hy
        · exact h5 y (by simp [hy]) h6
theorem putAll_nodup {α : Type} [DecidableEq α] {lt : α → α → Bool} (H : Lin lt) (xs : List α) : (putAll lt xs []).length = xs.length ↔ xs.Nodup := by
  have h := (putAll_count H xs (l := []) (by simp [Rising])).2
  simpa using h
theorem sorted_put {α : Type} [DecidableEq α] {lt : α → α → Bool} (H : Lin lt) {m xs : List α} (hp : m.Perm xs) (hs : m.Pairwise fun x y => lt y x = false) (hn : xs.Nodup) : m = putAll lt xs [] := by
  refine rising_ext H (rising_of_sorted H hs (hp.symm.nodup hn)) (putAll_rising H xs (by simp [Rising])) fun x => ?_
  rw [mem_putAll, hp.mem_iff]
  simp
theorem sorted_rising {α : Type} {lt : α → α → Bool} (H : Lin lt) {m xs : List α} (hp : m.Perm xs) (hs : m.Pairwise fun x y => lt y x = false) : Rising lt m ↔ xs.Nodup := by
  constructor
  · exact fun h => hp.nodup (h.nodup H)
  · exact fun h => rising_of_sorted H hs (hp.symm.nodup h)
theorem spec_l1In_eq (a b c : Int) : spec_l1In.f a b c = some (decide (b ≤ a ∧ a ≤ c)) := by
  unfold spec_l1In.f
  by_cases h : b ≤ a <;> simp [h]
theorem spec_IsKey_ev (s : ByteArray) (hs : s.size ≤ 9223372036854775807) : Ev (fun k => spec_IsKey.f k s) (isKey s) := by
  have h := Ev.up (L := fun k i => spec_IsKey.l0 k s (i : Int)) (r := fun i => ((bytesOf s).drop i).all okByte && decide (1 ≤ (s.size : Int) ∧ (s.size : Int) ≤ 12)) s.size ?_ ?_ 0 (Nat.zero_le _)
  · exact h
  · refine Ev.succ ?_
    have h1 : ¬ ((s.size : Int) < (s.size : Int)) := by omega
    simp only [spec_IsKey.l0, h1, ↓reduceIte, spec_l1In_eq, Option.bind_some]
    exact Ev.some_ (by rw [List.drop_of_length_le (by rw [bytesOf_length]; exact Nat.le_refl _)]; simp)
  · intro i hi ih
    refine Ev.succ ?_
    have h1 : (i : Int) < (s.size : Int) := by omega
    have h2 : (0 : Int) ≤ (i : Int) := by omega
    have hw : wrap64 ((i : Int) + 1) = ((i + 1 : Nat) : Int) := by rw [w64 (by omega) (by omega)]; rfl
    have hb := bt_nat s i hi
    simp only [spec_IsKey.l0, h1, h2, ↓reduceIte, hw]
    rw [drop_cons _ _ (by rw [bytesOf_length]; exact hi), List.all_cons, ← hb]
    by_cases c1 : bt s i < 33
    · simp only [c1, ↓reduceIte]
      exact Ev.some_ (by simp [okByte]; omega)
    · by_cases c2 : bt s i > 125
      · simp only [c1, c2, ↓reduceIte]
        exact Ev.some_ (by simp [okByte]; omega)
      · simp only [c1, c2, ↓reduceIte]
        have c3 : okByte (bt s i) = true := by simp [okByte]; omega
        rw [c3, Bool.true_and]
        exact ih
theorem impl_in_eq (a b c : Int) : impl_in.f a b c = some (decide (b ≤ a ∧ a ≤ c)) := by
  unfold impl_in.f
  by_cases h : b ≤ a <;> simp [h]
theorem impl_IsKey_ev (s : ByteArray) (hs : s.size ≤ 9223372036854775807) : Ev (fun k => impl_IsKey.f k s) (isKey s) := by
  have h := Ev.up (L := fun k i => impl_IsKey.l0 k s (s.size : Int) (i : Int)) (r := fun i => ((bytesOf s).drop i).all okByte && decide (1 ≤ (s.size : Int) ∧ (s.size : Int) ≤ 12)) s.size ?_ ?_ 0 (Nat.zero_le _)
  · exact h
  · refine Ev.succ ?_
    have h1 : ¬ ((s.size : Int) < (s.size : Int)) := by omega
    simp only [impl_IsKey.l0, h1, ↓reduceIte, impl_in_eq, Option.bind_some]
    exact Ev.some_ (by rw [List.drop_of_length_le (by rw [bytesOf_length]; exact Nat.le_refl _)]; simp)
  · intro i hi ih
    refine Ev.succ ?_
    have h1 : (i : Int) < (s.size : Int) := by omega
    have h2 : (0 : Int) ≤ (i : Int) := by omega
    have hw : wrap64 ((i : Int) + 1) = ((i + 1 : Nat) : Int) := by rw [w64 (by omega) (by omega)]; rfl
    have hb := bt_nat s i hi
    simp only [impl_IsKey.l0, h1, h2, ↓reduceIte, hw]
    rw [drop_cons _ _ (by rw [bytesOf_length]; exact hi), List.all_cons, ← hb]
    by_cases c1 : bt s i < 33
    · simp only [c1, ↓reduceIte]
      exact Ev.some_ (by simp [okByte]; omega)
    · by_cases c2 : bt s i > 125
      · simp only [c1, c2, ↓reduceIte]
        exact Ev.some_ (by simp [okByte]; omega)
      · simp only [c1, c2, ↓reduceIte]
        have c3 : okByte (bt s i) = true := by simp [okByte]; omega
        rw [c3, Bool.true_and]
        exact ih
def keyAt (l : List ByteArray) (i : Nat) : Bool := isKey (rdOf ByteArray.empty l (i : Int)) && (decide (i = 0) || Op.bytesLess (rdOf ByteArray.empty l ((i - 1 : Nat) : Int)).toList (rdOf ByteArray.empty l (i : Int)).toList)
def keysFrom (l : List ByteArray) (i : Nat) : Bool := (List.range' i (l.length - i)).all (keyAt l) && decide ((l.length : Int) ≤ 40)
def areKeys (l : List ByteArray) : Bool := keysFrom l 0
theorem keysFrom_end (l : List ByteArray) : keysFrom l l.length = decide ((l.length : Int) ≤ 40) := by simp [keysFrom]
theorem keysFrom_step (l : List ByteArray) (i : Nat) (h : i < l.length) : keysFrom l i = (keyAt l i && keysFrom l (i + 1)) := by
  unfold keysFrom
  rw [show l.length - i = (l.length - (i + 1)) + 1 from by omega, List.range'_succ, List.all_cons, Bool.and_assoc]
theorem areKeys_of {l : List ByteArray} (h : areKeys l = true) : l.length ≤ 40 ∧ ∀ s ∈ l, isKey s = true := by
  unfold areKeys keysFrom at h
  simp only [Bool.and_eq_true, decide_eq_true_eq, List.all_eq_true, List.mem_range'] at h
  refine ⟨by omega, fun s hs => ?_⟩
  obtain ⟨i, hi, rfl⟩ := List.getElem_of_mem hs
  have := h.1 i ⟨i, by omega, by omega⟩
  unfold keyAt at this
  simp only [Bool.and_eq_true] at this
  rw [rdOf_nat _ _ _ hi] at this
  exact this.1
theorem rdOf_size {l : List ByteArray} (h : ∀ s ∈ l, s.size ≤ 9223372036854775807) (i : Int) : (rdOf ByteArray.empty l i).size ≤ 9223372036854775807 := by
  unfold rdOf
  rw [List.getD_eq_getElem?_getD]
  cases e : l[i.toNat]? with
  | none => simp
  | some x => simpa using h x (List.mem_of_getElem? e)
theorem spec_biKeys_ev (l : List ByteArray) (hl : l.length ≤ 9223372036854775807) (hs : ∀ s ∈ l, s.size ≤ 9223372036854775807) : Ev (fun k => spec_biKeys.f k l) (areKeys l) := by
  refine Ev.up (L := fun k i => spec_biKeys.l0 k l l (l.length : Int) (i : Int)) (r := fun i => keysFrom l i) l.length ?_ ?_ 0 (Nat.zero_le _)
  · refine Ev.succ ?_
    have h1 : ¬ ((l.length : Int) < (l.length : Int)) := by omega
    simp only [spec_biKeys.l0, h1, ↓reduceIte, keysFrom_end]
    exact Ev.now _
  · intro i hi ih
    refine Ev.succ ?_
    have h1 : (i : Int) < (l.length : Int) := by omega
    have h2 : (0 : Int) ≤ (i : Int) := by omega
    have hw : wrap64 ((i : Int) + 1) = ((i + 1 : Nat) : Int) := by rw [w64 (by omega) (by omega)]; rfl
    simp only [spec_biKeys.l0, h1, h2, ↓reduceIte, hw]
    refine Ev.bind (spec_IsKey_ev _ (rdOf_size hs _)) ?_
    rw [keysFrom_step l i hi]
    unfold keyAt
    cases isKey (rdOf ByteArray.empty l (i : Int)) with
    | false => simp only [Bool.false_eq_true, ↓reduceIte, Bool.false_and]; exact Ev.now _
    | true =>
      simp only [↓reduceIte, Bool.true_and]
      by_cases c : i = 0
      · subst c
        simp only [Int.natCast_zero, decide_true, Bool.true_or, Bool.true_and, ↓reduceIte, gt_iff_lt, Int.lt_irrefl]
        exact ih
      · have h3 : (i : Int) > 0 := by omega
        have hw1 : wrap64 ((i : Int) - 1) = ((i - 1 : Nat) : Int) := by rw [w64 (by omega) (by omega)]; omega
        have h4 : (0 : Int) ≤ ((i - 1 : Nat) : Int) := by omega
        have h5 : ((i - 1 : Nat) : Int) < (l.length : Int) := by omega
        simp only [c, h3, hw1, h4, h5, ↓reduceIte, decide_false, Bool.false_or]
        cases Op.bytesLess (rdOf ByteArray.empty l ((i - 1 : Nat) : Int)).toList (rdOf ByteArray.empty l (i : Int)).toList with
        | false => simp only [Bool.false_eq_true, ↓reduceIte, Bool.false_and]; exact Ev.now _
        | true => simp only [↓reduceIte, Bool.true_and]; exact ih
theorem impl_AreKeys_ev (l : List ByteArray) (hl : l.length ≤ 9223372036854775807) (hs : ∀ s ∈ l, s.size ≤ 9223372036854775807) : Ev (fun k => impl_AreKeys.f k l) (areKeys l) := by
  refine Ev.up (L := fun k i => impl_AreKeys.l0 k l l (l.length : Int) (i : Int)) (r := fun i => keysFrom l i) l.length ?_ ?_ 0 (Nat.zero_le _)
  · refine Ev.succ ?_
    have h1 : ¬ ((l.length : Int) < (l.length : Int)) := by omega
    simp only [impl_AreKeys.l0, h1, ↓reduceIte, keysFrom_end]
    exact Ev.now _
  · intro i hi ih
    refine Ev.succ ?_
    have h1 : (i : Int) < (l.length : Int) := by omega
    have h2 : (0 : Int) ≤ (i : Int) := by omega
    have hw : wrap64 ((i : Int) + 1) = ((i + 1 : Nat) : Int) := by rw [w64 (by omega) (by omega)]; rfl
    simp only [impl_AreKeys.l0, h1, h2, ↓reduceIte, hw]
    refine Ev.bind (impl_IsKey_ev _ (rdOf_size hs _)) ?_
    rw [keysFrom_step l i hi]
    unfold keyAt
    cases isKey (rdOf ByteArray.empty l (i : Int)) with
    | false => simp only [Bool.false_eq_true, ↓reduceIte, Bool.false_and]; exact Ev.now _
    | true =>
      simp only [↓reduceIte, Bool.true_and]
      by_cases c : i = 0
      · subst c
        simp only [Int.natCast_zero, decide_true, Bool.true_or, Bool.true_and, ↓reduceIte, gt_iff_lt, Int.lt_irrefl]
        exact ih
      · have h3 : (i : Int) > 0 := by omega
        have hw1 : wrap64 ((i : Int) - 1) = ((i - 1 : Nat) : Int) := by rw [w64 (by omega) (by omega)]; omega
        have h4 : (0 : Int) ≤ ((i - 1 : Nat) : Int) := by omega
        have h5 : ((i - 1 : Nat) : Int) < (l.length : Int) := by omega
        simp only [c, h3, hw1, h4, h5, ↓reduceIte, decide_false, Bool.false_or]
        cases Op.bytesLess (rdOf ByteArray.empty l ((i - 1 : Nat) : Int)).toList (rdOf ByteArray.empty l (i : Int)).toList with
        | false => simp only [Bool.false_eq_true, ↓reduceIte, Bool.false_and]; exact Ev.now _
        | true => simp only [↓reduceIte, Bool.true_and]; exact ih
def ltS (x y : ByteArray) : Bool := Op.bytesLess x.toList y.toList
theorem ltS_eq (x y : ByteArray) : ltS x y = decide (x.toList < y.toList) := bytesLess_eq _ _
theorem toList_inj {x y : ByteArray} (h : x.toList = y.toList) : x = y := by
  rw [ByteArray.toList_eq, ByteArray.toList_eq] at h
  cases x
  cases y
  congr
  exact Array.toList_inj.1 h
theorem linS : Lin ltS where
  irr x := by
    rw [ltS_eq, decide_eq_false_iff_not]
    exact List.lt_irrefl _
  trans x y z h1 h2 := by
    rw [ltS_eq, decide_eq_true_eq] at *
    exact List.lt_trans h1 h2
  tri x y := by
    rw [ltS_eq, ltS_eq, decide_eq_true_eq, decide_eq_true_eq]
    by_cases h1 : x.toList < y.toList
    · exact .inl h1
    · by_cases h2 : y.toList < x.toList
      · exact .inr (.inr h2)
      · exact .inr (.inl (toList_inj (List.le_antisymm (List.not_lt.1 h2) (List.not_lt.1 h1))))
/-- Right keys, rising: what is asked of a list of keys. -/
theorem areKeys_iff (l : List ByteArray) : areKeys l = true ↔ (∀ s ∈ l, isKey s = true) ∧ Rising ltS l ∧ l.length ≤ 40 := by
  constructor
  · intro h
    have h2 := areKeys_of h
    refine ⟨h2.2, ?_, h2.1⟩
    unfold areKeys keysFrom at h
    simp only [Bool.and_eq_true, decide_eq_true_eq, List.all_eq_true, List.mem_range'] at h
    have hstep : ∀ i, (hi : i + 1 < l.length) → ltS l[i] l[i + 1] = true := by
      intro i hi
      have := h.1 (i + 1) ⟨i + 1, by omega, by omega⟩
      unfold keyAt at this
      simp only [Bool.and_eq_true, Bool.or_eq_true, decide_eq_true_eq] at this
      rcases this.2 with h3 | h3
      · omega
      · rw [rdOf_nat _ _ _ hi, show i + 1 - 1 = i from rfl, rdOf_nat _ _ _ (by omega)] at h3
        exact h3
    unfold Rising
    rw [List.pairwise_iff_getElem]
    intro i j hi hj hij
    have H : ∀ d, (hd : i + 1 + d < l.length) → ltS l[i] l[i + 1 + d] = true := by
      intro d
      induction d with
      | zero => intro hd; exact hstep i hd
      | succ d ih =>
        intro hd
        exact linS.trans _ _ _ (ih (by omega)) (hstep (i + 1 + d) hd)
    have := H (j - i - 1) (by omega)
    simp only [show i + 1 + (j - i - 1) = j from by omega] at this
    exact this
  · rintro ⟨h1, h2, h3⟩
    unfold areKeys keysFrom
    simp only [Bool.and_eq_true, decide_eq_true_eq, List.all_eq_true, List.mem_range']
    refine ⟨?_, by omega⟩
    rintro i ⟨k, hk, rfl⟩
    unfold keyAt
    simp only [Bool.and_eq_true, Bool.or_eq_true, decide_eq_true_eq]
    have hk' : 0 + 1 * k < l.length := by omega
    refine ⟨by rw [rdOf_nat _ _ _ hk']; exact h1 _ (List.getElem_mem hk'), ?_⟩
    by_cases c : k = 0
    · exact .inl (by omega)
    · refine .inr ?_
      unfold Rising at h2
      rw [List.pairwise_iff_getElem] at h2
      have := h2 (0 + 1 * k - 1) (0 + 1 * k) (by omega) hk' (by omega)
      rw [rdOf_nat _ _ _ hk', rdOf_nat _ _ _ (by omega)]
      exact this
open Go.Proofs.Ythaicmebdgeamaa.Sorts in
theorem sortS_perm (l : List ByteArray) : (sortS l).Perm l := by
  unfold sortS
  have h1 := (List.mergeSort_perm (l.map fun s => s.data.toList) fun x y => decide (x ≤ y)).map fun b : List UInt8 => (⟨b.toArray⟩ : ByteArray)
  rw [List.map_map] at h1
  have h2 : (l.map ((fun b : List UInt8 => (⟨b.toArray⟩ : ByteArray)) ∘ fun s => s.data.toList)) = l := by
    conv => rhs; rw [← List.map_id l]
    exact List.map_congr_left fun s _ => rfl
  rw [h2] at h1
  exact h1
open Go.Proofs.Ythaicmebdgeamaa.Sorts in
theorem sortS_sorted (l : List ByteArray) : (sortS l).Pairwise fun x y => ltS y x = false := by
  unfold sortS
  rw [List.pairwise_map]
  refine List.Pairwise.imp ?_ (List.pairwise_mergeSort (le := fun x y : List UInt8 => decide (x ≤ y)) ?_ ?_ _)
  · intro a b h
    rw [ltS_eq, decide_eq_false_iff_not, ByteArray.toList_eq, ByteArray.toList_eq]
    simpa [List.not_lt] using h
  · intro a b c h1 h2
    simp only [decide_eq_true_eq] at *
    exact List.le_trans h1 h2
  · intro a b
    simp only [Bool.or_eq_true, decide_eq_true_eq]
    exact List.le_total a b
open Go.Proofs.Ythaicmebdgeamaa.Sorts in
/-- Sorted, a list of right keys is one just where no key stands twice. -/
theorem areKeys_sort {l : List ByteArray} (h : ∀ s ∈ l, isKey s = true) : areKeys (sortS l) = decide (l.length ≤ 40 ∧ (putAll ltS l []).length = l.length) := by
  rw [Bool.eq_iff_iff, areKeys_iff, decide_eq_true_eq, sorted_rising linS (sortS_perm l) (sortS_sorted l), putAll_nodup linS, (sortS_perm l).length_eq]
  constructor
  · rintro ⟨_, h2, h3⟩
    exact ⟨h3, h2⟩
  · rintro ⟨h2, h3⟩
    exact ⟨fun s hs => h s ((sortS_perm l).mem_iff.1 hs), h3, h2⟩
open Go.Proofs.Ythaicmebdgeamaa.Sorts in
theorem sortS_put {l : List ByteArray} (h : (putAll ltS l []).length = l.length) : sortS l = putAll ltS l [] := sorted_put linS (sortS_perm l) (sortS_sorted l) ((putAll_nodup linS l).1 h)
theorem mem_take_succ {l : List Int} {i : Nat} (h : i < l.length) (x : Int) : x ∈ l.take (i + 1) ↔ x ∈ l.take i ∨ x = rd l (i : Int) := by
  rw [List.take_succ_eq_append_getElem h, rd_nat l i h, List.mem_append, List.mem_singleton]
theorem spec_l1Has_ev (l : List Int) (x : Int) (hl : l.length ≤ 9223372036854775807) : Ev (fun k => spec_l1Has.f k l x) (decide (x ∈ l)) := by
  suffices h : ∀ d i : Nat, i + d = l.length → x ∉ l.take i → Ev (fun k => spec_l1Has.l0 k x l (l.length : Int) (i : Int)) (decide (x ∈ l)) from h l.length 0 (by omega) (by simp)
  intro d
  induction d with
  | zero =>
    intro i hi hn
    refine Ev.succ ?_
    have h1 : ¬ ((i : Int) < (l.length : Int)) := by omega
    rw [List.take_of_length_le (by omega)] at hn
    simp only [spec_l1Has.l0, h1, ↓reduceIte, hn, decide_false]
    exact Ev.now _
  | succ d ih =>
    intro i hi hn
    refine Ev.succ ?_
    have h1 : (i : Int) < (l.length : Int) := by omega
    have h2 : (0 : Int) ≤ (i : Int) := by omega
    have hw : wrap64 ((i : Int) + 1) = ((i + 1 : Nat) : Int) := by rw [w64 (by omega) (by omega)]; rfl
    simp only [spec_l1Has.l0, h1, h2, ↓reduceIte, hw]
    by_cases c : rd l (i : Int) = x
    · simp only [c, ↓reduceIte]
      have : x ∈ l := by rw [← c, rd_nat l i (by omega)]; exact List.getElem_mem _
      exact Ev.some_ (by simp [this])
    · simp only [c, ↓reduceIte]
      exact ih (i + 1) (by omega) (by rw [mem_take_succ (by omega)]; rintro (h | h); exact hn h; exact c h.symm)
theorem spec_cuSize_eq (a b : Int) : spec_cuSize.f a b = some (decide ((0 ≤ a ∧ a ≤ 9999) ∧ 1 ≤ b ∧ b ≤ 64)) := by
  by_cases h : 0 ≤ a ∧ a ≤ 9999 <;> simp [spec_cuSize.f, spec_l1In_eq, h]
theorem spec_pow (h : Int) (h0 : 0 ≤ h) (h1 : h < 65521) : Int.tmod (wrap64 ((Int.tmod (wrap64 ((Int.tmod (wrap64 ((Int.tmod (wrap64 ((Int.tmod (wrap64 (h * h)) 65521) * (Int.tmod (wrap64 (h * h)) 65521))) 65521) * h)) 65521) * (Int.tmod (wrap64 ((Int.tmod (wrap64 ((Int.tmod (wrap64 (h * h)) 65521) * (Int.tmod (wrap64 (h * h)) 65521))) 65521) * h)) 65521))) 65521) * h)) 65521 = h ^ 11 % 65521 := by
  have step : ∀ a b : Int, 0 ≤ a → a < 65521 → 0 ≤ b → b < 65521 → Int.tmod (wrap64 (a * b)) 65521 = a * b % 65521 := by
    intro a b ha ha' hb hb'
    obtain ⟨p0, p1⟩ := prod_range ha ha' hb hb'
    rw [w64 (by omega) (by omega), tmod_pos p0]
  have rng : ∀ x : Int, 0 ≤ x % 65521 ∧ x % 65521 < 65521 := fun x => ⟨Int.emod_nonneg _ (by decide), Int.emod_lt_of_pos _ (by decide)⟩
  rw [step h h h0 h1 h0 h1]
  rw [step _ _ (rng _).1 (rng _).2 (rng _).1 (rng _).2]
  rw [step _ _ (rng _).1 (rng _).2 h0 h1]
  rw [step _ _ (rng _).1 (rng _).2 (rng _).1 (rng _).2]
  rw [step _ _ (rng _).1 (rng _).2 h0 h1]
  simp only [mul_mod_l, mul_mod_r]
  congr 1
  simp only [Int.pow_succ, Int.pow_zero, Int.one_mul, Int.mul_assoc]
theorem spec_biHash_l0 (s : ByteArray) (hs : s.size ≤ 9223372036854775807) (d : Nat) : ∀ (i : Nat) (h : Int), i + d = s.size → 0 ≤ h → h < 65521 → Ev (fun k => spec_biHash.l0 k s h (i : Int)) (hashFrom h ((bytesOf s).drop i)) := by
  induction d with
  | zero =>
    intro i h hi h0 h1
    refine Ev.succ ?_
    have c1 : ¬ ((i : Int) < (s.size : Int)) := by omega
    simp only [spec_biHash.l0, c1, ↓reduceIte]
    rw [spec_pow h h0 h1]
    exact Ev.some_ (by rw [List.drop_of_length_le (by rw [bytesOf_length]; omega)]; rfl)
  | succ d ih =>
    intro i h hi h0 h1
    refine Ev.succ ?_
    have c1 : (i : Int) < (s.size : Int) := by omega
    have c2 : (0 : Int) ≤ (i : Int) := by omega
    have hw : wrap64 ((i : Int) + 1) = ((i + 1 : Nat) : Int) := by rw [w64 (by omega) (by omega)]; rfl
    have hb := bt_nat s i (by omega)
    have hr := bt_range s i
    have e : Int.tmod (wrap64 ((wrap64 (263 * h)) + (wrap64 (bt s i)))) 65521 = hstep h (bt s i) := by
      rw [w64 (n := 263 * h) (by omega) (by omega), w64 (n := bt s i) (by omega) (by omega), w64 (by omega) (by omega), tmod_pos (by omega)]
      rfl
    simp only [spec_biHash.l0, c1, c2, ↓reduceIte, hw, e]
    rw [drop_cons _ _ (by rw [bytesOf_length]; omega), ← hb]
    exact ih (i + 1) (hstep h (bt s i)) (by omega) (Int.emod_nonneg _ (by decide)) (Int.emod_lt_of_pos _ (by decide))
theorem spec_biHash_ev (a b : Int) (s : ByteArray) (hs : s.size ≤ 9223372036854775807) (ha0 : 0 ≤ a) (ha1 : a ≤ 9999) (hb0 : 0 ≤ b) (hb1 : b ≤ 9) : Ev (fun k => spec_biHash.f k a b s) (hashV a b s) := by
  have e : Int.tmod (wrap64 ((wrap64 ((wrap64 (31 * a)) + (wrap64 (977 * b)))) + 7)) 65521 = hash0 a b := by
    rw [w64 (n := 31 * a) (by omega) (by omega), w64 (n := 977 * b) (by omega) (by omega), w64 (n := 31 * a + 977 * b) (by omega) (by omega), w64 (by omega) (by omega), tmod_pos (by omega)]
    rfl
  unfold spec_biHash.f
  simp only [e]
  exact spec_biHash_l0 s hs s.size 0 (hash0 a b) (by omega) (Int.emod_nonneg _ (by decide)) (Int.emod_lt_of_pos _ (by decide))
theorem spec_biPlace_ev (a b : Int) (s : ByteArray) (n : Int) (hs : s.size ≤ 9223372036854775807) (ha0 : 0 ≤ a) (ha1 : a ≤ 9999) (hb0 : 0 ≤ b) (hb1 : b ≤ 9) (hn0 : 0 ≤ n) (hn1 : n ≤ 65521) : Ev (fun k => spec_biPlace.f k a b s n) (placeV a b s n) := by
  have hr := hash_range a b s
  have p0 : 0 ≤ hashV a b s * n := Int.mul_nonneg hr.1 hn0
  have p1 : hashV a b s * n ≤ 4293001441 := by
    have h1 : hashV a b s * n ≤ hashV a b s * 65521 := Int.mul_le_mul_of_nonneg_left (by omega) hr.1
    omega
  unfold spec_biPlace.f
  refine Ev.bind (spec_biHash_ev a b s hs ha0 ha1 hb0 hb1) ?_
  refine Ev.some_ ?_
  have h2 : hashV a b s * n / 65521 ≤ hashV a b s * n := Int.ediv_le_self _ p0
  have h3 : 0 ≤ hashV a b s * n / 65521 := Int.ediv_nonneg p0 (by decide)
  rw [w64 (n := hashV a b s * n) (by omega) (by omega), tdiv_pos p0, w64 (by omega) (by omega)]
  rfl
theorem spec_cuCells_ev (a : Int) (s : ByteArray) (n : Int) (hs : s.size ≤ 9223372036854775807) (ha0 : 0 ≤ a) (ha1 : a ≤ 9999) (hn0 : 0 ≤ n) (hn1 : n ≤ 65521) : Ev (fun k => spec_cuCells.f k a s n) [placeV a 0 s n, placeV a 1 s n] := by
  unfold spec_cuCells.f
  refine Ev.bind (spec_biPlace_ev a 0 s n hs ha0 ha1 (by decide) (by decide) hn0 hn1) ?_
  exact Ev.bind (spec_biPlace_ev a 1 s n hs ha0 ha1 (by decide) (by decide) hn0 hn1) (Ev.now _)
theorem impl_hash_l1 (h : Int) (h0 : 0 ≤ h) (h1 : h < 65521) (d : Nat) : ∀ (i : Nat) (o : Int), i + d = 11 → o = h ^ i % 65521 → Ev (fun k => impl_hash.l1 k h o (i : Int)) (h ^ 11 % 65521) := by
  induction d with
  | zero =>
    intro i o hi ho
    obtain rfl : i = 11 := by omega
    refine Ev.succ ?_
    simp only [impl_hash.l1]
    exact Ev.some_ ho
  | succ d ih =>
    intro i o hi ho
    refine Ev.succ ?_
    have c1 : (i : Int) < 11 := by omega
    have hw : wrap64 ((i : Int) + 1) = ((i + 1 : Nat) : Int) := by rw [w64 (by omega) (by omega)]; rfl
    have r : 0 ≤ o ∧ o < 65521 := by rw [ho]; exact ⟨Int.emod_nonneg _ (by decide), Int.emod_lt_of_pos _ (by decide)⟩
    obtain ⟨p0, p1⟩ := prod_range r.1 r.2 h0 h1
    have e : Int.tmod (wrap64 (o * h)) 65521 = h ^ (i + 1) % 65521 := by
      rw [w64 (by omega) (by omega), tmod_pos p0, ho, mul_mod_l, Int.pow_succ]
    simp only [impl_hash.l1, c1, ↓reduceIte, hw]
    exact ih (i + 1) _ (by omega) e
theorem impl_hash_l0 (s : ByteArray) (hs : s.size ≤ 9223372036854775807) (d : Nat) : ∀ (i : Nat) (h : Int), i + d = s.size → 0 ≤ h → h < 65521 → Ev (fun k => impl_hash.l0 k s h (s.size : Int) (i : Int)) (hashFrom h ((bytesOf s).drop i)) := by
  induction d with
  | zero =>
    intro i h hi h0 h1
    refine Ev.succ ?_
    have c1 : ¬ ((i : Int) < (s.size : Int)) := by omega
    simp only [impl_hash.l0, c1, ↓reduceIte]
    rw [List.drop_of_length_le (by rw [bytesOf_length]; omega)]
    exact impl_hash_l1 h h0 h1 11 0 1 (by omega) (by simp)
  | succ d ih =>
    intro i h hi h0 h1
    refine Ev.succ ?_
    have c1 : (i : Int) < (s.size : Int) := by omega
    have c2 : (0 : Int) ≤ (i : Int) := by omega
    have hw : wrap64 ((i : Int) + 1) = ((i + 1 : Nat) : Int) := by rw [w64 (by omega) (by omega)]; rfl
    have hb := bt_nat s i (by omega)
    have hr := bt_range s i
    have e : Int.tmod (wrap64 ((wrap64 (263 * h)) + (wrap64 (bt s i)))) 65521 = hstep h (bt s i) := by
      rw [w64 (n := 263 * h) (by omega) (by omega), w64 (n := bt s i) (by omega) (by omega), w64 (by omega) (by omega), tmod_pos (by omega)]
      rfl
    simp only [impl_hash.l0, c1, c2, ↓reduceIte, hw, e]
    rw [drop_cons _ _ (by rw [bytesOf_length]; omega), ← hb]
    exact ih (i + 1) (hstep h (bt s i)) (by omega) (Int.emod_nonneg _ (by decide)) (Int.emod_lt_of_pos _ (by decide))
theorem impl_hash_ev (a b : Int) (s : ByteArray) (hs : s.size ≤ 9223372036854775807) (ha0 : 0 ≤ a) (ha1 : a ≤ 9999) (hb0 : 0 ≤ b) (hb1 : b ≤ 9) : Ev (fun k => impl_hash.f k a b s) (hashV a b s) := by
  have e : Int.tmod (wrap64 ((wrap64 ((wrap64 (31 * a)) + (wrap64 (977 * b)))) + 7)) 65521 = hash0 a b := by
    rw [w64 (n := 31 * a) (by omega) (by omega), w64 (n := 977 * b) (by omega) (by omega), w64 (n := 31 * a + 977 * b) (by omega) (by omega), w64 (by omega) (by omega), tmod_pos (by omega)]
    rfl
  unfold impl_hash.f
  simp only [e]
  exact impl_hash_l0 s hs s.size 0 (hash0 a b) (by omega) (Int.emod_nonneg _ (by decide)) (Int.emod_lt_of_pos _ (by decide))
theorem impl_place_ev (a b : Int) (s : ByteArray) (n : Int) (hs : s.size ≤ 9223372036854775807) (ha0 : 0 ≤ a) (ha1 : a ≤ 9999) (hb0 : 0 ≤ b) (hb1 : b ≤ 9) (hn0 : 0 ≤ n) (hn1 : n ≤ 65521) : Ev (fun k => impl_place.f k a b s n) (placeV a b s n) := by
  have hr := hash_range a b s
  have p0 : 0 ≤ hashV a b s * n := Int.mul_nonneg hr.1 hn0
  have p1 : hashV a b s * n ≤ 4293001441 := by
    have h1 : hashV a b s * n ≤ hashV a b s * 65521 := Int.mul_le_mul_of_nonneg_left (by omega) hr.1
    omega
  unfold impl_place.f
  refine Ev.bind (impl_hash_ev a b s hs ha0 ha1 hb0 hb1) ?_
  refine Ev.some_ ?_
  have h2 : hashV a b s * n / 65521 ≤ hashV a b s * n := Int.ediv_le_self _ p0
  have h3 : 0 ≤ hashV a b s * n / 65521 := Int.ediv_nonneg p0 (by decide)
  rw [w64 (n := hashV a b s * n) (by omega) (by omega), tdiv_pos p0, w64 (by omega) (by omega)]
  rfl
theorem impl_cellsOf_ev (a : Int) (s : ByteArray) (n : Int) (hs : s.size ≤ 9223372036854775807) (ha0 : 0 ≤ a) (ha1 : a ≤ 9999) (hn0 : 0 ≤ n) (hn1 : n ≤ 65521) : Ev (fun k => impl_cellsOf.f k a s n) (placeV a 0 s n, placeV a 1 s n) := by
  unfold impl_cellsOf.f
  refine Ev.bind (impl_place_ev a 0 s n hs ha0 ha1 (by decide) (by decide) hn0 hn1) ?_
  exact Ev.bind (impl_place_ev a 1 s n hs ha0 ha1 (by decide) (by decide) hn0 hn1) (Ev.now _)
theorem impl_cellsOk_eq (a : Int) : impl_cellsOk.f a = some (decide (1 ≤ a ∧ a ≤ 64)) := by
  simp only [impl_cellsOk.f, impl_in_eq, Option.bind_some]
theorem impl_isSeed_eq (a : Int) : impl_isSeed.f a = some (decide (0 ≤ a ∧ a ≤ 9999)) := by
  simp only [impl_isSeed.f, impl_in_eq, Option.bind_some]
theorem laws_eqStringS_self (l : List ByteArray) (hl : l.length ≤ 9223372036854775807) : Ev (fun k => laws_eqStringS.f k l l) true := by
  unfold laws_eqStringS.f
  simp only [↓reduceIte]
  refine Ev.up (L := fun k i => laws_eqStringS.l0 k l l (i : Int)) (r := fun _ => true) l.length ?_ ?_ 0 (Nat.zero_le _)
  · refine Ev.succ ?_
    have h1 : ¬ ((l.length : Int) < (l.length : Int)) := by omega
    simp only [laws_eqStringS.l0, h1, ↓reduceIte]
    exact Ev.now _
  · intro i hi ih
    refine Ev.succ ?_
    have h1 : (i : Int) < (l.length : Int) := by omega
    have h2 : (0 : Int) ≤ (i : Int) := by omega
    have hw : wrap64 ((i : Int) + 1) = ((i + 1 : Nat) : Int) := by rw [w64 (by omega) (by omega)]; rfl
    simp only [laws_eqStringS.l0, h1, h2, ↓reduceIte, hw]
    exact ih
theorem laws_toStringS_l0 (l : List ByteArray) (hl : l.length ≤ 9223372036854775807) (d : Nat) : ∀ (i : Nat) (o : List ByteArray), o.length = l.length → o.take i = l.take i → i + d = l.length → Ev (fun k => laws_toStringS.l0 k l o (i : Int)) l := by
  induction d with
  | zero =>
    intro i o ho ht hi
    refine Ev.succ ?_
    have h1 : ¬ ((i : Int) < (l.length : Int)) := by omega
    simp only [laws_toStringS.l0, h1, ↓reduceIte]
    rw [List.take_of_length_le (by omega), List.take_of_length_le (by omega)] at ht
    exact Ev.some_ ht
  | succ d ih =>
    intro i o ho ht hi
    refine Ev.succ ?_
    have h1 : (i : Int) < (l.length : Int) := by omega
    have h2 : (0 : Int) ≤ (i : Int) := by omega
    have h3 : (i : Int) < (o.length : Int) := by omega
    have hw : wrap64 ((i : Int) + 1) = ((i + 1 : Nat) : Int) := by rw [w64 (by omega) (by omega)]; rfl
    simp only [laws_toStringS.l0, h1, h2, h3, ↓reduceIte, hw, Int.toNat_natCast]
    exact ih (i + 1) _ (by simp [ho]) (by rw [take_set_succ _ _ _ (by omega), ht, rdOf_nat _ _ _ (by omega), List.take_succ_eq_append_getElem (by omega)]) (by omega)
theorem laws_toStringS_ev (l : List ByteArray) (hl : l.length ≤ 17592186044416) : Ev (fun k => laws_toStringS.f k l) l := by
  have h1 : 0 ≤ (l.length : Int) := by omega
  have h2 : ((l.length : Int)).toNat ≤ 17592186044416 := by omega
  simp only [laws_toStringS.f, h1, h2, ↓reduceIte]
  exact laws_toStringS_l0 l (by omega) l.length 0 _ (by simp) (by simp) (by omega)
def szT : List ByteArray → Int → Int
  | [], m => m
  | s :: r, m => if m - (s.size : Int) < 0 then -1 else szT r (m - (s.size : Int))
theorem szT_le (l : List ByteArray) : ∀ m : Int, 0 ≤ m → szT l m ≤ m := by
  induction l with
  | nil => intro m h; exact Int.le_refl m
  | cons s r ih =>
    intro m h
    unfold szT
    by_cases c : m - (s.size : Int) < 0
    · rw [if_pos c]; omega
    · rw [if_neg c]
      have := ih (m - (s.size : Int)) (by omega)
      omega
theorem szT_sizes (l : List ByteArray) : ∀ m : Int, 0 ≤ szT l m → ∀ s ∈ l, (s.size : Int) ≤ m := by
  induction l with
  | nil => intro m h s hs; cases hs
  | cons x r ih =>
    intro m h s hs
    unfold szT at h
    by_cases c : m - (x.size : Int) < 0
    · rw [if_pos c] at h; omega
    · rw [if_neg c] at h
      rcases List.mem_cons.1 hs with rfl | hs
      · omega
      · have := ih _ h s hs
        omega
theorem laws_szStringS_l0 (l : List ByteArray) (hl : l.length ≤ 9223372036854775807) (hs : ∀ s ∈ l, s.size ≤ 9223372036854775807) (d : Nat) : ∀ (i : Nat) (m : Int), i + d = l.length → 0 ≤ m → m ≤ 1048576 → Ev (fun k => laws_szStringS.l0 k l m (i : Int)) (szT (l.drop i) m) := by
  induction d with
  | zero =>
    intro i m hi m0 m1
    refine Ev.succ ?_
    have h1 : ¬ ((i : Int) < (l.length : Int)) := by omega
    simp only [laws_szStringS.l0, h1, ↓reduceIte]
    exact Ev.some_ (by rw [List.drop_eq_nil_of_le (by omega)]; rfl)
  | succ d ih =>
    intro i m hi m0 m1
    refine Ev.succ ?_
    have h0 : i < l.length := by omega
    have h1 : (i : Int) < (l.length : Int) := by omega
    have h2 : (0 : Int) ≤ (i : Int) := by omega
    have hw : wrap64 ((i : Int) + 1) = ((i + 1 : Nat) : Int) := by rw [w64 (by omega) (by omega)]; rfl
    have hz := hs _ (List.getElem_mem h0)
    have hw2 : wrap64 (m - ((l[i]).size : Int)) = m - ((l[i]).size : Int) := w64 (by omega) (by omega)
    rw [drop_cons l i h0]
    simp only [laws_szStringS.l0, h1, h2, ↓reduceIte, hw, rdOf_nat ByteArray.empty l i h0, hw2, szT]
    by_cases c : m - ((l[i]).size : Int) < 0
    · simp only [c, ↓reduceIte]; exact Ev.now _
    · simp only [c, ↓reduceIte]
      exact ih (i + 1) _ (by omega) (by omega) (by omega)
def szTexts (l : List ByteArray) (m : Int) : Int := if m - (l.length : Int) < 0 then -1 else szT l (m - (l.length : Int))
theorem laws_szStringS_ev (l : List ByteArray) (m : Int) (hl : l.length ≤ 9223372036854775807) (hs : ∀ s ∈ l, s.size ≤ 9223372036854775807) (m0 : 0 ≤ m) (m1 : m ≤ 1048576) : Ev (fun k => laws_szStringS.f k l m) (szTexts l m) := by
  unfold laws_szStringS.f szTexts
  rw [w64 (n := m - (l.length : Int)) (by omega) (by omega)]
  by_cases c : m - (l.length : Int) < 0
  · simp only [c, ↓reduceIte]; exact Ev.now _
  · simp only [c, ↓reduceIte]
    exact laws_szStringS_l0 l hl hs l.length 0 _ (by omega) (by omega) (by omega)
theorem szTexts_of {l : List ByteArray} {m : Int} (h : ¬ szTexts l m < 0) : (l.length : Int) ≤ m ∧ szTexts l m ≤ m ∧ 0 ≤ szTexts l m := by
  have e : szTexts l m = if m - (l.length : Int) < 0 then -1 else szT l (m - (l.length : Int)) := rfl
  by_cases c : m - (l.length : Int) < 0
  · rw [if_pos c] at e; omega
  · rw [if_neg c] at e
    have := szT_le l (m - (l.length : Int)) (by omega)
    omega
def blankS (s : ByteArray) : Bool := decide (s.toList = ([] : List UInt8))
def cellOk (a n : Int) (s : ByteArray) (i : Nat) : Bool := blankS s || (isKey s && (decide (placeV a 0 s n = (i : Int)) || decide (placeV a 1 s n = (i : Int))))
def cellsFrom (a : Int) (l : List ByteArray) (i : Nat) : Bool := (List.range' i (l.length - i)).all fun j => cellOk a l.length (rdOf ByteArray.empty l (j : Int)) j
theorem cellsFrom_end (a : Int) (l : List ByteArray) : cellsFrom a l l.length = true := by simp [cellsFrom]
theorem cellsFrom_step (a : Int) (l : List ByteArray) (i : Nat) (h : i < l.length) : cellsFrom a l i = (cellOk a l.length (rdOf ByteArray.empty l (i : Int)) i && cellsFrom a l (i + 1)) := by
  unfold cellsFrom
  rw [show l.length - i = (l.length - (i + 1)) + 1 from by omega, List.range'_succ, List.all_cons]
theorem cellsFrom_mem {a : Int} {l : List ByteArray} (h : cellsFrom a l 0 = true) (i : Nat) (hi : i < l.length) : cellOk a l.length l[i] i = true := by
  unfold cellsFrom at h
  rw [List.all_eq_true] at h
  have := h i (by rw [List.mem_range']; exact ⟨i, by omega, by omega⟩)
  rw [rdOf_nat _ _ _ hi] at this
  exact this
def fullS (l : List ByteArray) : List ByteArray := l.filter fun s => !blankS s
def allV (l m : List ByteArray) : List ByteArray := fullS l ++ m
theorem isKey_full {s : ByteArray} (h : isKey s = true) : blankS s = false := by
  have h1 := isKey_size h
  unfold blankS
  rw [decide_eq_false_iff_not, ByteArray.toList_eq]
  intro e
  have h2 : s.data.toList.length = 0 := by rw [e]; rfl
  have h3 : s.size = s.data.size := rfl
  rw [Array.length_toList] at h2
  omega
theorem fullS_keys {l : List ByteArray} (h : ∀ s ∈ l, isKey s = true) : fullS l = l := List.filter_eq_self.2 fun s hs => by rw [isKey_full (h s hs)]; rfl
theorem allV_eq {l m : List ByteArray} (h : ∀ s ∈ m, isKey s = true) : fullS (l ++ m) = allV l m := by
  unfold fullS allV
  rw [List.filter_append]
  congr 1
  exact fullS_keys h
theorem allV_keys {a : Int} {l m : List ByteArray} (h : cellsFrom a l 0 = true) (hm : ∀ s ∈ m, isKey s = true) : ∀ s ∈ allV l m, isKey s = true := by
  intro s hs
  unfold allV fullS at hs
  rcases List.mem_append.1 hs with h1 | h1
  · rw [List.mem_filter] at h1
    obtain ⟨i, hi, rfl⟩ := List.getElem_of_mem h1.1
    have := cellsFrom_mem h i hi
    unfold cellOk at this
    simp only [Bool.or_eq_true, Bool.and_eq_true] at this
    rcases this with h2 | h2
    · rw [h2] at h1
      simp at h1
    · exact h2.1
  · exact hm s h1
theorem allV_length (l m : List ByteArray) : (allV l m).length ≤ l.length + m.length := by
  unfold allV fullS
  rw [List.length_append]
  have := List.length_filter_le (fun s => !blankS s) l
  omega
def headOk (a : Int) (l m : List ByteArray) : Bool := decide ((0 ≤ a ∧ a ≤ 9999) ∧ (1 ≤ (l.length : Int) ∧ (l.length : Int) ≤ 64) ∧ (m.length : Int) ≤ 4) && areKeys m
def goodCuckoo (a : Int) (l m : List ByteArray) : Bool := headOk a l m && (cellsFrom a l 0 && decide ((allV l m).length ≤ 40 ∧ (putAll ltS (allV l m) []).length = (allV l m).length))
theorem headOk_of {a : Int} {l m : List ByteArray} (h : headOk a l m = true) : (0 ≤ a ∧ a ≤ 9999) ∧ (1 ≤ l.length ∧ l.length ≤ 64) ∧ m.length ≤ 4 ∧ areKeys m = true := by
  unfold headOk at h
  simp only [Bool.and_eq_true, decide_eq_true_eq] at h
  exact ⟨h.1.1, by omega, by omega, h.2⟩
theorem goodCuckoo_of {a : Int} {l m : List ByteArray} (h : goodCuckoo a l m = true) : headOk a l m = true ∧ cellsFrom a l 0 = true ∧ (allV l m).length ≤ 40 ∧ (putAll ltS (allV l m) []).length = (allV l m).length := by
  unfold goodCuckoo at h
  simp only [Bool.and_eq_true, decide_eq_true_eq] at h
  exact ⟨h.1, h.2.1, h.2.2⟩
/-- Putting a string into a rising list, as the reference does it. -/
theorem spec_l1PutS_ev (l : List ByteArray) (x : ByteArray) (hl : l.length ≤ 4000000) : Ev (fun k => spec_l1PutS.f k l x) (putG ltS x l) := by
  suffices H : ∀ d i : Nat, i + d = l.length → Ev (fun k => spec_l1PutS.l0 k l x (i : Int)) (l.take i ++ putG ltS x (l.drop i)) from H l.length 0 (by omega)
  intro d
  induction d with
  | zero =>
    intro i hi
    refine Ev.succ ?_
    obtain rfl : i = l.length := by omega
    have h1 : ¬ ((l.length : Int) < (l.length : Int)) := by omega
    have h2 : (0 : Int) ≤ (l.length : Int) := by omega
    have h4 : l.length < 8796093022208 := by omega
    simp only [spec_l1PutS.l0, h1, h2, Int.le_refl, ↓reduceIte, Option.bind_some, Int.toNat_natCast, List.take_length, List.drop_length, List.length_nil, Nat.zero_add, h4, List.nil_append, List.length_append, List.length_singleton, Nat.add_zero, show l.length + 1 < 8796093022208 from by omega, putG]
    exact Ev.some_ (by simp)
  | succ d ih =>
    intro i hi
    refine Ev.succ ?_
    have h0 : i < l.length := by omega
    have h1 : (i : Int) < (l.length : Int) := by omega
    have h2 : (0 : Int) ≤ (i : Int) := by omega
    have h3 : (i : Int) ≤ (l.length : Int) := by omega
    have hw : wrap64 ((i : Int) + 1) = ((i + 1 : Nat) : Int) := by rw [w64 (by omega) (by omega)]; rfl
    rw [drop_cons l i h0]
    unfold putG
    simp only [spec_l1PutS.l0, h1, h2, ↓reduceIte, hw, rdOf_nat ByteArray.empty l i h0]
    by_cases c : ltS l[i] x = true
    · rw [show Op.bytesLess l[i].toList x.toList = true from c]
      simp only [↓reduceIte, c]
      have e := ih (i + 1) (by omega)
      rw [List.take_succ_eq_append_getElem h0, List.append_assoc] at e
      exact e
    · have c' : ¬ (Op.bytesLess l[i].toList x.toList = true) := c
      simp only [c, c', ↓reduceIte]
      by_cases g : l[i] = x
      · simp only [g, ↓reduceIte, Bool.false_eq_true]
        refine Ev.some_ ?_
        rw [← g, ← drop_cons l i h0, List.take_append_drop]
      · have g' : ¬ (l[i].toList = x.toList) := fun e => g (toList_inj e)
        have t1 : (l.take i).length = i := by rw [List.length_take]; omega
        have t2 : (l.drop i).length = l.length - i := List.length_drop
        simp only [g, g', ↓reduceIte, Option.bind_some, h3, Int.toNat_natCast, List.length_nil, Nat.zero_add, List.nil_append, t1, t2, List.length_append, List.length_singleton, show i < 8796093022208 from by omega, show i + 1 + (l.length - i) < 8796093022208 from by omega]
        exact Ev.some_ (by rw [← drop_cons l i h0]; simp)
theorem spec_l1OwnS_eq (l : List ByteArray) (h : l.length < 8796093022208) : spec_l1OwnS.f l = some l := by simp [spec_l1OwnS.f, h]
theorem spec_cuAll_ev (a : Int) (l m : List ByteArray) (hl : l.length + m.length ≤ 2000000) : Ev (fun k => spec_cuAll.f k a l m) (putAll ltS (fullS (l ++ m)) []) := by
  unfold spec_cuAll.f
  simp only [spec_l1OwnS_eq l (by omega), Option.bind_some, show l.length + m.length < 8796093022208 from by omega, ↓reduceIte]
  have hx : (l ++ m).length ≤ 2000000 := by rw [List.length_append]; omega
  generalize l ++ m = xs at *
  suffices H : ∀ (d i : Nat) (o : List ByteArray), i + d = xs.length → o.length ≤ i → Ev (fun k => spec_cuAll.l0 k o xs (xs.length : Int) (i : Int)) (putAll ltS (fullS (xs.drop i)) o) from H xs.length 0 [] (by omega) (by simp)
  intro d
  induction d with
  | zero =>
    intro i o hi ho
    refine Ev.succ ?_
    have h1 : ¬ ((i : Int) < (xs.length : Int)) := by omega
    simp only [spec_cuAll.l0, h1, ↓reduceIte]
    exact Ev.some_ (by rw [List.drop_eq_nil_of_le (by omega)]; rfl)
  | succ d ih =>
    intro i o hi ho
    refine Ev.succ ?_
    have h0 : i < xs.length := by omega
    have h1 : (i : Int) < (xs.length : Int) := by omega
    have h2 : (0 : Int) ≤ (i : Int) := by omega
    have hw : wrap64 ((i : Int) + 1) = ((i + 1 : Nat) : Int) := by rw [w64 (by omega) (by omega)]; rfl
    simp only [spec_cuAll.l0, h1, h2, ↓reduceIte, hw, rdOf_nat ByteArray.empty xs i h0]
    rw [drop_cons xs i h0]
    unfold fullS
    rw [List.filter_cons]
    by_cases c : xs[i].toList = ([] : List UInt8)
    · have hb : blankS xs[i] = true := by unfold blankS; rw [c]; rfl
      simp only [c, ↓reduceIte, hb, Bool.not_true, Bool.false_eq_true]
      exact ih (i + 1) o (by omega) (by omega)
    · have hb : blankS xs[i] = false := by unfold blankS; rw [decide_eq_false_iff_not]; exact c
      simp only [c, ↓reduceIte, hb, Bool.not_false]
      refine Ev.bind (spec_l1PutS_ev o xs[i] (by omega)) ?_
      have := putG_length_le (lt := ltS) xs[i] o
      exact ih (i + 1) _ (by omega) (by omega)
def manyV (l m : List ByteArray) (i : Nat) : Nat := m.length + (fullS (l.take i)).length
theorem spec_cuGood_l0 (a : Int) (l m : List ByteArray) (hl : l.length ≤ 64) (hm : m.length ≤ 4) (hs : ∀ s ∈ l, s.size ≤ 9223372036854775807) (ha0 : 0 ≤ a) (ha1 : a ≤ 9999) (hk : ∀ s ∈ m, isKey s = true) (d : Nat) : ∀ i : Nat, i + d = l.length →
    Ev (fun k => spec_cuGood.l0 k ((manyV l m i : Nat) : Int) l (l.length : Int) (i : Int) a l m) (cellsFrom a l i && decide ((allV l m).length ≤ 40 ∧ (putAll ltS (allV l m) []).length = (allV l m).length)) := by
  induction d with
  | zero =>
    intro i hi
    refine Ev.succ ?_
    obtain rfl : i = l.length := by omega
    have h1 : ¬ ((l.length : Int) < (l.length : Int)) := by omega
    have hmany : manyV l m l.length = (allV l m).length := by
      unfold manyV allV
      rw [List.take_length, List.length_append]
      omega
    simp only [spec_cuGood.l0, h1, ↓reduceIte, cellsFrom_end, Bool.true_and, hmany]
    by_cases c : ((allV l m).length : Int) ≤ 40
    · simp only [c, ↓reduceIte]
      refine Ev.bind (spec_cuAll_ev a l m (by omega)) ?_
      rw [allV_eq hk]
      refine Ev.some_ ?_
      rw [Bool.eq_iff_iff]
      simp only [beq_iff_eq, decide_eq_true_eq]
      omega
    · simp only [c, ↓reduceIte]
      refine Ev.some_ ?_
      symm
      rw [decide_eq_false_iff_not]
      omega
  | succ d ih =>
    intro i hi
    refine Ev.succ ?_
    have h0 : i < l.length := by omega
    have h1 : (i : Int) < (l.length : Int) := by omega
    have h2 : (0 : Int) ≤ (i : Int) := by omega
    have hw : wrap64 ((i : Int) + 1) = ((i + 1 : Nat) : Int) := by rw [w64 (by omega) (by omega)]; rfl
    have hsz := hs _ (List.getElem_mem h0)
    rw [cellsFrom_step a l i h0]
    simp only [spec_cuGood.l0, h1, h2, ↓reduceIte, hw, rdOf_nat ByteArray.empty l i h0]
    unfold cellOk
    have e := ih (i + 1) (by omega)
    have hmany : manyV l m (i + 1) = manyV l m i + (if blankS l[i] = true then 0 else 1) := by
      unfold manyV fullS
      rw [List.take_succ_eq_append_getElem h0, List.filter_append, List.length_append, List.filter_cons]
      cases blankS l[i] <;> simp <;> omega
    by_cases c : l[i].toList = ([] : List UInt8)
    · have hb : blankS l[i] = true := by unfold blankS; rw [c]; rfl
      rw [hb] at hmany
      simp only [c, ↓reduceIte, hb, Bool.true_or, Bool.true_and]
      rw [hmany] at e
      exact e
    · have hb : blankS l[i] = false := by unfold blankS; rw [decide_eq_false_iff_not]; exact c
      have hlt : manyV l m i ≤ 68 := by
        unfold manyV fullS
        have := List.length_filter_le (fun s => !blankS s) (l.take i)
        rw [List.length_take] at this
        omega
      rw [hb] at hmany
      simp only [c, ↓reduceIte, hb, Bool.false_or]
      refine Ev.bind (spec_IsKey_ev _ hsz) ?_
      cases isKey l[i] with
      | false => simp only [Bool.false_eq_true, ↓reduceIte, Bool.false_and]; exact Ev.now _
      | true =>
        simp only [↓reduceIte, Bool.true_and]
        refine Ev.bind (spec_cuCells_ev a _ _ hsz ha0 ha1 (by omega) (by omega)) ?_
        refine Ev.bind (spec_l1Has_ev _ _ (by simp)) ?_
        have hmem : decide ((i : Int) ∈ [placeV a 0 l[i] (l.length : Int), placeV a 1 l[i] (l.length : Int)]) = (decide (placeV a 0 l[i] (l.length : Int) = (i : Int)) || decide (placeV a 1 l[i] (l.length : Int) = (i : Int))) := by
          rw [Bool.eq_iff_iff]
          simp only [List.mem_cons, List.not_mem_nil, or_false, decide_eq_true_eq, Bool.or_eq_true]
          constructor <;> (rintro (h | h); exact .inl h.symm; exact .inr h.symm)
        rw [hmem]
        cases decide (placeV a 0 l[i] (l.length : Int) = (i : Int)) || decide (placeV a 1 l[i] (l.length : Int) = (i : Int)) with
        | false => simp only [Bool.false_eq_true, ↓reduceIte, Bool.false_and]; exact Ev.now _
        | true =>
          have hw2 : wrap64 (((manyV l m i : Nat) : Int) + 1) = ((manyV l m (i + 1) : Nat) : Int) := by rw [w64 (by omega) (by omega), hmany]; simp
          simp only [↓reduceIte, Bool.true_and, hw2]
          exact e
theorem spec_cuGood_ev (a : Int) (l m : List ByteArray) (hl : l.length ≤ 9223372036854775807) (hm : m.length ≤ 9223372036854775807) (hs : ∀ s ∈ l, s.size ≤ 9223372036854775807) (hs' : ∀ s ∈ m, s.size ≤ 9223372036854775807) : Ev (fun k => spec_cuGood.f k a l m) (goodCuckoo a l m) := by
  unfold spec_cuGood.f goodCuckoo headOk
  simp only [spec_cuSize_eq, Option.bind_some]
  have hno : Ev (fun k => spec_cuGood.j0 k true a l m) false := by
    refine Ev.succ ?_
    simp only [spec_cuGood.j0, ↓reduceIte]
    exact Ev.now _
  by_cases c : (0 ≤ a ∧ a ≤ 9999) ∧ 1 ≤ (l.length : Int) ∧ (l.length : Int) ≤ 64
  · simp only [c, and_self, decide_true, ↓reduceIte, true_and]
    by_cases c2 : (m.length : Int) > 4
    · have c3 : ¬ ((m.length : Int) ≤ 4) := by omega
      simp only [c2, c3, decide_false, ↓reduceIte, Bool.false_and]
      exact hno
    · have c3 : (m.length : Int) ≤ 4 := by omega
      simp only [c2, c3, decide_true, ↓reduceIte, Bool.true_and]
      refine Ev.bind (spec_biKeys_ev m hm hs') ?_
      cases hk : areKeys m with
      | false => simp only [Bool.not_false, Bool.false_and]; exact hno
      | true =>
        refine Ev.succ ?_
        simp only [spec_cuGood.j0, Bool.not_true, Bool.false_eq_true, ↓reduceIte, Bool.true_and]
        have e := spec_cuGood_l0 a l m (by omega) (by omega) hs c.1.1 c.1.2 (areKeys_of hk).2 l.length 0 (by omega)
        rw [show manyV l m 0 = m.length from by simp [manyV, fullS]] at e
        exact e
  · have c4 : ¬ ((0 ≤ a ∧ a ≤ 9999) ∧ (1 ≤ (l.length : Int) ∧ (l.length : Int) ≤ 64) ∧ (m.length : Int) ≤ 4) := fun h => c ⟨h.1, h.2.1⟩
    simp only [c, c4, decide_false, Bool.false_eq_true, ↓reduceIte, Bool.false_and]
    exact hno
theorem impl_all_eq (a : Int) (l m : List ByteArray) (hl0 : 0 < l.length) (hl : l.length ≤ 64) (hm : m.length ≤ 4) : impl_Cuckoo_all_in26_0.f a l m = some (allV l m) := by
  have h1 : l.length < 8796093022208 := by omega
  have h2 : 0 < l.length ∧ l.length ≤ 9223372036854775807 := by omega
  have h3 : (l.filter fun s => !decide (s.toList = [])) = fullS l := rfl
  have h4 := List.length_filter_le (fun s => !blankS s) l
  have h5 : (fullS l).length + m.length < 8796093022208 := by unfold fullS; omega
  simp only [impl_Cuckoo_all_in26_0.f, slices_Clone_string_string.f, h1, ↓reduceIte, Option.bind_some, slices_DeleteFunc_all.f, h2, and_self, h3, h5]
  rfl
theorem slices_Sort_eq (l : List ByteArray) (h : l.length ≤ 1000) : slices_Sort_string_string.f l = some (Go.Proofs.Ythaicmebdgeamaa.Sorts.sortS l) := by
  unfold slices_Sort_string_string.f
  rw [if_pos (by omega)]
theorem sortS_sizes {l : List ByteArray} (h : ∀ s ∈ l, isKey s = true) : (∀ s ∈ Go.Proofs.Ythaicmebdgeamaa.Sorts.sortS l, s.size ≤ 9223372036854775807) := by
  intro s hs
  have := isKey_size (h s ((sortS_perm l).mem_iff.1 hs))
  omega
theorem impl_IsCuckoo_l0 (a : Int) (l m : List ByteArray) (hl0 : 0 < l.length) (hl : l.length ≤ 64) (hm : m.length ≤ 4) (hs : ∀ s ∈ l, s.size ≤ 9223372036854775807) (ha0 : 0 ≤ a) (ha1 : a ≤ 9999) (hk : ∀ s ∈ m, isKey s = true) (d : Nat) : ∀ i : Nat, i + d = l.length → (cellsFrom a l i = true → cellsFrom a l 0 = true) →
    Ev (fun k => impl_IsCuckoo.l0 k l (l.length : Int) (i : Int) a l m) (cellsFrom a l i && decide ((allV l m).length ≤ 40 ∧ (putAll ltS (allV l m) []).length = (allV l m).length)) := by
  induction d with
  | zero =>
    intro i hi hc
    refine Ev.succ ?_
    obtain rfl : i = l.length := by omega
    have h1 : ¬ ((l.length : Int) < (l.length : Int)) := by omega
    have hall := allV_keys (hc (cellsFrom_end a l)) hk
    have hle := allV_length l m
    simp only [impl_IsCuckoo.l0, h1, ↓reduceIte, cellsFrom_end, Bool.true_and, impl_all_eq a l m hl0 hl hm, slices_Sort_eq _ (show (allV l m).length ≤ 1000 by omega), Option.bind_some]
    refine Ev.bind (impl_AreKeys_ev _ (by rw [(sortS_perm _).length_eq]; omega) (sortS_sizes hall)) ?_
    rw [areKeys_sort hall]
    exact Ev.now _
  | succ d ih =>
    intro i hi hc
    refine Ev.succ ?_
    have h0 : i < l.length := by omega
    have h1 : (i : Int) < (l.length : Int) := by omega
    have h2 : (0 : Int) ≤ (i : Int) := by omega
    have hw : wrap64 ((i : Int) + 1) = ((i + 1 : Nat) : Int) := by rw [w64 (by omega) (by omega)]; rfl
    have hsz := hs _ (List.getElem_mem h0)
    rw [cellsFrom_step a l i h0] at hc ⊢
    rw [rdOf_nat ByteArray.empty l i h0] at hc
    simp only [impl_IsCuckoo.l0, h1, h2, ↓reduceIte, hw, rdOf_nat ByteArray.empty l i h0]
    by_cases g : cellOk a (l.length : Int) l[i] i = true
    · rw [g, Bool.true_and] at hc ⊢
      have e := ih (i + 1) (by omega) hc
      unfold cellOk at g
      by_cases c : l[i].toList = ([] : List UInt8)
      · simp only [c, ↓reduceIte]
        exact e
      · have hb : blankS l[i] = false := by unfold blankS; rw [decide_eq_false_iff_not]; exact c
        rw [hb] at g
        simp only [Bool.false_or, Bool.and_eq_true, Bool.or_eq_true, decide_eq_true_eq] at g
        simp only [c, ↓reduceIte]
        refine Ev.bind (impl_IsKey_ev _ hsz) ?_
        simp only [g.1, ↓reduceIte]
        refine Ev.bind (impl_cellsOf_ev a _ _ hsz ha0 ha1 (by omega) (by omega)) ?_
        by_cases g1 : placeV a 0 l[i] (l.length : Int) = (i : Int)
        · simp only [g1, ↓reduceIte]
          exact e
        · rcases g.2 with g2 | g2
          · exact absurd g2 g1
          · simp only [g1, g2, ↓reduceIte]
            exact e
    · have g' : cellOk a (l.length : Int) l[i] i = false := by simpa using g
      rw [g', Bool.false_and, Bool.false_and]
      unfold cellOk at g'
      by_cases c : l[i].toList = ([] : List UInt8)
      · have hb : blankS l[i] = true := by unfold blankS; rw [c]; rfl
        rw [hb] at g'
        cases g'
      · have hb : blankS l[i] = false := by unfold blankS; rw [decide_eq_false_iff_not]; exact c
        rw [hb] at g'
        simp only [Bool.false_or, Bool.and_eq_false_iff, Bool.or_eq_false_iff, decide_eq_false_iff_not] at g'
        simp only [c, ↓reduceIte]
        refine Ev.bind (impl_IsKey_ev _ hsz) ?_
        cases hik : isKey l[i] with
        | false => simp only [Bool.false_eq_true, ↓reduceIte]; exact Ev.now _
        | true =>
          rw [hik] at g'
          have g2 := g'.resolve_left (by simp)
          simp only [↓reduceIte]
          refine Ev.bind (impl_cellsOf_ev a _ _ hsz ha0 ha1 (by omega) (by omega)) ?_
          simp only [g2.1, g2.2, ↓reduceIte]
          exact Ev.now _
theorem impl_IsCuckoo_ev (a : Int) (l m : List ByteArray) (hl : l.length ≤ 9223372036854775807) (hm : m.length ≤ 9223372036854775807) (hs : ∀ s ∈ l, s.size ≤ 9223372036854775807) (hs' : ∀ s ∈ m, s.size ≤ 9223372036854775807) : Ev (fun k => impl_IsCuckoo.f k a l m) (goodCuckoo a l m) := by
  unfold impl_IsCuckoo.f goodCuckoo headOk
  simp only [impl_isSeed_eq, impl_cellsOk_eq, Option.bind_some]
  have hno : Ev (fun k => impl_IsCuckoo.j0 k true a l m) false := by
    refine Ev.succ ?_
    simp only [impl_IsCuckoo.j0, ↓reduceIte]
    exact Ev.now _
  by_cases c : 0 ≤ a ∧ a ≤ 9999
  · simp only [c, and_self, decide_true, ↓reduceIte, true_and]
    by_cases c1 : 1 ≤ (l.length : Int) ∧ (l.length : Int) ≤ 64
    · simp only [c1, and_self, decide_true, ↓reduceIte, true_and]
      by_cases c2 : (m.length : Int) > 4
      · have c3 : ¬ ((m.length : Int) ≤ 4) := by omega
        simp only [c2, c3, decide_false, ↓reduceIte, Bool.false_and]
        exact hno
      · have c3 : (m.length : Int) ≤ 4 := by omega
        simp only [c2, c3, decide_true, ↓reduceIte, Bool.true_and]
        refine Ev.bind (impl_AreKeys_ev m hm hs') ?_
        cases hk : areKeys m with
        | false => simp only [Bool.not_false, Bool.false_and]; exact hno
        | true =>
          refine Ev.succ ?_
          simp only [impl_IsCuckoo.j0, Bool.not_true, Bool.false_eq_true, ↓reduceIte, Bool.true_and]
          exact impl_IsCuckoo_l0 a l m (by omega) (by omega) (by omega) hs c.1 c.2 (areKeys_of hk).2 l.length 0 (by omega) id
    · simp only [c1, decide_false, Bool.false_eq_true, ↓reduceIte, false_and, Bool.false_and]
      exact hno
  · simp only [c, decide_false, Bool.false_eq_true, ↓reduceIte, false_and, Bool.false_and]
    exact hno
def isS (s x : ByteArray) : Bool := decide (x = s)
theorem isS_iff (s x : ByteArray) : isS s x = true ↔ x.toList = s.toList := by
  unfold isS
  rw [decide_eq_true_eq]
  exact ⟨fun h => by rw [h], toList_inj⟩
def findV (l m : List ByteArray) (s : ByteArray) : Int := idxV (isS s) (l ++ m) 0
theorem idxV_append {α : Type} (p : α → Bool) (l m : List α) : idxV p (l ++ m) 0 = if idxV p l 0 ≥ 0 then idxV p l 0 else if idxV p m 0 ≥ 0 then (l.length : Int) + idxV p m 0 else -1 := by
  unfold idxV
  rw [List.drop_zero, List.drop_zero, List.drop_zero, List.findIdx?_append]
  cases h1 : l.findIdx? p with
  | some j => simp
  | none =>
    cases h2 : m.findIdx? p with
    | some j =>
      simp
      omega
    | none => simp
theorem idxV_range {α : Type} (p : α → Bool) (l : List α) : idxV p l 0 < l.length := by
  unfold idxV
  rw [List.drop_zero]
  cases h1 : l.findIdx? p with
  | some j =>
    have := (List.findIdx?_eq_some_iff_findIdx_eq.1 h1).1
    simp only
    omega
  | none =>
    simp only
    omega
def foundV (a : Int) (l m : List ByteArray) (s : ByteArray) : Int × Bool := if goodCuckoo a l m = true then (if isKey s = true then (if findV l m s < 0 then (0, false) else (findV l m s, true)) else (0, false)) else (0, false)
theorem goodCuckoo_len {a : Int} {l m : List ByteArray} (h : goodCuckoo a l m = true) : 1 ≤ l.length ∧ l.length ≤ 64 ∧ m.length ≤ 4 := by
  have h1 := headOk_of (goodCuckoo_of h).1
  exact ⟨h1.2.1.1, h1.2.1.2, h1.2.2.1⟩
theorem strOfNums_one (x : Int) : (strOfNums [x]).size = 1 := by
  simp [strOfNums, ByteArray.size]
theorem laws_markText_l0 (f : Nat) : ∀ (n : Int) (acc : ByteArray), 0 ≤ n → n < 2 ^ f → n ≤ 4611686018427387904 → acc.size + f ≤ 1000 → ∃ r, Ev (fun k => laws_markText.l0 k n acc) r := by
  induction f with
  | zero =>
    intro n acc h0 h1 hn hs
    refine ⟨(⟨#[109]⟩ : ByteArray) ++ acc, Ev.succ ?_⟩
    have c1 : ¬ (n > 0) := by simp at h1; omega
    have c2 : 1 + acc.size ≤ 9223372036854775807 := by omega
    simp only [laws_markText.l0, c1, c2, ↓reduceIte]
    exact Ev.now _
  | succ f ih =>
    intro n acc h0 h1 hn hs
    by_cases c1 : n > 0
    · have e2 : (2 : Int) ^ (f + 1) = 2 * 2 ^ f := by rw [Int.pow_succ, Int.mul_comm]
      have e : wrap64 (Int.tdiv n 10) = n / 10 := by rw [tdiv_pos h0, w64 (by omega) (by omega)]
      have e3 := strOfNums_one ((wrap64 (48 + (Int.tmod n 10))) % 256)
      obtain ⟨r, hr⟩ := ih (n / 10) (strOfNums [(wrap64 (48 + (Int.tmod n 10))) % 256] ++ acc) (by omega) (by omega) (by omega) (by rw [ByteArray.size_append, e3]; omega)
      refine ⟨r, Ev.succ ?_⟩
      have c3 : (strOfNums [(wrap64 (48 + (Int.tmod n 10))) % 256]).size + acc.size ≤ 9223372036854775807 := by rw [e3]; omega
      simp only [laws_markText.l0, c1, ↓reduceIte, Option.bind_some, c3, e]
      exact hr
    · refine ⟨(⟨#[109]⟩ : ByteArray) ++ acc, Ev.succ ?_⟩
      have c2 : 1 + acc.size ≤ 9223372036854775807 := by omega
      simp only [laws_markText.l0, c1, c2, ↓reduceIte]
      exact Ev.now _
theorem laws_markText_some (n : Int) (h0 : 0 ≤ n) (hn : n ≤ 4611686018427387904) : ∃ r, Ev (fun k => laws_markText.f k n) r := by
  unfold laws_markText.f
  by_cases c : n ≤ 0
  · simp only [c, ↓reduceIte]
    exact ⟨_, Ev.now _⟩
  · simp only [c, ↓reduceIte]
    exact laws_markText_l0 63 n ⟨#[]⟩ h0 (by omega) hn (by decide)
theorem laws_markText_fn : ∃ f : Int → ByteArray, ∀ n : Int, 0 ≤ n → n ≤ 4611686018427387904 → Ev (fun k => laws_markText.f k n) (f n) :=
  ⟨fun n => if h : 0 ≤ n ∧ n ≤ 4611686018427387904 then Classical.choose (laws_markText_some n h.1 h.2) else ⟨#[]⟩, fun n h0 hn => by
    have e : (if h : 0 ≤ n ∧ n ≤ 4611686018427387904 then Classical.choose (laws_markText_some n h.1 h.2) else (⟨#[]⟩ : ByteArray)) = Classical.choose (laws_markText_some n h0 hn) := dif_pos ⟨h0, hn⟩
    show Ev _ (if h : 0 ≤ n ∧ n ≤ 4611686018427387904 then Classical.choose (laws_markText_some n h.1 h.2) else (⟨#[]⟩ : ByteArray))
    rw [e]
    exact Classical.choose_spec (laws_markText_some n h0 hn)⟩
theorem laws_markStringS_l0 (f : Int → ByteArray) (hf : ∀ n : Int, 0 ≤ n → n ≤ 4611686018427387904 → Ev (fun k => laws_markText.f k n) (f n)) (m : Int) (n : Nat) (h0 : 0 ≤ m) (hm : m + n ≤ 4611686018427387904) (d : Nat) : ∀ (i : Nat) (l : List ByteArray), l.length = n → l.take i = marksOf f m i → i + d = n → Ev (fun k => laws_markStringS.l0 k l (m + i) (i : Int)) (m + n, marksOf f m n) := by
  induction d with
  | zero =>
    intro i l hl ht hi
    obtain rfl : i = n := by omega
    refine Ev.succ ?_
    have h1 : ¬ ((i : Int) < (l.length : Int)) := by omega
    simp only [laws_markStringS.l0, h1, ↓reduceIte]
    rw [List.take_of_length_le (by omega)] at ht
    exact Ev.some_ (by rw [ht])
  | succ d ih =>
    intro i l hl ht hi
    refine Ev.succ ?_
    have h1 : (i : Int) < (l.length : Int) := by omega
    have h2 : (0 : Int) ≤ (i : Int) := by omega
    have hw : wrap64 ((i : Int) + 1) = ((i + 1 : Nat) : Int) := by rw [w64 (by omega) (by omega)]; rfl
    have hw2 : wrap64 (m + (i : Int) + 1) = m + ((i + 1 : Nat) : Int) := by rw [w64 (by omega) (by omega)]; omega
    simp only [laws_markStringS.l0, h1, h2, ↓reduceIte, hw, hw2, Int.toNat_natCast]
    refine Ev.bind (hf (m + i) (by omega) (by omega)) ?_
    exact ih (i + 1) (l.set i (f (m + i))) (by simp [hl]) (by rw [take_set_succ _ _ _ (by omega), ht, marksOf_succ]) (by omega)
theorem laws_markStringS_ev (f : Int → ByteArray) (hf : ∀ n : Int, 0 ≤ n → n ≤ 4611686018427387904 → Ev (fun k => laws_markText.f k n) (f n)) (l : List ByteArray) (m : Int) (h0 : 0 ≤ m) (hm : m + l.length ≤ 4611686018427387904) : Ev (fun k => laws_markStringS.f k l m) (m + l.length, marksOf f m l.length) := by
  have h := laws_markStringS_l0 f hf m l.length h0 hm l.length 0 l rfl (by simp [marksOf]) (by omega)
  simpa [laws_markStringS.f] using h
theorem laws_heldStringS_ev (f : Int → ByteArray) (hf : ∀ n : Int, 0 ≤ n → n ≤ 4611686018427387904 → Ev (fun k => laws_markText.f k n) (f n)) (m : Int) (n : Nat) (h0 : 0 ≤ m) (hm : m + n ≤ 4611686018427387904) : Ev (fun k => laws_heldStringS.f k (marksOf f m n) m) (m + n) := by
  have h := Ev.up (L := fun k i => laws_heldStringS.l0 k (marksOf f m n) (m + (i : Int)) (i : Int)) (r := fun _ => m + n) n ?_ ?_ 0 (Nat.zero_le _)
  · simpa [laws_heldStringS.f] using h
  · refine Ev.succ ?_
    have h1 : ¬ ((n : Int) < ((marksOf f m n).length : Int)) := by rw [marksOf_length]; omega
    simp only [laws_heldStringS.l0, h1, ↓reduceIte]
    exact Ev.now _
  · intro i hi ih
    refine Ev.succ ?_
    have h1 : (i : Int) < ((marksOf f m n).length : Int) := by rw [marksOf_length]; omega
    have h2 : (0 : Int) ≤ (i : Int) := by omega
    have h3 : rdOf ByteArray.empty (marksOf f m n) (i : Int) = f (m + i) := by rw [rdOf_nat _ _ _ (by rw [marksOf_length]; exact hi)]; simp [marksOf]
    have hw : wrap64 ((i : Int) + 1) = ((i + 1 : Nat) : Int) := by rw [w64 (by omega) (by omega)]; rfl
    have hw2 : wrap64 (m + (i : Int) + 1) = m + ((i + 1 : Nat) : Int) := by rw [w64 (by omega) (by omega)]; omega
    simp only [laws_heldStringS.l0, h1, h2, h3, ↓reduceIte, hw, hw2]
    refine Ev.bind (hf (m + i) (by omega) (by omega)) ?_
    simp only [↓reduceIte]
    exact ih
theorem szT_neg (l : List ByteArray) : ∀ m : Int, 0 ≤ m → szT l m < 0 → szT l m = -1 := by
  induction l with
  | nil =>
    intro m h0 h
    unfold szT at h
    omega
  | cons x r ih =>
    intro m h0 h
    unfold szT at h ⊢
    by_cases c : m - (x.size : Int) < 0
    · rw [if_pos c]
    · rw [if_neg c] at h ⊢
      exact ih _ (by omega) h
theorem szTexts_len {l : List ByteArray} {m : Int} (h : ¬ szTexts l m < 0) : szTexts l m + (l.length : Int) ≤ m := by
  have e : szTexts l m = if m - (l.length : Int) < 0 then -1 else szT l (m - (l.length : Int)) := rfl
  by_cases c : m - (l.length : Int) < 0
  · rw [if_pos c] at e; omega
  · rw [if_neg c] at e
    have := szT_le l (m - (l.length : Int)) (by omega)
    omega
def szCu (l m : List ByteArray) (x : Int) : Int := if szTexts l x < 0 then -1 else szTexts m (szTexts l x)
theorem laws_szCuckoo_ev (a : Int) (l m : List ByteArray) (x : Int) (hl : l.length ≤ 9223372036854775807) (hs : ∀ s ∈ l, s.size ≤ 9223372036854775807) (hm : m.length ≤ 9223372036854775807) (hs' : ∀ s ∈ m, s.size ≤ 9223372036854775807) (x0 : 0 ≤ x) (x1 : x ≤ 1048576) : Ev (fun k => laws_szCuckoo.f k a l m x) (szCu l m x) := by
  unfold laws_szCuckoo.f szCu
  refine Ev.bind (laws_szStringS_ev l x hl hs x0 x1) ?_
  by_cases c : szTexts l x < 0
  · simp only [c, ↓reduceIte]
    exact Ev.now _
  · have z := szTexts_of c
    simp only [c, ↓reduceIte]
    refine Ev.bind (laws_szStringS_ev m _ hm hs' (by omega) (by omega)) ?_
    by_cases c2 : szTexts m (szTexts l x) < 0
    · simp only [c2, ↓reduceIte]
      refine Ev.some_ ?_
      have e : szTexts m (szTexts l x) = if szTexts l x - (m.length : Int) < 0 then -1 else szT m (szTexts l x - (m.length : Int)) := rfl
      rw [e] at c2 ⊢
      split
      · rfl
      · rename_i h
        rw [if_neg h] at c2
        exact (szT_neg m _ (by omega) c2).symm
    · simp only [c2, ↓reduceIte]
      exact Ev.now _
theorem szCu_of {l m : List ByteArray} {x : Int} (h : ¬ szCu l m x < 0) : (l.length : Int) ≤ x ∧ (m.length : Int) ≤ x ∧ (l.length : Int) + (m.length : Int) ≤ x := by
  unfold szCu at h
  by_cases c : szTexts l x < 0
  · rw [if_pos c] at h
    omega
  · rw [if_neg c] at h
    have z := szTexts_of c
    have z2 := szTexts_of h
    have z3 := szTexts_len c
    omega
theorem laws_toCuckoo_ev (a : Int) (l m : List ByteArray) (hl : l.length ≤ 17592186044416) (hm : m.length ≤ 17592186044416) : Ev (fun k => laws_toCuckoo.f k a l m) (a, l, m) := by
  unfold laws_toCuckoo.f
  exact Ev.bind (laws_toStringS_ev l hl) (Ev.bind (laws_toStringS_ev m hm) (Ev.now _))
theorem laws_eqCuckoo_self (a : Int) (l m : List ByteArray) (hl : l.length ≤ 9223372036854775807) (hm : m.length ≤ 9223372036854775807) : Ev (fun k => laws_eqCuckoo.f k a l m a l m) true := by
  simp only [laws_eqCuckoo.f, ↓reduceIte]
  refine Ev.bind (laws_eqStringS_self l hl) ?_
  simp only [↓reduceIte]
  refine Ev.bind (laws_eqStringS_self m hm) ?_
  simp only [↓reduceIte]
  exact Ev.now _
theorem laws_markCuckoo_ev (f : Int → ByteArray) (hf : ∀ n : Int, 0 ≤ n → n ≤ 4611686018427387904 → Ev (fun k => laws_markText.f k n) (f n)) (a : Int) (l m : List ByteArray) (x : Int) (h0 : 0 ≤ x) (hx : x + (l.length : Int) + (m.length : Int) ≤ 4611686018427387904) : Ev (fun k => laws_markCuckoo.f k a l m x) (x + (l.length : Int) + (m.length : Int), marksOf f x l.length, marksOf f (x + (l.length : Int)) m.length) := by
  unfold laws_markCuckoo.f
  exact Ev.bind (laws_markStringS_ev f hf l x h0 (by omega)) (Ev.bind (laws_markStringS_ev f hf m (x + (l.length : Int)) (by omega) (by omega)) (Ev.now _))
theorem laws_heldCuckoo_ev (f : Int → ByteArray) (hf : ∀ n : Int, 0 ≤ n → n ≤ 4611686018427387904 → Ev (fun k => laws_markText.f k n) (f n)) (a : Int) (n p : Nat) (x : Int) (h0 : 0 ≤ x) (hx : x + (n : Int) + (p : Int) ≤ 4611686018427387904) : Ev (fun k => laws_heldCuckoo.f k a (marksOf f x n) (marksOf f (x + (n : Int)) p) x) (x + (n : Int) + (p : Int)) := by
  unfold laws_heldCuckoo.f
  refine Ev.bind (laws_heldStringS_ev f hf x n h0 (by omega)) ?_
  simp only [show ¬ (x + (n : Int) < 0) from by omega, ↓reduceIte]
  refine Ev.bind (laws_heldStringS_ev f hf (x + (n : Int)) p (by omega) (by omega)) ?_
  simp only [show ¬ (x + (n : Int) + (p : Int) < 0) from by omega, ↓reduceIte]
  exact Ev.now _

def cellV (a : Int) (l : List ByteArray) (s : ByteArray) : Int := if blankS (rdOf ByteArray.empty l (placeV a 0 s (l.length : Int))) = true then placeV a 0 s (l.length : Int) else if blankS (rdOf ByteArray.empty l (placeV a 1 s (l.length : Int))) = true then placeV a 1 s (l.length : Int) else -1
def unV (a : Int) : List ByteArray → List ByteArray → List ByteArray × List ByteArray
 | [], l => ([], l)
 | s :: r, l => if cellV a l s ≥ 0 then unV a r (l.set (cellV a l s).toNat s) else (s :: (unV a r l).1, (unV a r l).2)
theorem unV_length (a : Int) : ∀ m l : List ByteArray, (unV a m l).2.length = l.length ∧ (unV a m l).1.length ≤ m.length := by
  intro m
  induction m with
  | nil => intro l; exact ⟨rfl, Nat.le_refl _⟩
  | cons s r ih =>
    intro l
    unfold unV
    by_cases c : cellV a l s ≥ 0
    · rw [if_pos c]
      obtain ⟨h1, h2⟩ := ih (l.set (cellV a l s).toNat s)
      exact ⟨by rw [h1, List.length_set], by rw [List.length_cons]; omega⟩
    · rw [if_neg c]
      obtain ⟨h1, h2⟩ := ih l
      exact ⟨h1, by simp only [List.length_cons]; omega⟩
theorem cellV_lt (a : Int) (l : List ByteArray) (s : ByteArray) (h : 1 ≤ l.length) : cellV a l s < (l.length : Int) := by
  have h0 := place_range (a := a) (b := 0) (s := s) (n := (l.length : Int)) (by omega)
  have h1 := place_range (a := a) (b := 1) (s := s) (n := (l.length : Int)) (by omega)
  unfold cellV
  split
  · exact h0.2
  · split
    · exact h1.2
    · omega
theorem spec_cuEmpty_ev (a : Int) (l m : List ByteArray) (s : ByteArray) (hs : s.size ≤ 9223372036854775807) (ha0 : 0 ≤ a) (ha1 : a ≤ 9999) (hl0 : 1 ≤ l.length) (hl1 : l.length ≤ 64) : Ev (fun k => spec_cuEmpty.f k a l m s) (cellV a l s) := by
  have h0 := place_range (a := a) (b := 0) (s := s) (n := (l.length : Int)) (by omega)
  have h1 := place_range (a := a) (b := 1) (s := s) (n := (l.length : Int)) (by omega)
  unfold spec_cuEmpty.f
  refine Ev.bind (spec_cuCells_ev a s (l.length : Int) hs ha0 ha1 (by omega) (by omega)) ?_
  unfold cellV
  generalize placeV a 0 s (l.length : Int) = x at *
  generalize placeV a 1 s (l.length : Int) = y at *
  have e0 : rd [x, y] 0 = x := rfl
  have e1 : rd [x, y] 1 = y := rfl
  have hlen : (([x, y] : List Int).length : Int) = 2 := rfl
  have w1 : wrap64 (0 + 1) = 1 := (w64 (n := 0 + 1) (by omega) (by omega)).trans rfl
  have w2 : wrap64 (1 + 1) = 2 := (w64 (n := 1 + 1) (by omega) (by omega)).trans rfl
  rw [hlen]
  refine Ev.succ ?_
  simp only [spec_cuEmpty.l0, hlen, e0, show (0 : Int) < 2 from by decide, show (0 : Int) ≤ 0 from by decide, h0.1, h0.2, ↓reduceIte, w1]
  by_cases c : (rdOf ByteArray.empty l x).toList = ([] : List UInt8)
  · have c' : blankS (rdOf ByteArray.empty l x) = true := decide_eq_true c
    simp only [c, c', ↓reduceIte]
    exact Ev.now _
  · have c' : blankS (rdOf ByteArray.empty l x) = false := decide_eq_false c
    simp only [c, c', ↓reduceIte, Bool.false_eq_true]
    refine Ev.succ ?_
    simp only [spec_cuEmpty.l0, hlen, e1, show (1 : Int) < 2 from by decide, show (0 : Int) ≤ 1 from by decide, h1.1, h1.2, ↓reduceIte, w2]
    by_cases d : (rdOf ByteArray.empty l y).toList = ([] : List UInt8)
    · have d' : blankS (rdOf ByteArray.empty l y) = true := decide_eq_true d
      simp only [d, d', ↓reduceIte]
      exact Ev.now _
    · have d' : blankS (rdOf ByteArray.empty l y) = false := decide_eq_false d
      simp only [d, d', ↓reduceIte, Bool.false_eq_true]
      refine Ev.succ ?_
      simp only [spec_cuEmpty.l0, show ¬ ((2 : Int) < 2) from by decide, ↓reduceIte]
      exact Ev.now _
theorem impl_settle_ev (a : Int) (l : List ByteArray) (s : ByteArray) (hs : s.size ≤ 9223372036854775807) (ha0 : 0 ≤ a) (ha1 : a ≤ 9999) (hl0 : 1 ≤ l.length) (hl1 : l.length ≤ 64) : Ev (fun k => impl_settle.f k a l s) (if cellV a l s ≥ 0 then (true, l.set (cellV a l s).toNat s) else (false, l)) := by
  have h0 := place_range (a := a) (b := 0) (s := s) (n := (l.length : Int)) (by omega)
  have h1 := place_range (a := a) (b := 1) (s := s) (n := (l.length : Int)) (by omega)
  unfold impl_settle.f
  refine Ev.bind (impl_cellsOf_ev a s (l.length : Int) hs ha0 ha1 (by omega) (by omega)) ?_
  unfold cellV
  generalize placeV a 0 s (l.length : Int) = x at *
  generalize placeV a 1 s (l.length : Int) = y at *
  simp only [h0.1, h0.2, ↓reduceIte]
  by_cases c : (rdOf ByteArray.empty l x).toList = ([] : List UInt8)
  · have c' : blankS (rdOf ByteArray.empty l x) = true := decide_eq_true c
    simp only [c, c', ↓reduceIte, show x ≥ 0 from h0.1]
    exact Ev.now _
  · have c' : blankS (rdOf ByteArray.empty l x) = false := decide_eq_false c
    simp only [c, c', ↓reduceIte, Bool.false_eq_true, h1.1, h1.2]
    by_cases d : (rdOf ByteArray.empty l y).toList = ([] : List UInt8)
    · have d' : blankS (rdOf ByteArray.empty l y) = true := decide_eq_true d
      simp only [d, d', ↓reduceIte, show y ≥ 0 from h1.1]
      exact Ev.now _
    · have d' : blankS (rdOf ByteArray.empty l y) = false := decide_eq_false d
      simp only [d, d', ↓reduceIte, Bool.false_eq_true, show ¬ ((-1 : Int) ≥ 0) from by decide]
      exact Ev.now _
theorem impl_delF_ev (a : Int) (ha0 : 0 ≤ a) (ha1 : a ≤ 9999) : ∀ m l : List ByteArray, (∀ s ∈ m, s.size ≤ 9223372036854775807) → 1 ≤ l.length → l.length ≤ 64 → Ev (fun k => impl_delF k a m l) (unV a m l) := by
  intro m
  induction m with
  | nil => intro l _ _ _; exact Ev.now _
  | cons s r ih =>
    intro l hs h0 h1
    simp only [impl_delF]
    refine Ev.bind (impl_settle_ev a l s (hs s (by simp)) ha0 ha1 h0 h1) ?_
    unfold unV
    by_cases c : cellV a l s ≥ 0
    · simp only [c, ↓reduceIte]
      exact Ev.bind (ih (l.set (cellV a l s).toNat s) (fun x hx => hs x (List.mem_cons_of_mem _ hx)) (by rw [List.length_set]; exact h0) (by rw [List.length_set]; exact h1)) (Ev.now _)
    · simp only [c, ↓reduceIte]
      exact Ev.bind (ih l (fun x hx => hs x (List.mem_cons_of_mem _ hx)) h0 h1) (Ev.now _)
theorem spec_un_l0 (a : Int) (ha0 : 0 ≤ a) (ha1 : a ≤ 9999) (m : List ByteArray) (hm : m.length ≤ 64) (hs : ∀ s ∈ m, s.size ≤ 9223372036854775807) (d : Nat) : ∀ (i : Nat) (l acc : List ByteArray), i + d = m.length → acc.length ≤ i → 1 ≤ l.length → l.length ≤ 64 → Ev (fun k => spec_CuckooUnstash.l0 k m (m.length : Int) (i : Int) a l acc) (a, (unV a (m.drop i) l).2, acc ++ (unV a (m.drop i) l).1, true) := by
  induction d with
  | zero =>
    intro i l acc hi hacc h0 h1
    refine Ev.succ ?_
    have c1 : ¬ ((i : Int) < (m.length : Int)) := by omega
    simp only [spec_CuckooUnstash.l0, c1, ↓reduceIte]
    exact Ev.some_ (by rw [List.drop_eq_nil_of_le (by omega)]; simp [unV])
  | succ d ih =>
    intro i l acc hi hacc h0 h1
    refine Ev.succ ?_
    have hi0 : i < m.length := by omega
    have c1 : (i : Int) < (m.length : Int) := by omega
    have c2 : (0 : Int) ≤ (i : Int) := by omega
    have hw : wrap64 ((i : Int) + 1) = ((i + 1 : Nat) : Int) := by rw [w64 (by omega) (by omega)]; rfl
    have hlt := cellV_lt a l m[i] h0
    simp only [spec_CuckooUnstash.l0, c1, c2, ↓reduceIte, hw, rdOf_nat ByteArray.empty m i hi0]
    refine Ev.bind (spec_cuEmpty_ev a l acc m[i] (hs _ (List.getElem_mem hi0)) ha0 ha1 h0 h1) ?_
    rw [drop_cons m i hi0]
    unfold unV
    by_cases c : cellV a l m[i] ≥ 0
    · simp only [c, hlt, ↓reduceIte, show (0 : Int) ≤ cellV a l m[i] from c]
      exact ih (i + 1) _ acc (by omega) (by omega) (by rw [List.length_set]; exact h0) (by rw [List.length_set]; exact h1)
    · have h3 : acc.length < 8796093022208 := by omega
      simp only [c, h3, ↓reduceIte]
      have h4 := ih (i + 1) l (acc ++ [m[i]]) (by omega) (by rw [List.length_append, List.length_singleton]; omega) h0 h1
      rw [List.append_assoc, List.singleton_append] at h4
      exact h4
def unstashV (a : Int) (l m : List ByteArray) : Int × List ByteArray × List ByteArray × Bool := if goodCuckoo a l m = true then (a, (unV a m l).2, (unV a m l).1, true) else (0, [], [], false)
theorem unstashV_length (a : Int) (l m : List ByteArray) : (unstashV a l m).2.1.length ≤ 64 ∧ (unstashV a l m).2.2.1.length ≤ 64 := by
  unfold unstashV
  by_cases h : goodCuckoo a l m = true
  · have hg := goodCuckoo_len h
    have hu := unV_length a m l
    rw [if_pos h]
    simp only
    omega
  · rw [if_neg h]; simp
theorem spec_CuckooUnstash_ev (a : Int) (l m : List ByteArray) (hl : l.length ≤ 9223372036854775807) (hm : m.length ≤ 9223372036854775807) (hs : ∀ s ∈ l, s.size ≤ 9223372036854775807) (hs' : ∀ s ∈ m, s.size ≤ 9223372036854775807) : Ev (fun k => spec_CuckooUnstash.f k a l m) (unstashV a l m) := by
  unfold spec_CuckooUnstash.f unstashV
  refine Ev.bind (spec_cuGood_ev a l m hl hm hs hs') ?_
  cases h : goodCuckoo a l m with
  | false => simp only [Bool.false_eq_true, ↓reduceIte]; exact Ev.now _
  | true =>
    have hg := goodCuckoo_len h
    have ha := (headOk_of (goodCuckoo_of h).1).1
    simp only [↓reduceIte, spec_l1OwnS_eq l (by omega), Option.bind_some]
    have h1 := spec_un_l0 a ha.1 ha.2 m (by omega) hs' m.length 0 l [] (by omega) (by simp) hg.1 hg.2.1
    rw [List.drop_zero, List.nil_append] at h1
    exact h1
theorem impl_clone_eq (a : Int) (l m : List ByteArray) (hl : l.length ≤ 1000) (hm : m.length ≤ 1000) : impl_cloneCuckoo.f a l m = some (a, l, m) := by
  simp only [impl_cloneCuckoo.f, slices_Clone_string_string.f, show l.length < 8796093022208 from by omega, show m.length < 8796093022208 from by omega, ↓reduceIte, Option.bind_some]
theorem impl_CuckooUnstash_ev (a : Int) (l m : List ByteArray) (hl : l.length ≤ 9223372036854775807) (hm : m.length ≤ 9223372036854775807) (hs : ∀ s ∈ l, s.size ≤ 9223372036854775807) (hs' : ∀ s ∈ m, s.size ≤ 9223372036854775807) : Ev (fun k => impl_CuckooUnstash.f k a l m) (unstashV a l m) := by
  unfold impl_CuckooUnstash.f unstashV
  refine Ev.bind (impl_IsCuckoo_ev a l m hl hm hs hs') ?_
  cases h : goodCuckoo a l m with
  | false => simp only [Bool.false_eq_true, ↓reduceIte]; exact Ev.now _
  | true =>
    have hg := goodCuckoo_len h
    have ha := (headOk_of (goodCuckoo_of h).1).1
    simp only [↓reduceIte, impl_clone_eq a l m (by omega) (by omega), Option.bind_some, show m.length ≤ 4611686018427387904 from by omega]
    exact Ev.bind (impl_delF_ev a ha.1 ha.2 m l hs' hg.1 hg.2.1) (Ev.now _)
theorem FnExactCuckooUnstash : ∀ (a0_0 : Int) (l0_1 : List ByteArray) (l0_2 : List ByteArray), ((Lit.int .i64 a0_0).wf = true) → (l0_1.length ≤ maxLen ∧ ∀ l0_1' ∈ l0_1, l0_1'.size ≤ maxLen) → (l0_2.length ≤ maxLen ∧ ∀ l0_2' ∈ l0_2, l0_2'.size ≤ maxLen) → ∃ k, laws_FnExactCuckooUnstash.f k a0_0 l0_1 l0_2 = some true := by
  intro a l m h0 hl hm
  refine Ev.rounds ?_
  have hl1 : l.length ≤ 9223372036854775807 := by have := hl.1; unfold maxLen at this; exact this
  have hl2 : ∀ s ∈ l, s.size ≤ 9223372036854775807 := by have := hl.2; unfold maxLen at this; exact this
  have hm1 : m.length ≤ 9223372036854775807 := by have := hm.1; unfold maxLen at this; exact this
  have hm2 : ∀ s ∈ m, s.size ≤ 9223372036854775807 := by have := hm.2; unfold maxLen at this; exact this
  obtain ⟨f, hf⟩ := laws_markText_fn
  unfold laws_FnExactCuckooUnstash.f
  refine Ev.bind (laws_szCuckoo_ev a l m 1048576 hl1 hl2 hm1 hm2 (by decide) (by decide)) ?_
  by_cases z : szCu l m 1048576 < 0
  · simp only [z, ↓reduceIte]; exact Ev.now _
  simp only [z, ↓reduceIte]
  have zz := szCu_of z
  have hg := unstashV_length a l m
  have hi := impl_CuckooUnstash_ev a l m hl1 hm1 hl2 hm2
  refine Ev.bind (laws_toCuckoo_ev a l m (by omega) (by omega)) ?_
  refine Ev.bind (spec_CuckooUnstash_ev a l m hl1 hm1 hl2 hm2) ?_
  refine Ev.bind (laws_toCuckoo_ev a l m (by omega) (by omega)) ?_
  refine Ev.bind hi ?_
  generalize unstashV a l m = v at *
  refine Ev.bind (laws_eqCuckoo_self v.1 v.2.1 v.2.2.1 (by omega) (by omega)) ?_
  simp only [bne_self_eq_false, ↓reduceIte]
  refine Ev.succ ?_
  simp only [laws_FnExactCuckooUnstash.j0, bne_self_eq_false, Bool.false_eq_true, ↓reduceIte]
  refine Ev.bind (laws_toCuckoo_ev a l m (by omega) (by omega)) ?_
  refine Ev.bind (laws_eqCuckoo_self a l m hl1 hm1) ?_
  simp only [↓reduceIte]
  refine Ev.bind (laws_markCuckoo_ev f hf a l m 1 (by omega) (by omega)) ?_
  simp only [show ¬ ((1 : Int) + (l.length : Int) + (m.length : Int) < 0) from by omega, ↓reduceIte]
  refine Ev.bind (laws_eqCuckoo_self v.1 v.2.1 v.2.2.1 (by omega) (by omega)) ?_
  simp only [↓reduceIte, bne_self_eq_false]
  refine Ev.succ ?_
  simp only [laws_FnExactCuckooUnstash.j1, bne_self_eq_false, Bool.false_eq_true, ↓reduceIte]
  refine Ev.bind (laws_markCuckoo_ev f hf v.1 v.2.1 v.2.2.1 1 (by omega) (by omega)) ?_
  refine Ev.bind (laws_heldCuckoo_ev f hf v.1 v.2.1.length v.2.2.1.length 1 (by omega) (by omega)) ?_
  simp only [show ¬ ((1 : Int) + (v.2.1.length : Int) + (v.2.2.1.length : Int) < 0) from by omega, ↓reduceIte]
  refine Ev.bind (laws_toCuckoo_ev a l m (by omega) (by omega)) ?_
  refine Ev.bind hi ?_
  refine Ev.bind (laws_eqCuckoo_self v.1 v.2.1 v.2.2.1 (by omega) (by omega)) ?_
  simp only [↓reduceIte, bne_self_eq_false]
  refine Ev.succ ?_
  simp only [laws_FnExactCuckooUnstash.j2, bne_self_eq_false, Bool.false_eq_true, ↓reduceIte]
  refine Ev.bind (laws_heldCuckoo_ev f hf v.1 v.2.1.length v.2.2.1.length 1 (by omega) (by omega)) ?_
  simp only [show ¬ ((1 : Int) + (v.2.1.length : Int) + (v.2.2.1.length : Int) < 0) from by omega, ↓reduceIte]
  exact Ev.now _

end Go.Proofs.Ythaicmebdgeamaa.Pure
