/- All texts over letters are different keys of one length, in the order of their letters. -/
import Derived.Test.YtdjpegkogfeofaaPFnTextsOverLettersx4
import Derived.Test.YtdjpegkogfeofaaBase
namespace Go.Proofs.Ytdjpegkogfeofaa.Pure
open Go.RowKit Go.Proofs.Ytdjpegkogfeofaa.PFnTextsOverLetters Go.Proofs.YtdjpegkogfeofaaW.PrintWords Go.Proofs.YtdjpegkogfeofaaW.PrintLast Go.Proofs.Ytdjpegkogfeofaa.Base
set_option linter.unusedVariables false
set_option linter.unusedSimpArgs false

theorem and255 (x : Int) : 0 ≤ Go.bits .and .u64 x 255 ∧ Go.bits .and .u64 x 255 ≤ 255 := by
  have e : Go.bits .and .u64 x 255 = IntKind.u64.wrap ((((BitVec.ofInt 64 x) &&& (BitVec.ofInt 64 255)).toNat : Nat) : Int) := rfl
  have h1 : ((BitVec.ofInt 64 x) &&& (BitVec.ofInt 64 255)).toNat ≤ 255 := by
    rw [BitVec.toNat_and]
    exact Nat.le_trans Nat.and_le_right (by decide)
  generalize ((BitVec.ofInt 64 x) &&& (BitVec.ofInt 64 255)).toNat = n at *
  have e2 : IntKind.u64.wrap (n : Int) = (n : Int) := by
    simp only [IntKind.wrap_u64]
    omega
  rw [e, e2]
  omega
def small (l : List Int) : Prop := l.length ≤ 1048576 ∧ ∀ x ∈ l, 0 ≤ x ∧ x ≤ 255
theorem small_rd {l : List Int} (h : small l) (i : Int) : 0 ≤ rd l i ∧ rd l i ≤ 255 := by
  unfold rd
  rw [List.getD_eq_getElem?_getD]
  cases e : l[i.toNat]? with
  | none => simp
  | some x => simpa using h.2 x (List.mem_of_getElem? e)
/-- A draw: at whatever place up to a bound, it gives something right, and goes on by so many places at the most. -/
def Draw {α : Type} (g : Int → Int → Option (α × Int × Int)) (m : Int) (P : α → Prop) : Prop := ∀ a s : Int, 0 ≤ a → a + m ≤ 4000000000000000000 → ∃ r a' s', g a s = some (r, a', s') ∧ P r ∧ a ≤ a' ∧ a' ≤ a + m
def DrawEv {α : Type} (g : Nat → Int → Int → Option (α × Int × Int)) (m : Int) (P : α → Prop) : Prop := ∀ a s : Int, 0 ≤ a → a + m ≤ 4000000000000000000 → ∃ r a' s', Ev (fun k => g k a s) (r, a', s') ∧ P r ∧ a ≤ a' ∧ a' ≤ a + m
theorem next_draw {l : List Int} (h : small l) : Draw (spec_l1Cur_next.f l) 1 (fun r => 0 ≤ r ∧ r ≤ 255) := by
  intro a s h0 h1
  have hr := small_rd h a
  have hl := h.1
  have w1 : wrap64 (rd l a) = rd l a := w64 (by omega) (by omega)
  have w2 : wrap64 (a + 1) = a + 1 := w64 (by omega) (by omega)
  unfold spec_l1Cur_next.f
  rw [w1, w2]
  by_cases c : a < (l.length : Int)
  · have c2 : a + 1 ≤ (l.length : Int) := by omega
    simp only [c, h0, c2, ↓reduceIte]
    exact ⟨_, _, _, rfl, hr, by omega, by omega⟩
  · have c2 : ¬ (a + 1 ≤ (l.length : Int)) := by omega
    simp only [c, c2, ↓reduceIte]
    have h2 := and255 (IntKind.u64.wrap (IntKind.u64.wrap (IntKind.u64.wrap (s * 6364136223846793005)) + 1442695040888963407) / 1099511627776)
    rw [w64 (n := Go.bits .and .u64 _ 255) (by omega) (by omega)]
    exact ⟨_, _, _, rfl, h2, by omega, by omega⟩
theorem pick_draw {l : List Int} (h : small l) (n : Int) (hn : n ≤ 1000000) : Draw (fun a s => spec_l1Cur_pick.f l a s n) 2 (fun r => 0 ≤ r ∧ (r < n ∨ r = 0)) := by
  intro a s h0 h1
  simp only [spec_l1Cur_pick.f]
  by_cases c : n ≤ 1
  · simp only [c, ↓reduceIte]
    exact ⟨_, _, _, rfl, by omega, by omega, by omega⟩
  · obtain ⟨r, a', s', e, hr, ha, ha'⟩ := next_draw h a s h0 (by omega)
    have hn0 : ¬ (n = 0) := by omega
    simp only [c, ↓reduceIte, e, Option.bind_some, hn0]
    by_cases c2 : n > 200
    · obtain ⟨r2, a2, s2, e2, hr2, ha2, ha2'⟩ := next_draw h a' s' (by omega) (by omega)
      simp only [c2, ↓reduceIte, e2, Option.bind_some]
      refine ⟨_, _, _, rfl, ?_, by omega, by omega⟩
      rw [w64 (n := r * 256) (by omega) (by omega), w64 (n := r * 256 + r2) (by omega) (by omega), tmod_pos (by omega)]
      exact ⟨Int.emod_nonneg _ (by omega), .inl (Int.emod_lt_of_pos _ (by omega))⟩
    · simp only [c2, ↓reduceIte]
      refine ⟨_, _, _, rfl, ?_, by omega, by omega⟩
      rw [tmod_pos hr.1]
      exact ⟨Int.emod_nonneg _ (by omega), .inl (Int.emod_lt_of_pos _ (by omega))⟩
theorem among_draw {l : List Int} (h : small l) (xs : List Int) (hx : 0 < xs.length) (hx2 : xs.length ≤ 1000) : Draw (fun a s => spec_l1Cur_among.f l a s xs) 2 (fun r => r ∈ xs) := by
  intro a s h0 h1
  obtain ⟨r, a', s', e, hr, ha, ha'⟩ := pick_draw h (xs.length : Int) (by omega) a s h0 h1
  have c : r < (xs.length : Int) := by omega
  obtain ⟨n, rfl⟩ := Int.eq_ofNat_of_zero_le hr.1
  simp only [spec_l1Cur_among.f, e, Option.bind_some, hr.1, c, ↓reduceIte]
  refine ⟨_, _, _, rfl, ?_, ha, ha'⟩
  rw [rd_nat xs n (by omega)]
  exact List.getElem_mem _
theorem of_draw {l : List Int} (h : small l) (xs : List ByteArray) (hx : 0 < xs.length) (hx2 : xs.length ≤ 1000) : Draw (fun a s => spec_l1Cur_of.f l a s xs) 2 (fun r => r ∈ xs) := by
  intro a s h0 h1
  obtain ⟨r, a', s', e, hr, ha, ha'⟩ := pick_draw h (xs.length : Int) (by omega) a s h0 h1
  have c : r < (xs.length : Int) := by omega
  obtain ⟨n, rfl⟩ := Int.eq_ofNat_of_zero_le hr.1
  simp only [spec_l1Cur_of.f, e, Option.bind_some, hr.1, c, ↓reduceIte]
  refine ⟨_, _, _, rfl, ?_, ha, ha'⟩
  rw [rdOf_nat _ xs n (by omega)]
  exact List.getElem_mem _
theorem letters_draw {l : List Int} (h : small l) : Draw (spec_l1Cur_letters.f l) 2 (fun r => r.size ≤ 1000) := by
  intro a s h0 h1
  obtain ⟨r, a', s', e, hr, ha, ha'⟩ := of_draw h [(⟨#[97]⟩ : ByteArray), (⟨#[97, 98]⟩ : ByteArray), (⟨#[98, 97]⟩ : ByteArray), (⟨#[97, 98, 99]⟩ : ByteArray), (⟨#[120, 121, 122, 33]⟩ : ByteArray), (⟨#[97, 98, 99, 100, 101, 102, 103, 104]⟩ : ByteArray), (⟨#[]⟩ : ByteArray), (⟨#[97, 97]⟩ : ByteArray), (⟨#[97, 32, 98]⟩ : ByteArray), (⟨#[97, 98, 99, 100, 101, 102, 103, 104, 105, 106, 107, 108]⟩ : ByteArray), (⟨#[97, 98, 99, 100, 101, 102, 103, 104, 105, 106, 107, 108, 109]⟩ : ByteArray)] (by decide) (by decide) a s h0 h1
  simp only [spec_l1Cur_letters.f, e, Option.bind_some]
  refine ⟨_, _, _, rfl, ?_, ha, ha'⟩
  simp only [List.mem_cons, List.not_mem_nil, or_false] at hr
  rcases hr with rfl | rfl | rfl | rfl | rfl | rfl | rfl | rfl | rfl | rfl | rfl <;> decide
theorem strOfNums_size (l : List Int) : (strOfNums l).size = l.length := by simp [strOfNums, ByteArray.size]
theorem small_of {l : List Int} (h1 : l.length ≤ 1048576) (h2 : ∀ x ∈ l, (Lit.int .u8 x).wf = true) : small l := by
  refine ⟨h1, fun x hx => ?_⟩
  have := h2 x hx
  simpa [Lit.wf, IntKind.min, IntKind.max, IntKind.signed, IntKind.bits] using this
theorem spec_l1In_eq (a b c : Int) : spec_l1In.f a b c = some (decide (b ≤ a ∧ a ≤ c)) := by
  unfold spec_l1In.f
  by_cases h : b ≤ a <;> simp [h]
theorem spec_IsKey_ev (s : ByteArray) (hs : s.size ≤ 9223372036854775807) : Ev (fun k => spec_IsKey.f k s) (isKey s) := by
  have h := Ev.up (L := fun k i => spec_IsKey.l0 k s (i : Int)) (r := fun i => ((bytesOf s).drop i).all okByte && decide (1 ≤ (s.size : Int) ∧ (s.size : Int) ≤ 12)) s.size ?_ ?_ 0 (Nat.zero_le _)
  · exact h
  · refine Ev.succ ?_
    have h1 : ¬ ((s.size : Int) < (s.size : Int)) := by omega
    simp only [spec_IsKey.l0, h1, ↓reduceIte, spec_l1In_eq, Option.bind_some]
    exact Ev.some_ (by rw [List.drop_of_length_le (by rw [bytesOf_length]; exact Nat.le_refl _)]; simp)
  · intro i hi ih
    refine Ev.succ ?_
    have h1 : (i : Int) < (s.size : Int) := by omega
    have h2 : (0 : Int) ≤ (i : Int) := by omega
    have hw : wrap64 ((i : Int) + 1) = ((i + 1 : Nat) : Int) := by rw [w64 (by omega) (by omega)]; rfl
    have hb := bt_nat s i hi
    simp only [spec_IsKey.l0, h1, h2, ↓reduceIte, hw]
    rw [drop_cons _ _ (by rw [bytesOf_length]; exact hi), List.all_cons, ← hb]
    by_cases c1 : bt s i < 33
    · simp only [c1, ↓reduceIte]
      exact Ev.some_ (by simp [okByte]; omega)
    · by_cases c2 : bt s i > 125
      · simp only [c1, c2, ↓reduceIte]
        exact Ev.some_ (by simp [okByte]; omega)
      · simp only [c1, c2, ↓reduceIte]
        have c3 : okByte (bt s i) = true := by simp [okByte]; omega
        rw [c3, Bool.true_and]
        exact ih
theorem impl_in_eq (a b c : Int) : impl_in.f a b c = some (decide (b ≤ a ∧ a ≤ c)) := by
  unfold impl_in.f
  by_cases h : b ≤ a <;> simp [h]
theorem impl_IsKey_ev (s : ByteArray) (hs : s.size ≤ 9223372036854775807) : Ev (fun k => impl_IsKey.f k s) (isKey s) := by
  have h := Ev.up (L := fun k i => impl_IsKey.l0 k s (s.size : Int) (i : Int)) (r := fun i => ((bytesOf s).drop i).all okByte && decide (1 ≤ (s.size : Int) ∧ (s.size : Int) ≤ 12)) s.size ?_ ?_ 0 (Nat.zero_le _)
  · exact h
  · refine Ev.succ ?_
    have h1 : ¬ ((s.size : Int) < (s.size : Int)) := by omega
    simp only [impl_IsKey.l0, h1, ↓reduceIte, impl_in_eq, Option.bind_some]
    exact Ev.some_ (by rw [List.drop_of_length_le (by rw [bytesOf_length]; exact Nat.le_refl _)]; simp)
  · intro i hi ih
    refine Ev.succ ?_
    have h1 : (i : Int) < (s.size : Int) := by omega
    have h2 : (0 : Int) ≤ (i : Int) := by omega
    have hw : wrap64 ((i : Int) + 1) = ((i + 1 : Nat) : Int) := by rw [w64 (by omega) (by omega)]; rfl
    have hb := bt_nat s i hi
    simp only [impl_IsKey.l0, h1, h2, ↓reduceIte, hw]
    rw [drop_cons _ _ (by rw [bytesOf_length]; exact hi), List.all_cons, ← hb]
    by_cases c1 : bt s i < 33
    · simp only [c1, ↓reduceIte]
      exact Ev.some_ (by simp [okByte]; omega)
    · by_cases c2 : bt s i > 125
      · simp only [c1, c2, ↓reduceIte]
        exact Ev.some_ (by simp [okByte]; omega)
      · simp only [c1, c2, ↓reduceIte]
        have c3 : okByte (bt s i) = true := by simp [okByte]; omega
        rw [c3, Bool.true_and]
        exact ih
def lettersV (s : ByteArray) : Bool := decide (bytesOf s).Nodup && isKey s
theorem bt_mem_take {s : ByteArray} {i j : Nat} (hj : j < s.size) : (bytesOf s).take (j + 1) = (bytesOf s).take j ++ [bt s (j : Int)] := by
  rw [List.take_succ_eq_append_getElem (by rw [bytesOf_length]; exact hj), bt_nat s j hj]
theorem spec_fiLetters_l1 (s : ByteArray) (hs : s.size ≤ 1048576) (i : Nat) (hi : i < s.size) (r : Bool) (hin : bt s (i : Int) ∈ (bytesOf s).take i → r = false) (hout : bt s (i : Int) ∉ (bytesOf s).take i → Ev (fun k => spec_fiLetters.l0 k s ((i + 1 : Nat) : Int)) r) (d : Nat) : ∀ j : Nat, j + d = i → bt s (i : Int) ∉ (bytesOf s).take j → Ev (fun k => spec_fiLetters.l1 k s (i : Int) (j : Int)) r := by
  induction d with
  | zero =>
    intro j hj hn
    obtain rfl : j = i := by omega
    refine Ev.succ ?_
    have h1 : ¬ ((j : Int) < (j : Int)) := by omega
    have hw : wrap64 ((j : Int) + 1) = ((j + 1 : Nat) : Int) := by rw [w64 (by omega) (by omega)]; rfl
    simp only [spec_fiLetters.l1, h1, ↓reduceIte, hw]
    exact hout hn
  | succ d ih =>
    intro j hj hn
    refine Ev.succ ?_
    have h1 : (j : Int) < (i : Int) := by omega
    have h2 : (0 : Int) ≤ (i : Int) := by omega
    have h3 : (i : Int) < (s.size : Int) := by omega
    have h4 : (0 : Int) ≤ (j : Int) := by omega
    have h5 : (j : Int) < (s.size : Int) := by omega
    have hw : wrap64 ((j : Int) + 1) = ((j + 1 : Nat) : Int) := by rw [w64 (by omega) (by omega)]; rfl
    have ht := bt_mem_take (s := s) (i := i) (j := j) (by omega)
    simp only [spec_fiLetters.l1, h1, h2, h3, h4, h5, ↓reduceIte, hw]
    by_cases c : bt s (i : Int) = bt s (j : Int)
    · simp only [c, ↓reduceIte]
      refine Ev.some_ (hin ?_).symm
      have hsub : (bytesOf s).take (j + 1) ⊆ (bytesOf s).take i := (List.take_prefix_take_left (by omega)).subset
      apply hsub
      rw [ht, c]
      simp
    · simp only [c, ↓reduceIte]
      exact ih (j + 1) (by omega) (by rw [ht]; simp [hn, c])
theorem spec_fiLetters_l0 (s : ByteArray) (hs : s.size ≤ 1048576) (d : Nat) : ∀ i : Nat, i + d = s.size → ((bytesOf s).take i).Nodup → Ev (fun k => spec_fiLetters.l0 k s (i : Int)) (lettersV s) := by
  induction d with
  | zero =>
    intro i hi hn
    refine Ev.succ ?_
    have h1 : ¬ ((i : Int) < (s.size : Int)) := by omega
    simp only [spec_fiLetters.l0, h1, ↓reduceIte]
    rw [List.take_of_length_le (by rw [bytesOf_length]; omega)] at hn
    refine Ev.bind (spec_IsKey_ev s (by omega)) ?_
    exact Ev.some_ (by simp [lettersV, hn])
  | succ d ih =>
    intro i hi hn
    refine Ev.succ ?_
    have h1 : (i : Int) < (s.size : Int) := by omega
    have ht := bt_mem_take (s := s) (i := i) (j := i) (by omega)
    simp only [spec_fiLetters.l0, h1, ↓reduceIte]
    refine spec_fiLetters_l1 s hs i (by omega) _ (fun hin => ?_) (fun hout => ?_) i 0 (by omega) (by simp)
    · have hno : ¬ (bytesOf s).Nodup := by
        intro hN
        have h2 := hN.sublist (List.take_sublist (i + 1) _)
        rw [ht, List.nodup_append] at h2
        exact h2.2.2 _ hin _ (by simp) rfl
      simp [lettersV, hno]
    · refine ih (i + 1) (by omega) ?_
      rw [ht, List.nodup_append]
      refine ⟨hn, by simp, ?_⟩
      intro a ha b hb e
      simp at hb
      subst hb
      exact hout (e ▸ ha)
theorem spec_fiLetters_ev (s : ByteArray) (hs : s.size ≤ 1048576) : Ev (fun k => spec_fiLetters.f k s) (lettersV s) := spec_fiLetters_l0 s hs s.size 0 (by omega) (by simp)
theorem impl_areLetters_ev (s : ByteArray) (hs : s.size ≤ 1048576) : Ev (fun k => impl_areLetters.f k s) (lettersV s) := by
  have h1 : s.size < 4611686018427387904 := by omega
  unfold impl_areLetters.f lettersV
  simp only [h1, ↓reduceIte]
  by_cases c : (bytesOf s).Nodup
  · simp only [c, ↓reduceIte, decide_true, Bool.true_and]
    exact impl_IsKey_ev s (by omega)
  · simp only [c, ↓reduceIte, decide_false, Bool.false_and]
    exact Ev.now _
def letterV (s : ByteArray) (w : ByteArray) (i : Nat) : ByteArray := w ++ s.extract i (i + 1)
def putAll (s : ByteArray) (w : ByteArray) (i : Nat) : List ByteArray := (List.range' i (s.size - i)).map (letterV s w)
theorem putAll_end (s w : ByteArray) : putAll s w s.size = [] := by simp [putAll]
theorem putAll_step (s w : ByteArray) (i : Nat) (h : i < s.size) : putAll s w i = letterV s w i :: putAll s w (i + 1) := by
  unfold putAll
  rw [show s.size - i = (s.size - (i + 1)) + 1 from by omega, List.range'_succ, List.map_cons]
theorem putAll_length (s w : ByteArray) (i : Nat) : (putAll s w i).length = s.size - i := by simp [putAll]
theorem letterV_size {s w : ByteArray} {i : Nat} (h : i < s.size) : (letterV s w i).size = w.size + 1 := by
  unfold letterV
  rw [ByteArray.size_append, ByteArray.size_extract]
  omega
def stepV (s : ByteArray) (ws : List ByteArray) : List ByteArray := ws.flatMap fun w => putAll s w 0
theorem stepV_length (s : ByteArray) (ws : List ByteArray) : (stepV s ws).length = ws.length * s.size := by
  induction ws with
  | nil => simp [stepV]
  | cons w r ih =>
    have e : stepV s (w :: r) = putAll s w 0 ++ stepV s r := by simp [stepV]
    rw [e, List.length_append, ih, putAll_length, List.length_cons, Nat.succ_mul]
    omega
theorem stepV_size {s : ByteArray} {ws : List ByteArray} {t : Nat} (h : ∀ w ∈ ws, w.size ≤ t) : ∀ w ∈ stepV s ws, w.size ≤ t + 1 := by
  intro w hw
  unfold stepV at hw
  obtain ⟨x, hx, hw⟩ := List.mem_flatMap.1 hw
  unfold putAll at hw
  obtain ⟨i, hi, rfl⟩ := List.mem_map.1 hw
  simp only [List.mem_range'] at hi
  obtain ⟨j, hj, rfl⟩ := hi
  rw [letterV_size (by omega)]
  have := h x hx
  omega
def textsFrom (s : ByteArray) : Nat → List ByteArray → List ByteArray × Bool
  | 0, ws => (ws, true)
  | n + 1, ws => if ((stepV s ws).length : Int) > 300 then ([], false) else textsFrom s n (stepV s ws)
theorem textsFrom_length (s : ByteArray) : ∀ (n : Nat) (ws : List ByteArray), ws.length ≤ 300 → (textsFrom s n ws).1.length ≤ 300 := by
  intro n
  induction n with
  | zero => intro ws h; exact h
  | succ n ih =>
    intro ws h
    unfold textsFrom
    by_cases c : ((stepV s ws).length : Int) > 300
    · rw [if_pos c]; exact Nat.zero_le _
    · rw [if_neg c]; exact ih _ (by omega)
def textsV (s : ByteArray) (n : Int) : List ByteArray × Bool := if lettersV s = true ∧ 1 ≤ n ∧ n ≤ 8 then textsFrom s n.toNat [⟨#[]⟩] else ([], false)
theorem textsV_length (s : ByteArray) (n : Int) : (textsV s n).1.length ≤ 300 := by
  unfold textsV
  by_cases c : lettersV s = true ∧ 1 ≤ n ∧ n ≤ 8
  · rw [if_pos c]; exact textsFrom_length s _ _ (by simp)
  · rw [if_neg c]; exact Nat.zero_le _
theorem lettersV_size {s : ByteArray} (h : lettersV s = true) : s.size ≤ 12 := by
  unfold lettersV at h
  simp only [Bool.and_eq_true] at h
  exact (isKey_size h.2).2
theorem spec_fiTexts_l2 (s : ByteArray) (hs : s.size ≤ 12) (n : Int) (w : ByteArray) (hw : w.size ≤ 100) (xs : List ByteArray) (a b : Int) (r : List ByteArray × Bool) (d : Nat) : ∀ (i : Nat) (acc : List ByteArray), i + d = s.size → acc.length + d ≤ 1000000 → Ev (fun k => spec_fiTexts.l1 k s n (acc ++ putAll s w i) xs a (wrap64 (b + 1))) r → Ev (fun k => spec_fiTexts.l2 k s n acc w (i : Int) xs a b) r := by
  induction d with
  | zero =>
    intro i acc hi hacc h
    refine Ev.succ ?_
    have h1 : ¬ ((i : Int) < (s.size : Int)) := by omega
    simp only [spec_fiTexts.l2, h1, ↓reduceIte]
    obtain rfl : i = s.size := by omega
    rw [putAll_end, List.append_nil] at h
    exact h
  | succ d ih =>
    intro i acc hi hacc h
    refine Ev.succ ?_
    have h1 : (i : Int) < (s.size : Int) := by omega
    have h2 : (0 : Int) ≤ (i : Int) := by omega
    have hw1 : wrap64 ((i : Int) + 1) = ((i + 1 : Nat) : Int) := by rw [w64 (by omega) (by omega)]; rfl
    have h3 : (i : Int) ≤ ((i + 1 : Nat) : Int) := by omega
    have h4 : ((i + 1 : Nat) : Int) ≤ (s.size : Int) := by omega
    have h5 : w.size + (s.extract i (i + 1)).size ≤ 9223372036854775807 := by rw [ByteArray.size_extract]; omega
    have h6 : acc.length < 8796093022208 := by omega
    simp only [spec_fiTexts.l2, h1, h2, hw1, h3, h4, Int.toNat_natCast, h5, h6, ↓reduceIte]
    refine ih (i + 1) _ (by omega) (by simp; omega) ?_
    rw [putAll_step s w i (by omega)] at h
    rw [List.append_assoc]
    exact h
theorem spec_fiTexts_l1 (s : ByteArray) (hs : s.size ≤ 12) (n : Int) (xs : List ByteArray) (hx : ∀ w ∈ xs, w.size ≤ 100) (hl : xs.length ≤ 300) (r : List ByteArray × Bool) (d : Nat) : ∀ (i : Nat) (acc : List ByteArray), i + d = xs.length → acc.length = i * s.size → acc ++ stepV s (xs.drop i) = stepV s xs → (((stepV s xs).length : Int) > 300 → r = ([], false)) → (¬ ((stepV s xs).length : Int) > 300 → Ev (fun k => spec_fiTexts.l0 k s (wrap64 (n - 1)) (stepV s xs)) r) → Ev (fun k => spec_fiTexts.l1 k s n acc xs (xs.length : Int) (i : Int)) r := by
  induction d with
  | zero =>
    intro i acc hi hlen hacc hr1 hr2
    refine Ev.succ ?_
    have h1 : ¬ ((i : Int) < (xs.length : Int)) := by omega
    rw [List.drop_eq_nil_of_le (by omega), show stepV s [] = [] from rfl, List.append_nil] at hacc
    subst hacc
    simp only [spec_fiTexts.l1, h1, ↓reduceIte]
    by_cases c : ((stepV s xs).length : Int) > 300
    · simp only [c, ↓reduceIte]; exact Ev.some_ (hr1 c).symm
    · simp only [c, ↓reduceIte]; exact hr2 c
  | succ d ih =>
    intro i acc hi hlen hacc hr1 hr2
    refine Ev.succ ?_
    have h0 : i < xs.length := by omega
    have h1 : (i : Int) < (xs.length : Int) := by omega
    have h2 : (0 : Int) ≤ (i : Int) := by omega
    have hw1 : wrap64 ((i : Int) + 1) = ((i + 1 : Nat) : Int) := by rw [w64 (by omega) (by omega)]; rfl
    have hm : i * s.size ≤ 300 * 12 := Nat.mul_le_mul (by omega) hs
    simp only [spec_fiTexts.l1, h1, h2, ↓reduceIte, rdOf_nat ByteArray.empty xs i h0]
    refine spec_fiTexts_l2 s hs n _ (hx _ (List.getElem_mem h0)) xs _ _ r s.size 0 acc (by omega) (by omega) ?_
    rw [hw1]
    refine ih (i + 1) _ (by omega) ?_ ?_ hr1 hr2
    · rw [List.length_append, putAll_length, hlen, Nat.succ_mul]; omega
    · rw [← hacc, drop_cons xs i h0, List.append_assoc]
      rfl
theorem spec_fiTexts_l0 (s : ByteArray) (hs : s.size ≤ 12) : ∀ (n : Nat) (ws : List ByteArray), n ≤ 8 → ws.length ≤ 300 → (∀ w ∈ ws, w.size + n ≤ 100) → Ev (fun k => spec_fiTexts.l0 k s (n : Int) ws) (textsFrom s n ws) := by
  intro n
  induction n with
  | zero =>
    intro ws h8 hl hz
    refine Ev.succ ?_
    have h1 : ¬ (((0 : Nat) : Int) > 0) := by omega
    simp only [spec_fiTexts.l0, h1, ↓reduceIte]
    exact Ev.now _
  | succ n ih =>
    intro ws h8 hl hz
    refine Ev.succ ?_
    have h1 : ((n + 1 : Nat) : Int) > 0 := by omega
    simp only [spec_fiTexts.l0, h1, ↓reduceIte]
    refine spec_fiTexts_l1 s hs _ ws (fun w hw => by have := hz w hw; omega) hl _ ws.length 0 [] (by omega) (by simp) (by simp) ?_ ?_
    · intro c; unfold textsFrom; rw [if_pos c]
    · intro c
      have hw1 : wrap64 (((n + 1 : Nat) : Int) - 1) = (n : Int) := by rw [w64 (by omega) (by omega)]; omega
      unfold textsFrom
      rw [if_neg c, hw1]
      refine ih (stepV s ws) (by omega) (by omega) ?_
      have := stepV_size (s := s) (ws := ws) (t := 100 - (n + 1)) (fun w hw => by have := hz w hw; omega)
      intro w hw
      have := this w hw
      omega
theorem spec_TextsOver_ev (s : ByteArray) (n : Int) (hs : s.size ≤ 1048576) : Ev (fun k => spec_TextsOver.f k s n) (textsV s n) := by
  unfold spec_TextsOver.f textsV
  refine Ev.bind (spec_fiLetters_ev s hs) ?_
  cases h : lettersV s with
  | false => simp only [Bool.false_eq_true, ↓reduceIte, false_and]; exact Ev.now _
  | true =>
    simp only [↓reduceIte, true_and, spec_l1In_eq, Option.bind_some]
    by_cases c : 1 ≤ n ∧ n ≤ 8
    · simp only [c, and_self, decide_true, ↓reduceIte]
      have h8 := lettersV_size h
      have e := spec_fiTexts_l0 s h8 n.toNat [⟨#[]⟩] (by omega) (by simp) (by intro w hw; simp at hw; subst hw; simp [ByteArray.size]; omega)
      rw [show ((n.toNat : Nat) : Int) = n from by omega] at e
      exact Ev.bind (g := fun k => spec_fiTexts.f k s n) e (Ev.now _)
    · simp only [c, decide_false, Bool.false_eq_true, ↓reduceIte]
      exact Ev.now _
theorem impl_TextsOver_l2 (s : ByteArray) (hs : s.size ≤ 12) (w : ByteArray) (hw : w.size ≤ 100) (xs : List ByteArray) (p q a b : Int) (r : List ByteArray × Bool) (d : Nat) : ∀ (i : Nat) (acc : List ByteArray), i + d = s.size → acc.length + d ≤ 1000000 → Ev (fun k => impl_TextsOver.l1 k s (acc ++ putAll s w i) p q xs a (wrap64 (b + 1))) r → Ev (fun k => impl_TextsOver.l2 k s acc w p q xs a b (s.size : Int) (i : Int)) r := by
  induction d with
  | zero =>
    intro i acc hi hacc h
    refine Ev.succ ?_
    have h1 : ¬ ((i : Int) < (s.size : Int)) := by omega
    simp only [impl_TextsOver.l2, h1, ↓reduceIte]
    obtain rfl : i = s.size := by omega
    rw [putAll_end, List.append_nil] at h
    exact h
  | succ d ih =>
    intro i acc hi hacc h
    refine Ev.succ ?_
    have h1 : (i : Int) < (s.size : Int) := by omega
    have h2 : (0 : Int) ≤ (i : Int) := by omega
    have hw1 : wrap64 ((i : Int) + 1) = ((i + 1 : Nat) : Int) := by rw [w64 (by omega) (by omega)]; rfl
    have h3 : (i : Int) ≤ ((i + 1 : Nat) : Int) := by omega
    have h4 : ((i + 1 : Nat) : Int) ≤ (s.size : Int) := by omega
    have h5 : w.size + (s.extract i (i + 1)).size ≤ 9223372036854775807 := by rw [ByteArray.size_extract]; omega
    have h6 : acc.length < 8796093022208 := by omega
    simp only [impl_TextsOver.l2, h1, h2, hw1, h3, h4, Int.toNat_natCast, h5, h6, ↓reduceIte]
    refine ih (i + 1) _ (by omega) (by simp; omega) ?_
    rw [putAll_step s w i (by omega)] at h
    rw [List.append_assoc]
    exact h
theorem impl_TextsOver_l1 (s : ByteArray) (hs : s.size ≤ 12) (p q : Int) (xs : List ByteArray) (hx : ∀ w ∈ xs, w.size ≤ 100) (hl : xs.length ≤ 300) (r : List ByteArray × Bool) (d : Nat) : ∀ (i : Nat) (acc : List ByteArray), i + d = xs.length → acc.length = i * s.size → acc ++ stepV s (xs.drop i) = stepV s xs → (((stepV s xs).length : Int) > 300 → r = ([], false)) → (¬ ((stepV s xs).length : Int) > 300 → Ev (fun k => impl_TextsOver.l0 k s (stepV s xs) p (wrap64 (q + 1))) r) → Ev (fun k => impl_TextsOver.l1 k s acc p q xs (xs.length : Int) (i : Int)) r := by
  induction d with
  | zero =>
    intro i acc hi hlen hacc hr1 hr2
    refine Ev.succ ?_
    have h1 : ¬ ((i : Int) < (xs.length : Int)) := by omega
    rw [List.drop_eq_nil_of_le (by omega), show stepV s [] = [] from rfl, List.append_nil] at hacc
    subst hacc
    simp only [impl_TextsOver.l1, h1, ↓reduceIte]
    by_cases c : ((stepV s xs).length : Int) > 300
    · simp only [c, ↓reduceIte]; exact Ev.some_ (hr1 c).symm
    · simp only [c, ↓reduceIte]; exact hr2 c
  | succ d ih =>
    intro i acc hi hlen hacc hr1 hr2
    refine Ev.succ ?_
    have h0 : i < xs.length := by omega
    have h1 : (i : Int) < (xs.length : Int) := by omega
    have h2 : (0 : Int) ≤ (i : Int) := by omega
    have hw1 : wrap64 ((i : Int) + 1) = ((i + 1 : Nat) : Int) := by rw [w64 (by omega) (by omega)]; rfl
    have hm : i * s.size ≤ 300 * 12 := Nat.mul_le_mul (by omega) hs
    simp only [impl_TextsOver.l1, h1, h2, ↓reduceIte, rdOf_nat ByteArray.empty xs i h0]
    refine impl_TextsOver_l2 s hs _ (hx _ (List.getElem_mem h0)) xs _ _ _ _ r s.size 0 acc (by omega) (by omega) ?_
    rw [hw1]
    refine ih (i + 1) _ (by omega) ?_ ?_ hr1 hr2
    · rw [List.length_append, putAll_length, hlen, Nat.succ_mul]; omega
    · rw [← hacc, drop_cons xs i h0, List.append_assoc]
      rfl
theorem impl_TextsOver_l0 (s : ByteArray) (hs : s.size ≤ 12) (n : Nat) (hn : n ≤ 8) : ∀ (d i : Nat) (ws : List ByteArray), i + d = n → ws.length ≤ 300 → (∀ w ∈ ws, w.size + d ≤ 100) → Ev (fun k => impl_TextsOver.l0 k s ws (n : Int) (i : Int)) (textsFrom s d ws) := by
  intro d
  induction d with
  | zero =>
    intro i ws hi hl hz
    refine Ev.succ ?_
    have h1 : ¬ ((i : Int) < (n : Int)) := by omega
    simp only [impl_TextsOver.l0, h1, ↓reduceIte]
    exact Ev.now _
  | succ d ih =>
    intro i ws hi hl hz
    refine Ev.succ ?_
    have h1 : (i : Int) < (n : Int) := by omega
    simp only [impl_TextsOver.l0, h1, ↓reduceIte]
    refine impl_TextsOver_l1 s hs _ _ ws (fun w hw => by have := hz w hw; omega) hl _ ws.length 0 [] (by omega) (by simp) (by simp) ?_ ?_
    · intro c; unfold textsFrom; rw [if_pos c]
    · intro c
      have hw1 : wrap64 ((i : Int) + 1) = ((i + 1 : Nat) : Int) := by rw [w64 (by omega) (by omega)]; rfl
      unfold textsFrom
      rw [if_neg c, hw1]
      refine ih (i + 1) (stepV s ws) (by omega) (by omega) ?_
      have := stepV_size (s := s) (ws := ws) (t := 100 - (d + 1)) (fun w hw => by have := hz w hw; omega)
      intro w hw
      have := this w hw
      omega
theorem impl_TextsOver_ev (s : ByteArray) (n : Int) (hs : s.size ≤ 1048576) : Ev (fun k => impl_TextsOver.f k s n) (textsV s n) := by
  unfold impl_TextsOver.f textsV
  refine Ev.bind (impl_areLetters_ev s hs) ?_
  cases h : lettersV s with
  | false => simp only [Bool.false_eq_true, ↓reduceIte, false_and]; refine Ev.succ ?_; simp only [impl_TextsOver.j0, ↓reduceIte]; exact Ev.now _
  | true =>
    simp only [↓reduceIte, true_and, impl_in_eq, Option.bind_some]
    refine Ev.succ ?_
    by_cases c : 1 ≤ n ∧ n ≤ 8
    · simp only [impl_TextsOver.j0, c, and_self, decide_true, Bool.not_true, Bool.false_eq_true, ↓reduceIte]
      have h8 := lettersV_size h
      have e := impl_TextsOver_l0 s h8 n.toNat (by omega) n.toNat 0 [⟨#[]⟩] (by omega) (by simp) (by intro w hw; simp at hw; subst hw; simp [ByteArray.size]; omega)
      rw [show ((n.toNat : Nat) : Int) = n from by omega] at e
      exact e
    · simp only [impl_TextsOver.j0, c, decide_false, Bool.not_false, ↓reduceIte]
      exact Ev.now _

def digitV (s : ByteArray) (b : Int) : Nat := (bytesOf s).findIdx fun x => x == b
def numV (s : ByteArray) (l : List Int) : Nat := l.foldl (fun n b => n * s.size + digitV s b) 0
theorem numV_snoc (s : ByteArray) (l : List Int) (b : Int) : numV s (l ++ [b]) = numV s l * s.size + digitV s b := by simp [numV]
theorem digitV_lt {s : ByteArray} {b : Int} (h : b ∈ bytesOf s) : digitV s b < s.size := by
  unfold digitV
  rw [← bytesOf_length s]
  exact List.findIdx_lt_length_of_exists ⟨b, h, by simp⟩
theorem digitV_at {s : ByteArray} (hn : (bytesOf s).Nodup) (j : Nat) (hj : j < s.size) : digitV s ((bytesOf s)[j]'(by rw [bytesOf_length]; exact hj)) = j := by
  have hb : j < (bytesOf s).length := by rw [bytesOf_length]; exact hj
  have h1 := digitV_lt (List.getElem_mem hb)
  have h2 : (bytesOf s)[digitV s (bytesOf s)[j]]'(by rw [bytesOf_length]; exact h1) = (bytesOf s)[j] := by
    have := List.findIdx_getElem (xs := bytesOf s) (p := fun x => x == (bytesOf s)[j]) (w := by rw [bytesOf_length]; exact h1)
    simpa [digitV] using this
  exact (List.getElem_inj hn).1 h2
theorem bytesOf_letter {s w : ByteArray} {j : Nat} (hj : j < s.size) : bytesOf (letterV s w j) = bytesOf w ++ [(bytesOf s)[j]'(by rw [bytesOf_length]; exact hj)] := by
  unfold letterV bytesOf
  simp only [ByteArray.data_append, Array.toList_append, List.map_append]
  congr 1
  have hd : j < s.data.size := hj
  rw [ByteArray.data_extract]
  apply List.ext_getElem
  · simp
    omega
  · intro i h1 h2
    have : i = 0 := by simpa using h2
    subst this
    simp
def okText (s : ByteArray) (t : Nat) (w : ByteArray) : Prop := w.size = t ∧ ∀ b ∈ bytesOf w, b ∈ bytesOf s
theorem flat_range (a b : Nat) : (List.range a).flatMap (fun i => (List.range b).map fun j => i * b + j) = List.range (a * b) := by
  induction a with
  | zero => simp
  | succ a ih =>
    rw [List.range_succ, List.flatMap_append, ih, Nat.succ_mul, List.range_add]
    simp
theorem putAll_nums {s : ByteArray} (hn : (bytesOf s).Nodup) (w : ByteArray) : (putAll s w 0).map (fun v => numV s (bytesOf v)) = (List.range s.size).map fun j => numV s (bytesOf w) * s.size + j := by
  unfold putAll
  rw [List.map_map, Nat.sub_zero, ← List.range_eq_range']
  refine List.map_congr_left fun j hj => ?_
  have hj' : j < s.size := by simpa using hj
  show numV s (bytesOf (letterV s w j)) = _
  rw [bytesOf_letter hj', numV_snoc, digitV_at hn j hj']
theorem stepV_nums {s : ByteArray} (hn : (bytesOf s).Nodup) (ws : List ByteArray) : (stepV s ws).map (fun v => numV s (bytesOf v)) = (ws.map fun w => numV s (bytesOf w)).flatMap fun i => (List.range s.size).map fun j => i * s.size + j := by
  induction ws with
  | nil => simp [stepV]
  | cons w r ih =>
    have e : stepV s (w :: r) = putAll s w 0 ++ stepV s r := by simp [stepV]
    rw [e, List.map_append, ih, List.map_cons, List.flatMap_cons, putAll_nums hn]
theorem stepV_ok {s : ByteArray} {t : Nat} {ws : List ByteArray} (h : ∀ w ∈ ws, okText s t w) : ∀ w ∈ stepV s ws, okText s (t + 1) w := by
  intro w hw
  unfold stepV at hw
  obtain ⟨x, hx, hw⟩ := List.mem_flatMap.1 hw
  unfold putAll at hw
  obtain ⟨i, hi, rfl⟩ := List.mem_map.1 hw
  simp only [List.mem_range'] at hi
  obtain ⟨j, hj, rfl⟩ := hi
  have hj' : 0 + 1 * j < s.size := by omega
  obtain ⟨h1, h2⟩ := h x hx
  refine ⟨by rw [letterV_size hj', h1], ?_⟩
  intro b hb
  rw [bytesOf_letter hj'] at hb
  rcases List.mem_append.1 hb with g | g
  · exact h2 b g
  · simp only [List.mem_singleton] at g
    rw [g]
    exact List.getElem_mem _
theorem textsFrom_nums {s : ByteArray} (hn : (bytesOf s).Nodup) (d : Nat) : ∀ (t : Nat) (ws : List ByteArray), (ws.map fun w => numV s (bytesOf w)) = List.range (s.size ^ t) → (∀ w ∈ ws, okText s t w) → (textsFrom s d ws).2 = true → ((textsFrom s d ws).1.map fun w => numV s (bytesOf w)) = List.range (s.size ^ (t + d)) ∧ ∀ w ∈ (textsFrom s d ws).1, okText s (t + d) w := by
  induction d with
  | zero => intro t ws h1 h2 _; exact ⟨h1, h2⟩
  | succ d ih =>
    intro t ws h1 h2 h3
    unfold textsFrom at h3 ⊢
    by_cases c : ((stepV s ws).length : Int) > 300
    · rw [if_pos c] at h3
      cases h3
    · rw [if_neg c] at h3 ⊢
      have := ih (t + 1) (stepV s ws) (by rw [stepV_nums hn, h1, flat_range, Nat.pow_succ]) (stepV_ok h2) h3
      rw [show t + (d + 1) = t + 1 + d from by omega]
      exact this
theorem textsV_nums {s : ByteArray} {n : Int} (h : (textsV s n).2 = true) : (1 ≤ n ∧ n ≤ 8) ∧ lettersV s = true ∧ ((textsV s n).1.map fun w => numV s (bytesOf w)) = List.range (s.size ^ n.toNat) ∧ ∀ w ∈ (textsV s n).1, okText s n.toNat w := by
  unfold textsV at h ⊢
  by_cases c : lettersV s = true ∧ 1 ≤ n ∧ n ≤ 8
  · rw [if_pos c] at h ⊢
    have hn : (bytesOf s).Nodup := by
      have := c.1
      unfold lettersV at this
      simp only [Bool.and_eq_true, decide_eq_true_eq] at this
      exact this.1
    have := textsFrom_nums hn n.toNat 0 [⟨#[]⟩] (by simp [numV, bytesOf]) (by
      intro w hw
      simp at hw
      subst hw
      exact ⟨rfl, by simp [bytesOf]⟩) h
    rw [Nat.zero_add] at this
    exact ⟨c.2, c.1, this⟩
  · rw [if_neg c] at h
    cases h
theorem okText_key {s w : ByteArray} {t : Nat} (hs : lettersV s = true) (h : okText s t w) (h1 : 1 ≤ t) (h2 : t ≤ 8) : isKey w = true := by
  unfold lettersV at hs
  simp only [Bool.and_eq_true] at hs
  have hk := hs.2
  unfold isKey at hk ⊢
  simp only [Bool.and_eq_true, List.all_eq_true, decide_eq_true_eq] at hk ⊢
  obtain ⟨h3, h4⟩ := h
  exact ⟨fun b hb => hk.1 b (h4 b hb), by omega, by omega⟩
theorem numV_take_lt {s w : ByteArray} {t : Nat} (h : okText s t w) (hs : 1 ≤ s.size) : ∀ k, k ≤ t → numV s ((bytesOf w).take k) < s.size ^ k := by
  intro k
  induction k with
  | zero => intro _; simp [numV]
  | succ k ih =>
    intro hk
    have hl : k < (bytesOf w).length := by rw [bytesOf_length, h.1]; omega
    rw [List.take_succ_eq_append_getElem hl, numV_snoc, Nat.pow_succ]
    have h1 := ih (by omega)
    have h2 := digitV_lt (h.2 _ (List.getElem_mem hl))
    have h3 : (numV s ((bytesOf w).take k) + 1) * s.size ≤ s.size ^ k * s.size := Nat.mul_le_mul_right _ h1
    rw [Nat.add_mul, Nat.one_mul] at h3
    omega
theorem letters_l3 (s : ByteArray) (n i : Int) (w : ByteArray) (x : Int) (j : Nat) (xs : List ByteArray) (len at_ : Int) (hs : s.size ≤ 1000) (hj : j < w.size) (hw : w.size ≤ 1000) (hb : bt w (j : Int) ∈ bytesOf s) (r : Bool)
    (hnext : Ev (fun k => laws_FnTextsOverLetters.l2 k s n i w (wrap64 ((wrap64 (x * (s.size : Int))) + ((digitV s (bt w (j : Int)) : Nat) : Int))) (wrap64 ((j : Int) + 1)) xs len at_) r) (d : Nat) : ∀ p : Nat, p + d = digitV s (bt w (j : Int)) → Ev (fun k => laws_FnTextsOverLetters.l3 k s n i w x (j : Int) (p : Int) xs len at_) r := by
  have hlt := digitV_lt hb
  induction d with
  | zero =>
    intro p hp
    obtain rfl : p = digitV s (bt w (j : Int)) := by omega
    refine Ev.succ ?_
    have h1 : ((digitV s (bt w (j : Int)) : Nat) : Int) < (s.size : Int) := by omega
    have h2 : (0 : Int) ≤ ((digitV s (bt w (j : Int)) : Nat) : Int) := by omega
    have h3 : (0 : Int) ≤ (j : Int) := by omega
    have h4 : (j : Int) < (w.size : Int) := by omega
    have h5 : bt s ((digitV s (bt w (j : Int)) : Nat) : Int) = bt w (j : Int) := by
      rw [bt_nat s _ hlt]
      have := List.findIdx_getElem (xs := bytesOf s) (p := fun x => x == bt w (j : Int)) (w := by rw [bytesOf_length]; exact hlt)
      simpa [digitV] using this
    simp only [laws_FnTextsOverLetters.l3, h1, h2, h3, h4, h5, ↓reduceIte]
    exact hnext
  | succ d ih =>
    intro p hp
    refine Ev.succ ?_
    have h1 : (p : Int) < (s.size : Int) := by omega
    have h2 : (0 : Int) ≤ (p : Int) := by omega
    have h3 : (0 : Int) ≤ (j : Int) := by omega
    have h4 : (j : Int) < (w.size : Int) := by omega
    have hw1 : wrap64 ((p : Int) + 1) = ((p + 1 : Nat) : Int) := by rw [w64 (by omega) (by omega)]; rfl
    have h5 : ¬ (bt s (p : Int) = bt w (j : Int)) := by
      rw [bt_nat s p (by omega)]
      have := List.not_of_lt_findIdx (xs := bytesOf s) (p := fun x => x == bt w (j : Int)) (i := p) (by show p < digitV s (bt w (j : Int)); omega)
      simpa using this
    simp only [laws_FnTextsOverLetters.l3, h1, h2, h3, h4, h5, ↓reduceIte, hw1]
    exact ih (p + 1) (by omega)
theorem letters_l2 (s : ByteArray) (n : Int) (t i : Nat) (w : ByteArray) (xs : List ByteArray) (len at_ : Int) (hs1 : 1 ≤ s.size) (hs : s.size ≤ 12) (ht : t ≤ 8) (hok : okText s t w) (hi : numV s (bytesOf w) = i) (hp : s.size ^ t ≤ 300) (r : Bool)
    (hnext : Ev (fun k => laws_FnTextsOverLetters.l1 k s n xs len (wrap64 (at_ + 1))) r) (d : Nat) : ∀ j : Nat, j + d = t → Ev (fun k => laws_FnTextsOverLetters.l2 k s n (i : Int) w ((numV s ((bytesOf w).take j) : Nat) : Int) (j : Int) xs len at_) r := by
  have hsz := hok.1
  induction d with
  | zero =>
    intro j hj
    refine Ev.succ ?_
    have h1 : ¬ ((j : Int) < (w.size : Int)) := by omega
    have h2 : numV s ((bytesOf w).take j) = i := by rw [List.take_of_length_le (by rw [bytesOf_length]; omega), hi]
    simp only [laws_FnTextsOverLetters.l2, h1, h2, ↓reduceIte]
    exact hnext
  | succ d ih =>
    intro j hj
    refine Ev.succ ?_
    have h1 : (j : Int) < (w.size : Int) := by omega
    have hl : j < (bytesOf w).length := by rw [bytesOf_length]; omega
    have hb : bt w (j : Int) ∈ bytesOf s := by rw [bt_nat w j (by omega)]; exact hok.2 _ (List.getElem_mem hl)
    have hlt := numV_take_lt hok hs1 (j + 1) (by omega)
    have hlt0 := numV_take_lt hok hs1 j (by omega)
    have hpow : ∀ k, k ≤ t → s.size ^ k ≤ 300 := fun k hk => Nat.le_trans (Nat.pow_le_pow_right hs1 hk) hp
    have hp1 := hpow (j + 1) (by omega)
    have hp0 := hpow j (by omega)
    have e : numV s ((bytesOf w).take (j + 1)) = numV s ((bytesOf w).take j) * s.size + digitV s (bt w (j : Int)) := by
      rw [List.take_succ_eq_append_getElem hl, numV_snoc, ← bt_nat w j (by omega)]
    simp only [laws_FnTextsOverLetters.l2, h1, ↓reduceIte]
    refine letters_l3 s n i w _ j xs len at_ (by omega) (by omega) (by omega) hb r ?_ (digitV s (bt w (j : Int))) 0 (by omega)
    have hm : ((numV s ((bytesOf w).take j) : Nat) : Int) * (s.size : Int) = ((numV s ((bytesOf w).take j) * s.size : Nat) : Int) := by simp
    have hw1 : wrap64 ((wrap64 (((numV s ((bytesOf w).take j) : Nat) : Int) * (s.size : Int))) + ((digitV s (bt w (j : Int)) : Nat) : Int)) = ((numV s ((bytesOf w).take (j + 1)) : Nat) : Int) := by
      rw [hm, w64 (n := ((numV s ((bytesOf w).take j) * s.size : Nat) : Int)) (by omega) (by omega), w64 (by omega) (by omega), e]
      omega
    have hw2 : wrap64 ((j : Int) + 1) = ((j + 1 : Nat) : Int) := by rw [w64 (by omega) (by omega)]; rfl
    rw [hw1, hw2]
    exact ih (j + 1) (by omega)
theorem letters_l1 (s : ByteArray) (n : Int) (xs : List ByteArray) (hn : 1 ≤ n ∧ n ≤ 8) (hs : lettersV s = true) (hx : (xs.map fun w => numV s (bytesOf w)) = List.range (s.size ^ n.toNat)) (hok : ∀ w ∈ xs, okText s n.toNat w) (hl : xs.length ≤ 300) (d : Nat) : ∀ i : Nat, i + d = xs.length → Ev (fun k => laws_FnTextsOverLetters.l1 k s n xs (xs.length : Int) (i : Int)) true := by
  have hs12 := lettersV_size hs
  have hs1 : 1 ≤ s.size := by
    unfold lettersV at hs
    simp only [Bool.and_eq_true] at hs
    exact (isKey_size hs.2).1
  have hlen : xs.length = s.size ^ n.toNat := by
    have := congrArg List.length hx
    simpa using this
  induction d with
  | zero =>
    intro i hi
    refine Ev.succ ?_
    have h1 : ¬ ((i : Int) < (xs.length : Int)) := by omega
    simp only [laws_FnTextsOverLetters.l1, h1, ↓reduceIte]
    exact Ev.now _
  | succ d ih =>
    intro i hi
    refine Ev.succ ?_
    have h0 : i < xs.length := by omega
    have h1 : (i : Int) < (xs.length : Int) := by omega
    have h2 : (0 : Int) ≤ (i : Int) := by omega
    have hw := hok _ (List.getElem_mem h0)
    have h3 : ((xs[i]).size : Int) = n := by rw [hw.1]; omega
    have hnum : numV s (bytesOf xs[i]) = i := by
      have h4 : (xs.map fun w => numV s (bytesOf w))[i]? = (List.range (s.size ^ n.toNat))[i]? := by rw [hx]
      rw [List.getElem?_map, List.getElem?_eq_getElem h0, List.getElem?_range (by omega)] at h4
      simpa using h4
    simp only [laws_FnTextsOverLetters.l1, h1, h2, ↓reduceIte, rdOf_nat ByteArray.empty xs i h0, h3]
    refine Ev.bind (impl_IsKey_ev _ (by omega)) ?_
    rw [okText_key hs hw (by omega) (by omega)]
    refine Ev.succ ?_
    simp only [laws_FnTextsOverLetters.j3, Bool.not_true, Bool.false_eq_true, ↓reduceIte]
    have hw1 : wrap64 ((i : Int) + 1) = ((i + 1 : Nat) : Int) := by rw [w64 (by omega) (by omega)]; rfl
    exact letters_l2 s n n.toNat i xs[i] xs _ _ hs1 hs12 (by omega) hw hnum (by omega) true (by rw [hw1]; exact ih (i + 1) (by omega)) n.toNat 0 (by omega)
theorem letters_l0 (s : ByteArray) (n : Int) (xs : List ByteArray) (hn : 1 ≤ n ∧ n ≤ 8) (hs : lettersV s = true) (hx : (xs.map fun w => numV s (bytesOf w)) = List.range (s.size ^ n.toNat)) (hok : ∀ w ∈ xs, okText s n.toNat w) (hl : xs.length ≤ 300) (d : Nat) : ∀ t : Nat, t + d = n.toNat → Ev (fun k => laws_FnTextsOverLetters.l0 k s n xs ((s.size ^ t : Nat) : Int) (t : Int)) true := by
  have hs12 := lettersV_size hs
  have hs1 : 1 ≤ s.size := by
    unfold lettersV at hs
    simp only [Bool.and_eq_true] at hs
    exact (isKey_size hs.2).1
  have hlen : xs.length = s.size ^ n.toNat := by
    have := congrArg List.length hx
    simpa using this
  induction d with
  | zero =>
    intro t ht
    refine Ev.succ ?_
    have h1 : ¬ ((t : Int) < n) := by omega
    have h2 : (xs.length : Int) = ((s.size ^ t : Nat) : Int) := by rw [hlen, show t = n.toNat from by omega]
    simp only [laws_FnTextsOverLetters.l0, h1, ← h2, ↓reduceIte]
    exact letters_l1 s n xs hn hs hx hok hl xs.length 0 (by omega)
  | succ d ih =>
    intro t ht
    refine Ev.succ ?_
    have h1 : (t : Int) < n := by omega
    have hp : s.size ^ (t + 1) ≤ 300 := Nat.le_trans (Nat.pow_le_pow_right hs1 (show t + 1 ≤ n.toNat by omega)) (by omega)
    have hm : ((s.size ^ t : Nat) : Int) * (s.size : Int) = ((s.size ^ (t + 1) : Nat) : Int) := by rw [Nat.pow_succ]; simp
    have hw : wrap64 (((s.size ^ t : Nat) : Int) * (s.size : Int)) = ((s.size ^ (t + 1) : Nat) : Int) := by rw [hm, w64 (by omega) (by omega)]
    have hw2 : wrap64 ((t : Int) + 1) = ((t + 1 : Nat) : Int) := by rw [w64 (by omega) (by omega)]; rfl
    simp only [laws_FnTextsOverLetters.l0, h1, ↓reduceIte, hw, hw2]
    exact ih (t + 1) (by omega)
theorem pSameTexts_self (l : List ByteArray) (hl : l.length ≤ 1000) : Ev (fun k => laws_pSameTexts.f k l l) true := by
  simp only [laws_pSameTexts.f, ↓reduceIte]
  refine Ev.up (L := fun k i => laws_pSameTexts.l0 k l l (l.length : Int) (i : Int)) (r := fun _ => true) l.length ?_ ?_ 0 (Nat.zero_le _)
  · refine Ev.succ ?_
    have h1 : ¬ ((l.length : Int) < (l.length : Int)) := by omega
    simp only [laws_pSameTexts.l0, h1, ↓reduceIte]
    exact Ev.now _
  · intro i hi ih
    refine Ev.succ ?_
    have h1 : (i : Int) < (l.length : Int) := by omega
    have h2 : (0 : Int) ≤ (i : Int) := by omega
    have hw : wrap64 ((i : Int) + 1) = ((i + 1 : Nat) : Int) := by rw [w64 (by omega) (by omega)]; rfl
    simp only [laws_pSameTexts.l0, h1, h2, ↓reduceIte, hw]
    exact ih
theorem DrawTextsOver_eq {l : List Int} (h : small l) : ∃ s n, spec_DrawTextsOver.f l = some (s, n) ∧ s.size ≤ 1000 := by
  obtain ⟨r1, a1, s1, e1, hs, h1, h1'⟩ := letters_draw h 0 0 (by decide) (by decide)
  obtain ⟨r2, a2, s2, e2, _, h2, h2'⟩ := among_draw h spec_DrawTextsOver.lens (by decide) (by decide) a1 s1 (by omega) (by omega)
  refine ⟨r1, r2, ?_, hs⟩
  unfold spec_DrawTextsOver.f
  simp only [e1, e2, Option.bind_some]
theorem FnTextsOverLetters : laws_FnTextsOverLetters.Pure := by
  intro l m hl0 _ hl hm0 _ hm
  refine Ev.rounds ?_
  have h0 : l.length ≤ 9223372036854775807 := by unfold maxLen at hl0; exact hl0
  have h1 : m.length ≤ 9223372036854775807 := by unfold maxLen at hm0; exact hm0
  unfold laws_FnTextsOverLetters.f laws_big.f
  by_cases c : (l.length : Int) > 1048576
  · simp only [c, ↓reduceIte, Option.bind_some]
    exact Ev.now _
  have hw : wrap64 (1048576 - (l.length : Int)) = 1048576 - (l.length : Int) := w64 (by omega) (by omega)
  simp only [c, ↓reduceIte, Option.bind_some, hw]
  by_cases c1 : (m.length : Int) > 1048576 - (l.length : Int)
  · simp only [c1, decide_true, ↓reduceIte]
    exact Ev.now _
  simp only [c1, decide_false, Bool.false_eq_true, ↓reduceIte]
  obtain ⟨s, n, e, hs⟩ := DrawTextsOver_eq (small_of (l := l) (by omega) hl)
  have hlen := textsV_length s n
  simp only [e, Option.bind_some]
  refine Ev.bind (impl_TextsOver_ev s n (by omega)) ?_
  refine Ev.bind (spec_TextsOver_ev s n (by omega)) ?_
  simp only [bne_self_eq_false, Bool.false_eq_true, ↓reduceIte]
  refine Ev.bind (pSameTexts_self _ (by omega)) ?_
  refine Ev.succ ?_
  simp only [laws_FnTextsOverLetters.j0, Bool.not_true, Bool.false_eq_true, ↓reduceIte]
  cases h : (textsV s n).2 with
  | false => simp only [Bool.false_eq_true, ↓reduceIte]; exact Ev.now _
  | true =>
    obtain ⟨q1, q2, q3, q4⟩ := textsV_nums h
    simp only [↓reduceIte]
    exact letters_l0 s n _ q1 q2 q3 q4 hlen n.toNat 0 (by omega)

end Go.Proofs.Ytdjpegkogfeofaa.Pure
