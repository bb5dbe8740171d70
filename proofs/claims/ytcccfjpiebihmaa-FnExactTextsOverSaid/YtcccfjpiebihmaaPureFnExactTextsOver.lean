/- The program's TextsOver returns what the reference's returns, for all arguments. -/
import Derived.Test.YtcccfjpiebihmaaPFnExactTextsOverx4
import Derived.Test.YtcccfjpiebihmaaBase
namespace Go.Proofs.Ytcccfjpiebihmaa.Pure
open Go.RowKit Go.Proofs.Ytcccfjpiebihmaa.PFnExactTextsOver Go.Proofs.YtcccfjpiebihmaaW.PrintWords Go.Proofs.YtcccfjpiebihmaaW.PrintLast Go.Proofs.Ytcccfjpiebihmaa.Base
set_option linter.unusedVariables false
set_option linter.unusedSimpArgs false

theorem spec_l1In_eq (a b c : Int) : spec_l1In.f a b c = some (decide (b ≤ a ∧ a ≤ c)) := by
  unfold spec_l1In.f
  by_cases h : b ≤ a <;> simp [h]
theorem spec_IsKey_ev (s : ByteArray) (hs : s.size ≤ 9223372036854775807) : Ev (fun k => spec_IsKey.f k s) (isKey s) := by
  have h := Ev.up (L := fun k i => spec_IsKey.l0 k s (i : Int)) (r := fun i => ((bytesOf s).drop i).all okByte && decide (1 ≤ (s.size : Int) ∧ (s.size : Int) ≤ 12)) s.size ?_ ?_ 0 (Nat.zero_le _)
  · exact h
  · refine Ev.succ ?_
    have h1 : ¬ ((s.size : Int) < (s.size : Int)) := by omega
    simp only [spec_IsKey.l0, h1, ↓reduceIte, spec_l1In_eq, Option.bind_some]
    exact Ev.some_ (by rw [List.drop_of_length_le (by rw [bytesOf_length]; exact Nat.le_refl _)]; simp)
  · intro i hi ih
    refine Ev.succ ?_
    have h1 : (i : Int) < (s.size : Int) := by omega
    have h2 : (0 : Int) ≤ (i : Int) := by omega
    have hw : wrap64 ((i : Int) + 1) = ((i + 1 : Nat) : Int) := by rw [w64 (by omega) (by omega)]; rfl
    have hb := bt_nat s i hi
    simp only [spec_IsKey.l0, h1, h2, ↓reduceIte, hw]
    rw [drop_cons _ _ (by rw [bytesOf_length]; exact hi), List.all_cons, ← hb]
    by_cases c1 : bt s i < 33
    · simp only [c1, ↓reduceIte]
      exact Ev.some_ (by simp [okByte]; omega)
    · by_cases c2 : bt s i > 125
      · simp only [c1, c2, ↓reduceIte]
        exact Ev.some_ (by simp [okByte]; omega)
      · simp only [c1, c2, ↓reduceIte]
        have c3 : okByte (bt s i) = true := by simp [okByte]; omega
        rw [c3, Bool.true_and]
        exact ih
theorem impl_in_eq (a b c : Int) : impl_in.f a b c = some (decide (b ≤ a ∧ a ≤ c)) := by
  unfold impl_in.f
  by_cases h : b ≤ a <;> simp [h]
theorem impl_IsKey_ev (s : ByteArray) (hs : s.size ≤ 9223372036854775807) : Ev (fun k => impl_IsKey.f k s) (isKey s) := by
  have h := Ev.up (L := fun k i => impl_IsKey.l0 k s (s.size : Int) (i : Int)) (r := fun i => ((bytesOf s).drop i).all okByte && decide (1 ≤ (s.size : Int) ∧ (s.size : Int) ≤ 12)) s.size ?_ ?_ 0 (Nat.zero_le _)
  · exact h
  · refine Ev.succ ?_
    have h1 : ¬ ((s.size : Int) < (s.size : Int)) := by omega
    simp only [impl_IsKey.l0, h1, ↓reduceIte, impl_in_eq, Option.bind_some]
    exact Ev.some_ (by rw [List.drop_of_length_le (by rw [bytesOf_length]; exact Nat.le_refl _)]; simp)
  · intro i hi ih
    refine Ev.succ ?_
    have h1 : (i : Int) < (s.size : Int) := by omega
    have h2 : (0 : Int) ≤ (i : Int) := by omega
    have hw : wrap64 ((i : Int) + 1) = ((i + 1 : Nat) : Int) := by rw [w64 (by omega) (by omega)]; rfl
    have hb := bt_nat s i hi
    simp only [impl_IsKey.l0, h1, h2, ↓reduceIte, hw]
    rw [drop_cons _ _ (by rw [bytesOf_length]; exact hi), List.all_cons, ← hb]
    by_cases c1 : bt s i < 33
    · simp only [c1, ↓reduceIte]
      exact Ev.some_ (by simp [okByte]; omega)
    · by_cases c2 : bt s i > 125
      · simp only [c1, c2, ↓reduceIte]
        exact Ev.some_ (by simp [okByte]; omega)
      · simp only [c1, c2, ↓reduceIte]
        have c3 : okByte (bt s i) = true := by simp [okByte]; omega
        rw [c3, Bool.true_and]
        exact ih
def lettersV (s : ByteArray) : Bool := decide (bytesOf s).Nodup && isKey s
theorem bt_mem_take {s : ByteArray} {i j : Nat} (hj : j < s.size) : (bytesOf s).take (j + 1) = (bytesOf s).take j ++ [bt s (j : Int)] := by
  rw [List.take_succ_eq_append_getElem (by rw [bytesOf_length]; exact hj), bt_nat s j hj]
theorem spec_fiLetters_l1 (s : ByteArray) (hs : s.size ≤ 1048576) (i : Nat) (hi : i < s.size) (r : Bool) (hin : bt s (i : Int) ∈ (bytesOf s).take i → r = false) (hout : bt s (i : Int) ∉ (bytesOf s).take i → Ev (fun k => spec_fiLetters.l0 k s ((i + 1 : Nat) : Int)) r) (d : Nat) : ∀ j : Nat, j + d = i → bt s (i : Int) ∉ (bytesOf s).take j → Ev (fun k => spec_fiLetters.l1 k s (i : Int) (j : Int)) r := by
  induction d with
  | zero =>
    intro j hj hn
    obtain rfl : j = i := by omega
    refine Ev.succ ?_
    have h1 : ¬ ((j : Int) < (j : Int)) := by omega
    have hw : wrap64 ((j : Int) + 1) = ((j + 1 : Nat) : Int) := by rw [w64 (by omega) (by omega)]; rfl
    simp only [spec_fiLetters.l1, h1, ↓reduceIte, hw]
    exact hout hn
  | succ d ih =>
    intro j hj hn
    refine Ev.succ ?_
    have h1 : (j : Int) < (i : Int) := by omega
    have h2 : (0 : Int) ≤ (i : Int) := by omega
    have h3 : (i : Int) < (s.size : Int) := by omega
    have h4 : (0 : Int) ≤ (j : Int) := by omega
    have h5 : (j : Int) < (s.size : Int) := by omega
    have hw : wrap64 ((j : Int) + 1) = ((j + 1 : Nat) : Int) := by rw [w64 (by omega) (by omega)]; rfl
    have ht := bt_mem_take (s := s) (i := i) (j := j) (by omega)
    simp only [spec_fiLetters.l1, h1, h2, h3, h4, h5, ↓reduceIte, hw]
    by_cases c : bt s (i : Int) = bt s (j : Int)
    · simp only [c, ↓reduceIte]
      refine Ev.some_ (hin ?_).symm
      have hsub : (bytesOf s).take (j + 1) ⊆ (bytesOf s).take i := (List.take_prefix_take_left (by omega)).subset
      apply hsub
      rw [ht, c]
      simp
    · simp only [c, ↓reduceIte]
      exact ih (j + 1) (by omega) (by rw [ht]; simp [hn, c])
theorem spec_fiLetters_l0 (s : ByteArray) (hs : s.size ≤ 1048576) (d : Nat) : ∀ i : Nat, i + d = s.size → ((bytesOf s).take i).Nodup → Ev (fun k => spec_fiLetters.l0 k s (i : Int)) (lettersV s) := by
  induction d with
  | zero =>
    intro i hi hn
    refine Ev.succ ?_
    have h1 : ¬ ((i : Int) < (s.size : Int)) := by omega
    simp only [spec_fiLetters.l0, h1, ↓reduceIte]
    rw [List.take_of_length_le (by rw [bytesOf_length]; omega)] at hn
    refine Ev.bind (spec_IsKey_ev s (by omega)) ?_
    exact Ev.some_ (by simp [lettersV, hn])
  | succ d ih =>
    intro i hi hn
    refine Ev.succ ?_
    have h1 : (i : Int) < (s.size : Int) := by omega
    have ht := bt_mem_take (s := s) (i := i) (j := i) (by omega)
    simp only [spec_fiLetters.l0, h1, ↓reduceIte]
    refine spec_fiLetters_l1 s hs i (by omega) _ (fun hin => ?_) (fun hout => ?_) i 0 (by omega) (by simp)
    · have hno : ¬ (bytesOf s).Nodup := by
        intro hN
        have h2 := hN.sublist (List.take_sublist (i + 1) _)
        rw [ht, List.nodup_append] at h2
        exact h2.2.2 _ hin _ (by simp) rfl
      simp [lettersV, hno]
    · refine ih (i + 1) (by omega) ?_
      rw [ht, List.nodup_append]
      refine ⟨hn, by simp, ?_⟩
      intro a ha b hb e
      simp at hb
      subst hb
      exact hout (e ▸ ha)
theorem spec_fiLetters_ev (s : ByteArray) (hs : s.size ≤ 1048576) : Ev (fun k => spec_fiLetters.f k s) (lettersV s) := spec_fiLetters_l0 s hs s.size 0 (by omega) (by simp)
theorem impl_areLetters_ev (s : ByteArray) (hs : s.size ≤ 1048576) : Ev (fun k => impl_areLetters.f k s) (lettersV s) := by
  have h1 : s.size < 4611686018427387904 := by omega
  unfold impl_areLetters.f lettersV
  simp only [h1, ↓reduceIte]
  by_cases c : (bytesOf s).Nodup
  · simp only [c, ↓reduceIte, decide_true, Bool.true_and]
    exact impl_IsKey_ev s (by omega)
  · simp only [c, ↓reduceIte, decide_false, Bool.false_and]
    exact Ev.now _
theorem strOfNums_one (x : Int) : (strOfNums [x]).size = 1 := by
  simp [strOfNums, ByteArray.size]
theorem laws_markText_l0 (f : Nat) : ∀ (n : Int) (acc : ByteArray), 0 ≤ n → n < 2 ^ f → n ≤ 4611686018427387904 → acc.size + f ≤ 1000 → ∃ r, Ev (fun k => laws_markText.l0 k n acc) r := by
  induction f with
  | zero =>
    intro n acc h0 h1 hn hs
    refine ⟨(⟨#[109]⟩ : ByteArray) ++ acc, Ev.succ ?_⟩
    have c1 : ¬ (n > 0) := by simp at h1; omega
    have c2 : 1 + acc.size ≤ 9223372036854775807 := by omega
    simp only [laws_markText.l0, c1, c2, ↓reduceIte]
    exact Ev.now _
  | succ f ih =>
    intro n acc h0 h1 hn hs
    by_cases c1 : n > 0
    · have e2 : (2 : Int) ^ (f + 1) = 2 * 2 ^ f := by rw [Int.pow_succ, Int.mul_comm]
      have e : wrap64 (Int.tdiv n 10) = n / 10 := by rw [tdiv_pos h0, w64 (by omega) (by omega)]
      have e3 := strOfNums_one ((wrap64 (48 + (Int.tmod n 10))) % 256)
      obtain ⟨r, hr⟩ := ih (n / 10) (strOfNums [(wrap64 (48 + (Int.tmod n 10))) % 256] ++ acc) (by omega) (by omega) (by omega) (by rw [ByteArray.size_append, e3]; omega)
      refine ⟨r, Ev.succ ?_⟩
      have c3 : (strOfNums [(wrap64 (48 + (Int.tmod n 10))) % 256]).size + acc.size ≤ 9223372036854775807 := by rw [e3]; omega
      simp only [laws_markText.l0, c1, ↓reduceIte, Option.bind_some, c3, e]
      exact hr
    · refine ⟨(⟨#[109]⟩ : ByteArray) ++ acc, Ev.succ ?_⟩
      have c2 : 1 + acc.size ≤ 9223372036854775807 := by omega
      simp only [laws_markText.l0, c1, c2, ↓reduceIte]
      exact Ev.now _
theorem laws_markText_some (n : Int) (h0 : 0 ≤ n) (hn : n ≤ 4611686018427387904) : ∃ r, Ev (fun k => laws_markText.f k n) r := by
  unfold laws_markText.f
  by_cases c : n ≤ 0
  · simp only [c, ↓reduceIte]
    exact ⟨_, Ev.now _⟩
  · simp only [c, ↓reduceIte]
    exact laws_markText_l0 63 n ⟨#[]⟩ h0 (by omega) hn (by decide)
theorem laws_markText_fn : ∃ f : Int → ByteArray, ∀ n : Int, 0 ≤ n → n ≤ 4611686018427387904 → Ev (fun k => laws_markText.f k n) (f n) :=
  ⟨fun n => if h : 0 ≤ n ∧ n ≤ 4611686018427387904 then Classical.choose (laws_markText_some n h.1 h.2) else ⟨#[]⟩, fun n h0 hn => by
    have e : (if h : 0 ≤ n ∧ n ≤ 4611686018427387904 then Classical.choose (laws_markText_some n h.1 h.2) else (⟨#[]⟩ : ByteArray)) = Classical.choose (laws_markText_some n h0 hn) := dif_pos ⟨h0, hn⟩
    show Ev _ (if h : 0 ≤ n ∧ n ≤ 4611686018427387904 then Classical.choose (laws_markText_some n h.1 h.2) else (⟨#[]⟩ : ByteArray))
    rw [e]
    exact Classical.choose_spec (laws_markText_some n h0 hn)⟩
theorem laws_markStringS_l0 (f : Int → ByteArray) (hf : ∀ n : Int, 0 ≤ n → n ≤ 4611686018427387904 → Ev (fun k => laws_markText.f k n) (f n)) (m : Int) (n : Nat) (h0 : 0 ≤ m) (hm : m + n ≤ 4611686018427387904) (d : Nat) : ∀ (i : Nat) (l : List ByteArray), l.length = n → l.take i = marksOf f m i → i + d = n → Ev (fun k => laws_markStringS.l0 k l (m + i) (i : Int)) (m + n, marksOf f m n) := by
  induction d with
  | zero =>
    intro i l hl ht hi
    obtain rfl : i = n := by omega
    refine Ev.succ ?_
    have h1 : ¬ ((i : Int) < (l.length : Int)) := by omega
    simp only [laws_markStringS.l0, h1, ↓reduceIte]
    rw [List.take_of_length_le (by omega)] at ht
    exact Ev.some_ (by rw [ht])
  | succ d ih =>
    intro i l hl ht hi
    refine Ev.succ ?_
    have h1 : (i : Int) < (l.length : Int) := by omega
    have h2 : (0 : Int) ≤ (i : Int) := by omega
    have hw : wrap64 ((i : Int) + 1) = ((i + 1 : Nat) : Int) := by rw [w64 (by omega) (by omega)]; rfl
    have hw2 : wrap64 (m + (i : Int) + 1) = m + ((i + 1 : Nat) : Int) := by rw [w64 (by omega) (by omega)]; omega
    simp only [laws_markStringS.l0, h1, h2, ↓reduceIte, hw, hw2, Int.toNat_natCast]
    refine Ev.bind (hf (m + i) (by omega) (by omega)) ?_
    exact ih (i + 1) (l.set i (f (m + i))) (by simp [hl]) (by rw [take_set_succ _ _ _ (by omega), ht, marksOf_succ]) (by omega)
theorem laws_markStringS_ev (f : Int → ByteArray) (hf : ∀ n : Int, 0 ≤ n → n ≤ 4611686018427387904 → Ev (fun k => laws_markText.f k n) (f n)) (l : List ByteArray) (m : Int) (h0 : 0 ≤ m) (hm : m + l.length ≤ 4611686018427387904) : Ev (fun k => laws_markStringS.f k l m) (m + l.length, marksOf f m l.length) := by
  have h := laws_markStringS_l0 f hf m l.length h0 hm l.length 0 l rfl (by simp [marksOf]) (by omega)
  simpa [laws_markStringS.f] using h
theorem laws_heldStringS_ev (f : Int → ByteArray) (hf : ∀ n : Int, 0 ≤ n → n ≤ 4611686018427387904 → Ev (fun k => laws_markText.f k n) (f n)) (m : Int) (n : Nat) (h0 : 0 ≤ m) (hm : m + n ≤ 4611686018427387904) : Ev (fun k => laws_heldStringS.f k (marksOf f m n) m) (m + n) := by
  have h := Ev.up (L := fun k i => laws_heldStringS.l0 k (marksOf f m n) (m + (i : Int)) (i : Int)) (r := fun _ => m + n) n ?_ ?_ 0 (Nat.zero_le _)
  · simpa [laws_heldStringS.f] using h
  · refine Ev.succ ?_
    have h1 : ¬ ((n : Int) < ((marksOf f m n).length : Int)) := by rw [marksOf_length]; omega
    simp only [laws_heldStringS.l0, h1, ↓reduceIte]
    exact Ev.now _
  · intro i hi ih
    refine Ev.succ ?_
    have h1 : (i : Int) < ((marksOf f m n).length : Int) := by rw [marksOf_length]; omega
    have h2 : (0 : Int) ≤ (i : Int) := by omega
    have h3 : rdOf ByteArray.empty (marksOf f m n) (i : Int) = f (m + i) := by rw [rdOf_nat _ _ _ (by rw [marksOf_length]; exact hi)]; simp [marksOf]
    have hw : wrap64 ((i : Int) + 1) = ((i + 1 : Nat) : Int) := by rw [w64 (by omega) (by omega)]; rfl
    have hw2 : wrap64 (m + (i : Int) + 1) = m + ((i + 1 : Nat) : Int) := by rw [w64 (by omega) (by omega)]; omega
    simp only [laws_heldStringS.l0, h1, h2, h3, ↓reduceIte, hw, hw2]
    refine Ev.bind (hf (m + i) (by omega) (by omega)) ?_
    simp only [↓reduceIte]
    exact ih
theorem laws_eqStringS_self (l : List ByteArray) (hl : l.length ≤ 9223372036854775807) : Ev (fun k => laws_eqStringS.f k l l) true := by
  unfold laws_eqStringS.f
  simp only [↓reduceIte]
  refine Ev.up (L := fun k i => laws_eqStringS.l0 k l l (i : Int)) (r := fun _ => true) l.length ?_ ?_ 0 (Nat.zero_le _)
  · refine Ev.succ ?_
    have h1 : ¬ ((l.length : Int) < (l.length : Int)) := by omega
    simp only [laws_eqStringS.l0, h1, ↓reduceIte]
    exact Ev.now _
  · intro i hi ih
    refine Ev.succ ?_
    have h1 : (i : Int) < (l.length : Int) := by omega
    have h2 : (0 : Int) ≤ (i : Int) := by omega
    have hw : wrap64 ((i : Int) + 1) = ((i + 1 : Nat) : Int) := by rw [w64 (by omega) (by omega)]; rfl
    simp only [laws_eqStringS.l0, h1, h2, ↓reduceIte, hw]
    exact ih
def letterV (s : ByteArray) (w : ByteArray) (i : Nat) : ByteArray := w ++ s.extract i (i + 1)
def putAll (s : ByteArray) (w : ByteArray) (i : Nat) : List ByteArray := (List.range' i (s.size - i)).map (letterV s w)
theorem putAll_end (s w : ByteArray) : putAll s w s.size = [] := by simp [putAll]
theorem putAll_step (s w : ByteArray) (i : Nat) (h : i < s.size) : putAll s w i = letterV s w i :: putAll s w (i + 1) := by
  unfold putAll
  rw [show s.size - i = (s.size - (i + 1)) + 1 from by omega, List.range'_succ, List.map_cons]
theorem putAll_length (s w : ByteArray) (i : Nat) : (putAll s w i).length = s.size - i := by simp [putAll]
theorem letterV_size {s w : ByteArray} {i : Nat} (h : i < s.size) : (letterV s w i).size = w.size + 1 := by
  unfold letterV
  rw [ByteArray.size_append, ByteArray.size_extract]
  omega
def stepV (s : ByteArray) (ws : List ByteArray) : List ByteArray := ws.flatMap fun w => putAll s w 0
theorem stepV_length (s : ByteArray) (ws : List ByteArray) : (stepV s ws).length = ws.length * s.size := by
  induction ws with
  | nil => simp [stepV]
  | cons w r ih =>
    have e : stepV s (w :: r) = putAll s w 0 ++ stepV s r := by simp [stepV]
    rw [e, List.length_append, ih, putAll_length, List.length_cons, Nat.succ_mul]
    omega
theorem stepV_size {s : ByteArray} {ws : List ByteArray} {t : Nat} (h : ∀ w ∈ ws, w.size ≤ t) : ∀ w ∈ stepV s ws, w.size ≤ t + 1 := by
  intro w hw
  unfold stepV at hw
  obtain ⟨x, hx, hw⟩ := List.mem_flatMap.1 hw
  unfold putAll at hw
  obtain ⟨i, hi, rfl⟩ := List.mem_map.1 hw
  simp only [List.mem_range'] at hi
  obtain ⟨j, hj, rfl⟩ := hi
  rw [letterV_size (by omega)]
  have := h x hx
  omega
def textsFrom (s : ByteArray) : Nat → List ByteArray → List ByteArray × Bool
  | 0, ws => (ws, true)
  | n + 1, ws => if ((stepV s ws).length : Int) > 300 then ([], false) else textsFrom s n (stepV s ws)
theorem textsFrom_length (s : ByteArray) : ∀ (n : Nat) (ws : List ByteArray), ws.length ≤ 300 → (textsFrom s n ws).1.length ≤ 300 := by
  intro n
  induction n with
  | zero => intro ws h; exact h
  | succ n ih =>
    intro ws h
    unfold textsFrom
    by_cases c : ((stepV s ws).length : Int) > 300
    · rw [if_pos c]; exact Nat.zero_le _
    · rw [if_neg c]; exact ih _ (by omega)
def textsV (s : ByteArray) (n : Int) : List ByteArray × Bool := if lettersV s = true ∧ 1 ≤ n ∧ n ≤ 8 then textsFrom s n.toNat [⟨#[]⟩] else ([], false)
theorem textsV_length (s : ByteArray) (n : Int) : (textsV s n).1.length ≤ 300 := by
  unfold textsV
  by_cases c : lettersV s = true ∧ 1 ≤ n ∧ n ≤ 8
  · rw [if_pos c]; exact textsFrom_length s _ _ (by simp)
  · rw [if_neg c]; exact Nat.zero_le _
theorem lettersV_size {s : ByteArray} (h : lettersV s = true) : s.size ≤ 12 := by
  unfold lettersV at h
  simp only [Bool.and_eq_true] at h
  exact (isKey_size h.2).2
theorem spec_fiTexts_l2 (s : ByteArray) (hs : s.size ≤ 12) (n : Int) (w : ByteArray) (hw : w.size ≤ 100) (xs : List ByteArray) (a b : Int) (r : List ByteArray × Bool) (d : Nat) : ∀ (i : Nat) (acc : List ByteArray), i + d = s.size → acc.length + d ≤ 1000000 → Ev (fun k => spec_fiTexts.l1 k s n (acc ++ putAll s w i) xs a (wrap64 (b + 1))) r → Ev (fun k => spec_fiTexts.l2 k s n acc w (i : Int) xs a b) r := by
  induction d with
  | zero =>
    intro i acc hi hacc h
    refine Ev.succ ?_
    have h1 : ¬ ((i : Int) < (s.size : Int)) := by omega
    simp only [spec_fiTexts.l2, h1, ↓reduceIte]
    obtain rfl : i = s.size := by omega
    rw [putAll_end, List.append_nil] at h
    exact h
  | succ d ih =>
    intro i acc hi hacc h
    refine Ev.succ ?_
    have h1 : (i : Int) < (s.size : Int) := by omega
    have h2 : (0 : Int) ≤ (i : Int) := by omega
    have hw1 : wrap64 ((i : Int) + 1) = ((i + 1 : Nat) : Int) := by rw [w64 (by omega) (by omega)]; rfl
    have h3 : (i : Int) ≤ ((i + 1 : Nat) : Int) := by omega
    have h4 : ((i + 1 : Nat) : Int) ≤ (s.size : Int) := by omega
    have h5 : w.size + (s.extract i (i + 1)).size ≤ 9223372036854775807 := by rw [ByteArray.size_extract]; omega
    have h6 : acc.length < 8796093022208 := by omega
    simp only [spec_fiTexts.l2, h1, h2, hw1, h3, h4, Int.toNat_natCast, h5, h6, ↓reduceIte]
    refine ih (i + 1) _ (by omega) (by simp; omega) ?_
    rw [putAll_step s w i (by omega)] at h
    rw [List.append_assoc]
    exact h
theorem spec_fiTexts_l1 (s : ByteArray) (hs : s.size ≤ 12) (n : Int) (xs : List ByteArray) (hx : ∀ w ∈ xs, w.size ≤ 100) (hl : xs.length ≤ 300) (r : List ByteArray × Bool) (d : Nat) : ∀ (i : Nat) (acc : List ByteArray), i + d = xs.length → acc.length = i * s.size → acc ++ stepV s (xs.drop i) = stepV s xs → (((stepV s xs).length : Int) > 300 → r = ([], false)) → (¬ ((stepV s xs).length : Int) > 300 → Ev (fun k => spec_fiTexts.l0 k s (wrap64 (n - 1)) (stepV s xs)) r) → Ev (fun k => spec_fiTexts.l1 k s n acc xs (xs.length : Int) (i : Int)) r := by
  induction d with
  | zero =>
    intro i acc hi hlen hacc hr1 hr2
    refine Ev.succ ?_
    have h1 : ¬ ((i : Int) < (xs.length : Int)) := by omega
    rw [List.drop_eq_nil_of_le (by omega), show stepV s [] = [] from rfl, List.append_nil] at hacc
    subst hacc
    simp only [spec_fiTexts.l1, h1, ↓reduceIte]
    by_cases c : ((stepV s xs).length : Int) > 300
    · simp only [c, ↓reduceIte]; exact Ev.some_ (hr1 c).symm
    · simp only [c, ↓reduceIte]; exact hr2 c
  | succ d ih =>
    intro i acc hi hlen hacc hr1 hr2
    refine Ev.succ ?_
    have h0 : i < xs.length := by omega
    have h1 : (i : Int) < (xs.length : Int) := by omega
    have h2 : (0 : Int) ≤ (i : Int) := by omega
    have hw1 : wrap64 ((i : Int) + 1) = ((i + 1 : Nat) : Int) := by rw [w64 (by omega) (by omega)]; rfl
    have hm : i * s.size ≤ 300 * 12 := Nat.mul_le_mul (by omega) hs
    simp only [spec_fiTexts.l1, h1, h2, ↓reduceIte, rdOf_nat ByteArray.empty xs i h0]
    refine spec_fiTexts_l2 s hs n _ (hx _ (List.getElem_mem h0)) xs _ _ r s.size 0 acc (by omega) (by omega) ?_
    rw [hw1]
    refine ih (i + 1) _ (by omega) ?_ ?_ hr1 hr2
    · rw [List.length_append, putAll_length, hlen, Nat.succ_mul]; omega
    · rw [← hacc, drop_cons xs i h0, List.append_assoc]
      rfl
theorem spec_fiTexts_l0 (s : ByteArray) (hs : s.size ≤ 12) : ∀ (n : Nat) (ws : List ByteArray), n ≤ 8 → ws.length ≤ 300 → (∀ w ∈ ws, w.size + n ≤ 100) → Ev (fun k => spec_fiTexts.l0 k s (n : Int) ws) (textsFrom s n ws) := by
  intro n
  induction n with
  | zero =>
    intro ws h8 hl hz
    refine Ev.succ ?_
    have h1 : ¬ (((0 : Nat) : Int) > 0) := by omega
    simp only [spec_fiTexts.l0, h1, ↓reduceIte]
    exact Ev.now _
  | succ n ih =>
    intro ws h8 hl hz
    refine Ev.succ ?_
    have h1 : ((n + 1 : Nat) : Int) > 0 := by omega
    simp only [spec_fiTexts.l0, h1, ↓reduceIte]
    refine spec_fiTexts_l1 s hs _ ws (fun w hw => by have := hz w hw; omega) hl _ ws.length 0 [] (by omega) (by simp) (by simp) ?_ ?_
    · intro c; unfold textsFrom; rw [if_pos c]
    · intro c
      have hw1 : wrap64 (((n + 1 : Nat) : Int) - 1) = (n : Int) := by rw [w64 (by omega) (by omega)]; omega
      unfold textsFrom
      rw [if_neg c, hw1]
      refine ih (stepV s ws) (by omega) (by omega) ?_
      have := stepV_size (s := s) (ws := ws) (t := 100 - (n + 1)) (fun w hw => by have := hz w hw; omega)
      intro w hw
      have := this w hw
      omega
theorem spec_TextsOver_ev (s : ByteArray) (n : Int) (hs : s.size ≤ 1048576) : Ev (fun k => spec_TextsOver.f k s n) (textsV s n) := by
  unfold spec_TextsOver.f textsV
  refine Ev.bind (spec_fiLetters_ev s hs) ?_
  cases h : lettersV s with
  | false => simp only [Bool.false_eq_true, ↓reduceIte, false_and]; exact Ev.now _
  | true =>
    simp only [↓reduceIte, true_and, spec_l1In_eq, Option.bind_some]
    by_cases c : 1 ≤ n ∧ n ≤ 8
    · simp only [c, and_self, decide_true, ↓reduceIte]
      have h8 := lettersV_size h
      have e := spec_fiTexts_l0 s h8 n.toNat [⟨#[]⟩] (by omega) (by simp) (by intro w hw; simp at hw; subst hw; simp [ByteArray.size]; omega)
      rw [show ((n.toNat : Nat) : Int) = n from by omega] at e
      exact Ev.bind (g := fun k => spec_fiTexts.f k s n) e (Ev.now _)
    · simp only [c, decide_false, Bool.false_eq_true, ↓reduceIte]
      exact Ev.now _
theorem impl_TextsOver_l2 (s : ByteArray) (hs : s.size ≤ 12) (w : ByteArray) (hw : w.size ≤ 100) (xs : List ByteArray) (p q a b : Int) (r : List ByteArray × Bool) (d : Nat) : ∀ (i : Nat) (acc : List ByteArray), i + d = s.size → acc.length + d ≤ 1000000 → Ev (fun k => impl_TextsOver.l1 k s (acc ++ putAll s w i) p q xs a (wrap64 (b + 1))) r → Ev (fun k => impl_TextsOver.l2 k s acc w p q xs a b (s.size : Int) (i : Int)) r := by
  induction d with
  | zero =>
    intro i acc hi hacc h
    refine Ev.succ ?_
    have h1 : ¬ ((i : Int) < (s.size : Int)) := by omega
    simp only [impl_TextsOver.l2, h1, ↓reduceIte]
    obtain rfl : i = s.size := by omega
    rw [putAll_end, List.append_nil] at h
    exact h
  | succ d ih =>
    intro i acc hi hacc h
    refine Ev.succ ?_
    have h1 : (i : Int) < (s.size : Int) := by omega
    have h2 : (0 : Int) ≤ (i : Int) := by omega
    have hw1 : wrap64 ((i : Int) + 1) = ((i + 1 : Nat) : Int) := by rw [w64 (by omega) (by omega)]; rfl
    have h3 : (i : Int) ≤ ((i + 1 : Nat) : Int) := by omega
    have h4 : ((i + 1 : Nat) : Int) ≤ (s.size : Int) := by omega
    have h5 : w.size + (s.extract i (i + 1)).size ≤ 9223372036854775807 := by rw [ByteArray.size_extract]; omega
    have h6 : acc.length < 8796093022208 := by omega
    simp only [impl_TextsOver.l2, h1, h2, hw1, h3, h4, Int.toNat_natCast, h5, h6, ↓reduceIte]
    refine ih (i + 1) _ (by omega) (by simp; omega) ?_
    rw [putAll_step s w i (by omega)] at h
    rw [List.append_assoc]
    exact h
theorem impl_TextsOver_l1 (s : ByteArray) (hs : s.size ≤ 12) (p q : Int) (xs : List ByteArray) (hx : ∀ w ∈ xs, w.size ≤ 100) (hl : xs.length ≤ 300) (r : List ByteArray × Bool) (d : Nat) : ∀ (i : Nat) (acc : List ByteArray), i + d = xs.length → acc.length = i * s.size → acc ++ stepV s (xs.drop i) = stepV s xs → (((stepV s xs).length : Int) > 300 → r = ([], false)) → (¬ ((stepV s xs).length : Int) > 300 → Ev (fun k => impl_TextsOver.l0 k s (stepV s xs) p (wrap64 (q + 1))) r) → Ev (fun k => impl_TextsOver.l1 k s acc p q xs (xs.length : Int) (i : Int)) r := by
  induction d with
  | zero =>
    intro i acc hi hlen hacc hr1 hr2
    refine Ev.succ ?_
    have h1 : ¬ ((i : Int) < (xs.length : Int)) := by omega
    rw [List.drop_eq_nil_of_le (by omega), show stepV s [] = [] from rfl, List.append_nil] at hacc
    subst hacc
    simp only [impl_TextsOver.l1, h1, ↓reduceIte]
    by_cases c : ((stepV s xs).length : Int) > 300
    · simp only [c, ↓reduceIte]; exact Ev.some_ (hr1 c).symm
    · simp only [c, ↓reduceIte]; exact hr2 c
  | succ d ih =>
    intro i acc hi hlen hacc hr1 hr2
    refine Ev.succ ?_
    have h0 : i < xs.length := by omega
    have h1 : (i : Int) < (xs.length : Int) := by omega
    have h2 : (0 : Int) ≤ (i : Int) := by omega
    have hw1 : wrap64 ((i : Int) + 1) = ((i + 1 : Nat) : Int) := by rw [w64 (by omega) (by omega)]; rfl
    have hm : i * s.size ≤ 300 * 12 := Nat.mul_le_mul (by omega) hs
    simp only [impl_TextsOver.l1, h1, h2, ↓reduceIte, rdOf_nat ByteArray.empty xs i h0]
    refine impl_TextsOver_l2 s hs _ (hx _ (List.getElem_mem h0)) xs _ _ _ _ r s.size 0 acc (by omega) (by omega) ?_
    rw [hw1]
    refine ih (i + 1) _ (by omega) ?_ ?_ hr1 hr2
    · rw [List.length_append, putAll_length, hlen, Nat.succ_mul]; omega
    · rw [← hacc, drop_cons xs i h0, List.append_assoc]
      rfl
theorem impl_TextsOver_l0 (s : ByteArray) (hs : s.size ≤ 12) (n : Nat) (hn : n ≤ 8) : ∀ (d i : Nat) (ws : List ByteArray), i + d = n → ws.length ≤ 300 → (∀ w ∈ ws, w.size + d ≤ 100) → Ev (fun k => impl_TextsOver.l0 k s ws (n : Int) (i : Int)) (textsFrom s d ws) := by
  intro d
  induction d with
  | zero =>
    intro i ws hi hl hz
    refine Ev.succ ?_
    have h1 : ¬ ((i : Int) < (n : Int)) := by omega
    simp only [impl_TextsOver.l0, h1, ↓reduceIte]
    exact Ev.now _
  | succ d ih =>
    intro i ws hi hl hz
    refine Ev.succ ?_
    have h1 : (i : Int) < (n : Int) := by omega
    simp only [impl_TextsOver.l0, h1, ↓reduceIte]
    refine impl_TextsOver_l1 s hs _ _ ws (fun w hw => by have := hz w hw; omega) hl _ ws.length 0 [] (by omega) (by simp) (by simp) ?_ ?_
    · intro c; unfold textsFrom; rw [if_pos c]
    · intro c
      have hw1 : wrap64 ((i : Int) + 1) = ((i + 1 : Nat) : Int) := by rw [w64 (by omega) (by omega)]; rfl
      unfold textsFrom
      rw [if_neg c, hw1]
      refine ih (i + 1) (stepV s ws) (by omega) (by omega) ?_
      have := stepV_size (s := s) (ws := ws) (t := 100 - (d + 1)) (fun w hw => by have := hz w hw; omega)
      intro w hw
      have := this w hw
      omega
theorem impl_TextsOver_ev (s : ByteArray) (n : Int) (hs : s.size ≤ 1048576) : Ev (fun k => impl_TextsOver.f k s n) (textsV s n) := by
  unfold impl_TextsOver.f textsV
  refine Ev.bind (impl_areLetters_ev s hs) ?_
  cases h : lettersV s with
  | false => simp only [Bool.false_eq_true, ↓reduceIte, false_and]; refine Ev.succ ?_; simp only [impl_TextsOver.j0, ↓reduceIte]; exact Ev.now _
  | true =>
    simp only [↓reduceIte, true_and, impl_in_eq, Option.bind_some]
    refine Ev.succ ?_
    by_cases c : 1 ≤ n ∧ n ≤ 8
    · simp only [impl_TextsOver.j0, c, and_self, decide_true, Bool.not_true, Bool.false_eq_true, ↓reduceIte]
      have h8 := lettersV_size h
      have e := impl_TextsOver_l0 s h8 n.toNat (by omega) n.toNat 0 [⟨#[]⟩] (by omega) (by simp) (by intro w hw; simp at hw; subst hw; simp [ByteArray.size]; omega)
      rw [show ((n.toNat : Nat) : Int) = n from by omega] at e
      exact e
    · simp only [impl_TextsOver.j0, c, decide_false, Bool.not_false, ↓reduceIte]
      exact Ev.now _

theorem FnExactTextsOver : laws_FnExactTextsOver.Pure := by
  intro s n hs hn
  refine Ev.rounds ?_
  obtain ⟨f, hf⟩ := laws_markText_fn
  unfold laws_FnExactTextsOver.f
  by_cases c0 : (s.size : Int) > 1048576
  · simp only [c0, ↓reduceIte]
    exact Ev.now _
  · simp only [c0, ↓reduceIte]
    have hlen := textsV_length s n
    refine Ev.bind (spec_TextsOver_ev s n (by omega)) ?_
    refine Ev.bind (impl_TextsOver_ev s n (by omega)) ?_
    refine Ev.bind (laws_eqStringS_self _ (by omega)) ?_
    simp only [↓reduceIte, bne_self_eq_false]
    refine Ev.succ ?_
    simp only [laws_FnExactTextsOver.j0, Bool.false_eq_true, ↓reduceIte]
    refine Ev.bind (laws_markStringS_ev f hf _ 1 (by omega) (by omega)) ?_
    refine Ev.bind (laws_heldStringS_ev f hf 1 _ (by omega) (by omega)) ?_
    simp only [show ¬ ((1 : Int) + ((textsV s n).1.length : Int) < 0) from by omega, ↓reduceIte]
    refine Ev.bind (impl_TextsOver_ev s n (by omega)) ?_
    refine Ev.bind (laws_eqStringS_self _ (by omega)) ?_
    simp only [↓reduceIte, bne_self_eq_false]
    refine Ev.succ ?_
    simp only [laws_FnExactTextsOver.j1, Bool.false_eq_true, ↓reduceIte]
    refine Ev.bind (laws_heldStringS_ev f hf 1 _ (by omega) (by omega)) ?_
    simp only [show ¬ ((1 : Int) + ((textsV s n).1.length : Int) < 0) from by omega, ↓reduceIte]
    exact Ev.now _

end Go.Proofs.Ytcccfjpiebihmaa.Pure
