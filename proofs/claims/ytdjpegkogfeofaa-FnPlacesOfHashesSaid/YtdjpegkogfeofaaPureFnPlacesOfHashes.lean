/- The place of a key is told by its hash, and rises with it. -/
import Derived.Test.YtdjpegkogfeofaaPFnPlacesOfHashesx3
import Derived.Test.YtdjpegkogfeofaaBase
namespace Go.Proofs.Ytdjpegkogfeofaa.Pure
open Go.RowKit Go.Proofs.Ytdjpegkogfeofaa.PFnPlacesOfHashes Go.Proofs.YtdjpegkogfeofaaW.PrintWords Go.Proofs.YtdjpegkogfeofaaW.PrintLast Go.Proofs.Ytdjpegkogfeofaa.Base
set_option linter.unusedVariables false
set_option linter.unusedSimpArgs false

theorem and255 (x : Int) : 0 ≤ Go.bits .and .u64 x 255 ∧ Go.bits .and .u64 x 255 ≤ 255 := by
  have e : Go.bits .and .u64 x 255 = IntKind.u64.wrap ((((BitVec.ofInt 64 x) &&& (BitVec.ofInt 64 255)).toNat : Nat) : Int) := rfl
  have h1 : ((BitVec.ofInt 64 x) &&& (BitVec.ofInt 64 255)).toNat ≤ 255 := by
    rw [BitVec.toNat_and]
    exact Nat.le_trans Nat.and_le_right (by decide)
  generalize ((BitVec.ofInt 64 x) &&& (BitVec.ofInt 64 255)).toNat = n at *
  have e2 : IntKind.u64.wrap (n : Int) = (n : Int) := by
    simp only [IntKind.wrap_u64]
    omega
  rw [e, e2]
  omega
def small (l : List Int) : Prop := l.length ≤ 1048576 ∧ ∀ x ∈ l, 0 ≤ x ∧ x ≤ 255
theorem small_rd {l : List Int} (h : small l) (i : Int) : 0 ≤ rd l i ∧ rd l i ≤ 255 := by
  unfold rd
  rw [List.getD_eq_getElem?_getD]
  cases e : l[i.toNat]? with
  | none => simp
  | some x => simpa using h.2 x (List.mem_of_getElem? e)
/-- A draw: at whatever place up to a bound, it gives something right, and goes on by so many places at the most. -/
def Draw {α : Type} (g : Int → Int → Option (α × Int × Int)) (m : Int) (P : α → Prop) : Prop := ∀ a s : Int, 0 ≤ a → a + m ≤ 4000000000000000000 → ∃ r a' s', g a s = some (r, a', s') ∧ P r ∧ a ≤ a' ∧ a' ≤ a + m
def DrawEv {α : Type} (g : Nat → Int → Int → Option (α × Int × Int)) (m : Int) (P : α → Prop) : Prop := ∀ a s : Int, 0 ≤ a → a + m ≤ 4000000000000000000 → ∃ r a' s', Ev (fun k => g k a s) (r, a', s') ∧ P r ∧ a ≤ a' ∧ a' ≤ a + m
theorem next_draw {l : List Int} (h : small l) : Draw (spec_l1Cur_next.f l) 1 (fun r => 0 ≤ r ∧ r ≤ 255) := by
  intro a s h0 h1
  have hr := small_rd h a
  have hl := h.1
  have w1 : wrap64 (rd l a) = rd l a := w64 (by omega) (by omega)
  have w2 : wrap64 (a + 1) = a + 1 := w64 (by omega) (by omega)
  unfold spec_l1Cur_next.f
  rw [w1, w2]
  by_cases c : a < (l.length : Int)
  · have c2 : a + 1 ≤ (l.length : Int) := by omega
    simp only [c, h0, c2, ↓reduceIte]
    exact ⟨_, _, _, rfl, hr, by omega, by omega⟩
  · have c2 : ¬ (a + 1 ≤ (l.length : Int)) := by omega
    simp only [c, c2, ↓reduceIte]
    have h2 := and255 (IntKind.u64.wrap (IntKind.u64.wrap (IntKind.u64.wrap (s * 6364136223846793005)) + 1442695040888963407) / 1099511627776)
    rw [w64 (n := Go.bits .and .u64 _ 255) (by omega) (by omega)]
    exact ⟨_, _, _, rfl, h2, by omega, by omega⟩
theorem pick_draw {l : List Int} (h : small l) (n : Int) (hn : n ≤ 1000000) : Draw (fun a s => spec_l1Cur_pick.f l a s n) 2 (fun r => 0 ≤ r ∧ (r < n ∨ r = 0)) := by
  intro a s h0 h1
  simp only [spec_l1Cur_pick.f]
  by_cases c : n ≤ 1
  · simp only [c, ↓reduceIte]
    exact ⟨_, _, _, rfl, by omega, by omega, by omega⟩
  · obtain ⟨r, a', s', e, hr, ha, ha'⟩ := next_draw h a s h0 (by omega)
    have hn0 : ¬ (n = 0) := by omega
    simp only [c, ↓reduceIte, e, Option.bind_some, hn0]
    by_cases c2 : n > 200
    · obtain ⟨r2, a2, s2, e2, hr2, ha2, ha2'⟩ := next_draw h a' s' (by omega) (by omega)
      simp only [c2, ↓reduceIte, e2, Option.bind_some]
      refine ⟨_, _, _, rfl, ?_, by omega, by omega⟩
      rw [w64 (n := r * 256) (by omega) (by omega), w64 (n := r * 256 + r2) (by omega) (by omega), tmod_pos (by omega)]
      exact ⟨Int.emod_nonneg _ (by omega), .inl (Int.emod_lt_of_pos _ (by omega))⟩
    · simp only [c2, ↓reduceIte]
      refine ⟨_, _, _, rfl, ?_, by omega, by omega⟩
      rw [tmod_pos hr.1]
      exact ⟨Int.emod_nonneg _ (by omega), .inl (Int.emod_lt_of_pos _ (by omega))⟩
theorem among_draw {l : List Int} (h : small l) (xs : List Int) (hx : 0 < xs.length) (hx2 : xs.length ≤ 1000) : Draw (fun a s => spec_l1Cur_among.f l a s xs) 2 (fun r => r ∈ xs) := by
  intro a s h0 h1
  obtain ⟨r, a', s', e, hr, ha, ha'⟩ := pick_draw h (xs.length : Int) (by omega) a s h0 h1
  have c : r < (xs.length : Int) := by omega
  obtain ⟨n, rfl⟩ := Int.eq_ofNat_of_zero_le hr.1
  simp only [spec_l1Cur_among.f, e, Option.bind_some, hr.1, c, ↓reduceIte]
  refine ⟨_, _, _, rfl, ?_, ha, ha'⟩
  rw [rd_nat xs n (by omega)]
  exact List.getElem_mem _
theorem of_draw {l : List Int} (h : small l) (xs : List ByteArray) (hx : 0 < xs.length) (hx2 : xs.length ≤ 1000) : Draw (fun a s => spec_l1Cur_of.f l a s xs) 2 (fun r => r ∈ xs) := by
  intro a s h0 h1
  obtain ⟨r, a', s', e, hr, ha, ha'⟩ := pick_draw h (xs.length : Int) (by omega) a s h0 h1
  have c : r < (xs.length : Int) := by omega
  obtain ⟨n, rfl⟩ := Int.eq_ofNat_of_zero_le hr.1
  simp only [spec_l1Cur_of.f, e, Option.bind_some, hr.1, c, ↓reduceIte]
  refine ⟨_, _, _, rfl, ?_, ha, ha'⟩
  rw [rdOf_nat _ xs n (by omega)]
  exact List.getElem_mem _
theorem one_draw {l : List Int} (h : small l) (n : Int) (hn : n ≤ 1000000) : Draw (fun a s => spec_l1Cur_one.f l a s n) 2 (fun _ => True) := by
  intro a s h0 h1
  obtain ⟨r, a', s', e, hr, ha, ha'⟩ := pick_draw h n hn a s h0 h1
  simp only [spec_l1Cur_one.f, e, Option.bind_some]
  exact ⟨_, _, _, rfl, trivial, ha, ha'⟩
theorem seed9_draw {l : List Int} (h : small l) : Draw (spec_l1Cur_seed9.f l) 4 (fun _ => True) := by
  intro a s h0 h1
  obtain ⟨r, a', s', e, hr, ha, ha'⟩ := pick_draw h 12 (by decide) a s h0 (by omega)
  simp only [spec_l1Cur_seed9.f, e, Option.bind_some]
  by_cases c : r = 0
  · obtain ⟨r2, a2, s2, e2, hr2, ha2, ha2'⟩ := among_draw h [(-1), 9999, 10000] (by decide) (by decide) a' s' (by omega) (by omega)
    simp only [c, ↓reduceIte, e2, Option.bind_some]
    exact ⟨_, _, _, rfl, trivial, by omega, by omega⟩
  · by_cases c2 : r = 1
    · obtain ⟨r2, a2, s2, e2, hr2, ha2, ha2'⟩ := pick_draw h 10000 (by decide) a' s' (by omega) (by omega)
      simp only [c, c2, Int.one_ne_zero, ↓reduceIte, e2, Option.bind_some]
      exact ⟨_, _, _, rfl, trivial, by omega, by omega⟩
    · obtain ⟨r2, a2, s2, e2, hr2, ha2, ha2'⟩ := pick_draw h 20 (by decide) a' s' (by omega) (by omega)
      simp only [c, c2, ↓reduceIte, e2, Option.bind_some]
      exact ⟨_, _, _, rfl, trivial, by omega, by omega⟩
theorem part_draw {l : List Int} (h : small l) : Draw (spec_l1Cur_part.f l) 4 (fun _ => True) := by
  intro a s h0 h1
  obtain ⟨r, a', s', e, hr, ha, ha'⟩ := one_draw h 8 (by decide) a s h0 (by omega)
  simp only [spec_l1Cur_part.f, e, Option.bind_some]
  cases r with
  | true =>
    obtain ⟨r2, a2, s2, e2, hr2, ha2, ha2'⟩ := among_draw h [(-1), 9, 10] (by decide) (by decide) a' s' (by omega) (by omega)
    simp only [↓reduceIte, e2, Option.bind_some]
    exact ⟨_, _, _, rfl, trivial, by omega, by omega⟩
  | false =>
    obtain ⟨r2, a2, s2, e2, hr2, ha2, ha2'⟩ := pick_draw h 4 (by decide) a' s' (by omega) (by omega)
    simp only [Bool.false_eq_true, ↓reduceIte, e2, Option.bind_some]
    exact ⟨_, _, _, rfl, trivial, by omega, by omega⟩
theorem places_draw {l : List Int} (h : small l) : Draw (spec_l1Cur_places.f l) 4 (fun _ => True) := by
  intro a s h0 h1
  obtain ⟨r, a', s', e, hr, ha, ha'⟩ := pick_draw h 8 (by decide) a s h0 (by omega)
  simp only [spec_l1Cur_places.f, e, Option.bind_some]
  by_cases c : r = 0
  · obtain ⟨r2, a2, s2, e2, hr2, ha2, ha2'⟩ := among_draw h [(-1), 0, 64, 65, 4096, 4097] (by decide) (by decide) a' s' (by omega) (by omega)
    simp only [c, ↓reduceIte, e2, Option.bind_some]
    exact ⟨_, _, _, rfl, trivial, by omega, by omega⟩
  · by_cases c2 : r = 1
    · obtain ⟨r2, a2, s2, e2, hr2, ha2, ha2'⟩ := pick_draw h 4096 (by decide) a' s' (by omega) (by omega)
      simp only [c, c2, Int.one_ne_zero, ↓reduceIte, e2, Option.bind_some]
      exact ⟨_, _, _, rfl, trivial, by omega, by omega⟩
    · obtain ⟨r2, a2, s2, e2, hr2, ha2, ha2'⟩ := pick_draw h 24 (by decide) a' s' (by omega) (by omega)
      simp only [c, c2, ↓reduceIte, e2, Option.bind_some]
      exact ⟨_, _, _, rfl, trivial, by omega, by omega⟩
theorem strOfNums_size (l : List Int) : (strOfNums l).size = l.length := by simp [strOfNums, ByteArray.size]
theorem key_l1 (l x : List Int) (a s : Int) (d : Nat) : ∀ x : List Int, x.length + d = 12 → ∃ r, Ev (fun k => spec_l1Cur_key.l1 k x l a s) (r, a, s) ∧ r.size ≤ 1000 := by
  induction d with
  | zero =>
    intro x hx
    refine ⟨strOfNums x, Ev.succ ?_, by rw [strOfNums_size]; omega⟩
    have h1 : ¬ ((x.length : Int) < 12) := by omega
    simp only [spec_l1Cur_key.l1, h1, ↓reduceIte]
    exact Ev.now _
  | succ d ih =>
    intro x hx
    obtain ⟨r, e, hr⟩ := ih (x ++ [97]) (by simp; omega)
    refine ⟨r, Ev.succ ?_, hr⟩
    have h1 : (x.length : Int) < 12 := by omega
    have h2 : x.length < 140737488355328 := by omega
    simp only [spec_l1Cur_key.l1, h1, h2, ↓reduceIte]
    exact e
theorem key_l0 {l : List Int} (h : small l) (d : Nat) : ∀ (x : List Int) (a s : Int), d ≤ 4 → x.length + d ≤ 4 → 0 ≤ a → a + 2 * (d : Int) + 2 ≤ 4000000000000000000 → ∃ r a' s', Ev (fun k => spec_l1Cur_key.l0 k x (d : Int) l a s) (r, a', s') ∧ r.size ≤ 1000 ∧ a ≤ a' ∧ a' ≤ a + 2 * (d : Int) + 2 := by
  induction d with
  | zero =>
    intro x a s hd hx h0 h1
    obtain ⟨r, a', s', e, hr, ha, ha'⟩ := one_draw h 12 (by decide) a s h0 (by omega)
    have h2 : ¬ (((0 : Nat) : Int) > 0) := by omega
    cases r with
    | true =>
      obtain ⟨r2, e2, hr2⟩ := key_l1 l x a' s' (12 - x.length) x (by omega)
      refine ⟨r2, a', s', Ev.succ ?_, hr2, by omega, by omega⟩
      simp only [spec_l1Cur_key.l0, h2, ↓reduceIte, e, Option.bind_some]
      exact e2
    | false =>
      refine ⟨strOfNums x, a', s', Ev.succ ?_, ?_, by omega, by omega⟩
      · simp only [spec_l1Cur_key.l0, h2, ↓reduceIte, e, Option.bind_some, Bool.false_eq_true]
        exact Ev.now _
      · rw [strOfNums_size]; omega
  | succ d ih =>
    intro x a s hd hx h0 h1
    obtain ⟨r, a', s', e, hr, ha, ha'⟩ := pick_draw h 11 (by decide) a s h0 (by omega)
    obtain ⟨r2, a2, s2, e2, hr2, ha2, ha2'⟩ := ih (x ++ [bt (⟨#[97, 97, 98, 98, 99, 120, 121, 122, 33, 125, 48]⟩ : ByteArray) r]) a' s' (by omega) (by simp; omega) (by omega) (by omega)
    refine ⟨r2, a2, s2, Ev.succ ?_, hr2, by omega, by omega⟩
    have h2 : ((d + 1 : Nat) : Int) > 0 := by omega
    have h3 : r < 11 := by omega
    have h4 : x.length < 140737488355328 := by omega
    have hw : wrap64 (((d + 1 : Nat) : Int) - 1) = (d : Int) := by rw [w64 (by omega) (by omega)]; omega
    simp only [spec_l1Cur_key.l0, h2, ↓reduceIte, e, Option.bind_some, hr.1, h3, h4, hw]
    exact e2
theorem key_draw {l : List Int} (h : small l) : DrawEv (fun k => spec_l1Cur_key.f k l) 20 (fun r => r.size ≤ 1000) := by
  intro a s h0 h1
  obtain ⟨r, a', s', e, hr, ha, ha'⟩ := pick_draw h 4 (by decide) a s h0 (by omega)
  obtain ⟨n, rfl⟩ := Int.eq_ofNat_of_zero_le hr.1
  obtain ⟨r2, a2, s2, e2, hr2, ha2, ha2'⟩ := key_l0 h (n + 1) [] a' s' (by omega) (by simp; omega) (by omega) (by omega)
  refine ⟨r2, a2, s2, ?_, hr2, by omega, by omega⟩
  have hw : wrap64 (1 + ((n : Nat) : Int)) = ((n + 1 : Nat) : Int) := by rw [w64 (by omega) (by omega)]; omega
  simp only [spec_l1Cur_key.f, e, Option.bind_some, hw]
  exact e2
theorem text_draw {l : List Int} (h : small l) : DrawEv (fun k => spec_l1Cur_text.f k l) 30 (fun r => r.size ≤ 2000) := by
  intro a s h0 h1
  obtain ⟨r, a', s', e, hr, ha, ha'⟩ := pick_draw h 16 (by decide) a s h0 (by omega)
  simp only [spec_l1Cur_text.f, e, Option.bind_some]
  by_cases c : r = 0
  · simp only [c, ↓reduceIte]
    exact ⟨_, _, _, Ev.now _, by decide, by omega, by omega⟩
  · by_cases c1 : r = 1
    · obtain ⟨r2, a2, s2, e2, hr2, ha2, ha2'⟩ := key_draw h a' s' (by omega) (by omega)
      simp only [c1, Int.one_ne_zero, ↓reduceIte]
      have hs : r2.size + 1 ≤ 9223372036854775807 := by omega
      refine ⟨r2 ++ (⟨#[32]⟩ : ByteArray), a2, s2, Ev.bind e2 ?_, ?_, by omega, by omega⟩
      · simp only [hs, ↓reduceIte]
        exact Ev.now _
      · rw [ByteArray.size_append]
        have : (⟨#[32]⟩ : ByteArray).size = 1 := rfl
        omega
    · by_cases c2 : r = 2
      · simp only [c2, show ¬ ((2 : Int) = 0) from by decide, show ¬ ((2 : Int) = 1) from by decide, ↓reduceIte]
        exact ⟨_, _, _, Ev.now _, by decide, by omega, by omega⟩
      · by_cases c3 : r = 3
        · obtain ⟨r2, a2, s2, e2, hr2, ha2, ha2'⟩ := of_draw h [(⟨#[126]⟩ : ByteArray), (⟨#[125]⟩ : ByteArray), (⟨#[97, 126]⟩ : ByteArray), (⟨#[127]⟩ : ByteArray)] (by decide) (by decide) a' s' (by omega) (by omega)
          simp only [c3, show ¬ ((3 : Int) = 0) from by decide, show ¬ ((3 : Int) = 1) from by decide, show ¬ ((3 : Int) = 2) from by decide, ↓reduceIte, e2, Option.bind_some]
          refine ⟨_, _, _, Ev.now _, ?_, by omega, by omega⟩
          simp only [List.mem_cons, List.not_mem_nil, or_false] at hr2
          rcases hr2 with rfl | rfl | rfl | rfl <;> decide
        · obtain ⟨r2, a2, s2, e2, hr2, ha2, ha2'⟩ := key_draw h a' s' (by omega) (by omega)
          simp only [c, c1, c2, c3, ↓reduceIte]
          exact ⟨r2, a2, s2, Ev.bind e2 (Ev.now _), by omega, by omega, by omega⟩
theorem small_of {l : List Int} (h1 : l.length ≤ 1048576) (h2 : ∀ x ∈ l, (Lit.int .u8 x).wf = true) : small l := by
  refine ⟨h1, fun x hx => ?_⟩
  have := h2 x hx
  simpa [Lit.wf, IntKind.min, IntKind.max, IntKind.signed, IntKind.bits] using this
theorem spec_l1In_eq (a b c : Int) : spec_l1In.f a b c = some (decide (b ≤ a ∧ a ≤ c)) := by
  unfold spec_l1In.f
  by_cases h : b ≤ a <;> simp [h]
theorem impl_in_eq (a b c : Int) : impl_in.f a b c = some (decide (b ≤ a ∧ a ≤ c)) := by
  unfold impl_in.f
  by_cases h : b ≤ a <;> simp [h]
theorem impl_isSeed_eq (a : Int) : impl_isSeed.f a = some (decide (0 ≤ a ∧ a ≤ 9999)) := by
  simp only [impl_isSeed.f, impl_in_eq, Option.bind_some]
theorem spec_IsKey_ev (s : ByteArray) (hs : s.size ≤ 9223372036854775807) : Ev (fun k => spec_IsKey.f k s) (isKey s) := by
  have h := Ev.up (L := fun k i => spec_IsKey.l0 k s (i : Int)) (r := fun i => ((bytesOf s).drop i).all okByte && decide (1 ≤ (s.size : Int) ∧ (s.size : Int) ≤ 12)) s.size ?_ ?_ 0 (Nat.zero_le _)
  · exact h
  · refine Ev.succ ?_
    have h1 : ¬ ((s.size : Int) < (s.size : Int)) := by omega
    simp only [spec_IsKey.l0, h1, ↓reduceIte, spec_l1In_eq, Option.bind_some]
    exact Ev.some_ (by rw [List.drop_of_length_le (by rw [bytesOf_length]; exact Nat.le_refl _)]; simp)
  · intro i hi ih
    refine Ev.succ ?_
    have h1 : (i : Int) < (s.size : Int) := by omega
    have h2 : (0 : Int) ≤ (i : Int) := by omega
    have hw : wrap64 ((i : Int) + 1) = ((i + 1 : Nat) : Int) := by rw [w64 (by omega) (by omega)]; rfl
    have hb := bt_nat s i hi
    simp only [spec_IsKey.l0, h1, h2, ↓reduceIte, hw]
    rw [drop_cons _ _ (by rw [bytesOf_length]; exact hi), List.all_cons, ← hb]
    by_cases c1 : bt s i < 33
    · simp only [c1, ↓reduceIte]
      exact Ev.some_ (by simp [okByte]; omega)
    · by_cases c2 : bt s i > 125
      · simp only [c1, c2, ↓reduceIte]
        exact Ev.some_ (by simp [okByte]; omega)
      · simp only [c1, c2, ↓reduceIte]
        have c3 : okByte (bt s i) = true := by simp [okByte]; omega
        rw [c3, Bool.true_and]
        exact ih
theorem impl_IsKey_ev (s : ByteArray) (hs : s.size ≤ 9223372036854775807) : Ev (fun k => impl_IsKey.f k s) (isKey s) := by
  have h := Ev.up (L := fun k i => impl_IsKey.l0 k s (s.size : Int) (i : Int)) (r := fun i => ((bytesOf s).drop i).all okByte && decide (1 ≤ (s.size : Int) ∧ (s.size : Int) ≤ 12)) s.size ?_ ?_ 0 (Nat.zero_le _)
  · exact h
  · refine Ev.succ ?_
    have h1 : ¬ ((s.size : Int) < (s.size : Int)) := by omega
    simp only [impl_IsKey.l0, h1, ↓reduceIte, impl_in_eq, Option.bind_some]
    exact Ev.some_ (by rw [List.drop_of_length_le (by rw [bytesOf_length]; exact Nat.le_refl _)]; simp)
  · intro i hi ih
    refine Ev.succ ?_
    have h1 : (i : Int) < (s.size : Int) := by omega
    have h2 : (0 : Int) ≤ (i : Int) := by omega
    have hw : wrap64 ((i : Int) + 1) = ((i + 1 : Nat) : Int) := by rw [w64 (by omega) (by omega)]; rfl
    have hb := bt_nat s i hi
    simp only [impl_IsKey.l0, h1, h2, ↓reduceIte, hw]
    rw [drop_cons _ _ (by rw [bytesOf_length]; exact hi), List.all_cons, ← hb]
    by_cases c1 : bt s i < 33
    · simp only [c1, ↓reduceIte]
      exact Ev.some_ (by simp [okByte]; omega)
    · by_cases c2 : bt s i > 125
      · simp only [c1, c2, ↓reduceIte]
        exact Ev.some_ (by simp [okByte]; omega)
      · simp only [c1, c2, ↓reduceIte]
        have c3 : okByte (bt s i) = true := by simp [okByte]; omega
        rw [c3, Bool.true_and]
        exact ih
theorem spec_pow (h : Int) (h0 : 0 ≤ h) (h1 : h < 65521) : Int.tmod (wrap64 ((Int.tmod (wrap64 ((Int.tmod (wrap64 ((Int.tmod (wrap64 ((Int.tmod (wrap64 (h * h)) 65521) * (Int.tmod (wrap64 (h * h)) 65521))) 65521) * h)) 65521) * (Int.tmod (wrap64 ((Int.tmod (wrap64 ((Int.tmod (wrap64 (h * h)) 65521) * (Int.tmod (wrap64 (h * h)) 65521))) 65521) * h)) 65521))) 65521) * h)) 65521 = h ^ 11 % 65521 := by
  have step : ∀ a b : Int, 0 ≤ a → a < 65521 → 0 ≤ b → b < 65521 → Int.tmod (wrap64 (a * b)) 65521 = a * b % 65521 := by
    intro a b ha ha' hb hb'
    obtain ⟨p0, p1⟩ := prod_range ha ha' hb hb'
    rw [w64 (by omega) (by omega), tmod_pos p0]
  have rng : ∀ x : Int, 0 ≤ x % 65521 ∧ x % 65521 < 65521 := fun x => ⟨Int.emod_nonneg _ (by decide), Int.emod_lt_of_pos _ (by decide)⟩
  rw [step h h h0 h1 h0 h1]
  rw [step _ _ (rng _).1 (rng _).2 (rng _).1 (rng _).2]
  rw [step _ _ (rng _).1 (rng _).2 h0 h1]
  rw [step _ _ (rng _).1 (rng _).2 (rng _).1 (rng _).2]
  rw [step _ _ (rng _).1 (rng _).2 h0 h1]
  simp only [mul_mod_l, mul_mod_r]
  congr 1
  simp only [Int.pow_succ, Int.pow_zero, Int.one_mul, Int.mul_assoc]
theorem spec_biHash_l0 (s : ByteArray) (hs : s.size ≤ 9223372036854775807) (d : Nat) : ∀ (i : Nat) (h : Int), i + d = s.size → 0 ≤ h → h < 65521 → Ev (fun k => spec_biHash.l0 k s h (i : Int)) (hashFrom h ((bytesOf s).drop i)) := by
  induction d with
  | zero =>
    intro i h hi h0 h1
    refine Ev.succ ?_
    have c1 : ¬ ((i : Int) < (s.size : Int)) := by omega
    simp only [spec_biHash.l0, c1, ↓reduceIte]
    rw [spec_pow h h0 h1]
    exact Ev.some_ (by rw [List.drop_of_length_le (by rw [bytesOf_length]; omega)]; rfl)
  | succ d ih =>
    intro i h hi h0 h1
    refine Ev.succ ?_
    have c1 : (i : Int) < (s.size : Int) := by omega
    have c2 : (0 : Int) ≤ (i : Int) := by omega
    have hw : wrap64 ((i : Int) + 1) = ((i + 1 : Nat) : Int) := by rw [w64 (by omega) (by omega)]; rfl
    have hb := bt_nat s i (by omega)
    have hr := bt_range s i
    have e : Int.tmod (wrap64 ((wrap64 (263 * h)) + (wrap64 (bt s i)))) 65521 = hstep h (bt s i) := by
      rw [w64 (n := 263 * h) (by omega) (by omega), w64 (n := bt s i) (by omega) (by omega), w64 (by omega) (by omega), tmod_pos (by omega)]
      rfl
    simp only [spec_biHash.l0, c1, c2, ↓reduceIte, hw, e]
    rw [drop_cons _ _ (by rw [bytesOf_length]; omega), ← hb]
    exact ih (i + 1) (hstep h (bt s i)) (by omega) (Int.emod_nonneg _ (by decide)) (Int.emod_lt_of_pos _ (by decide))
theorem spec_biHash_ev (a b : Int) (s : ByteArray) (hs : s.size ≤ 9223372036854775807) (ha0 : 0 ≤ a) (ha1 : a ≤ 9999) (hb0 : 0 ≤ b) (hb1 : b ≤ 9) : Ev (fun k => spec_biHash.f k a b s) (hashV a b s) := by
  have e : Int.tmod (wrap64 ((wrap64 ((wrap64 (31 * a)) + (wrap64 (977 * b)))) + 7)) 65521 = hash0 a b := by
    rw [w64 (n := 31 * a) (by omega) (by omega), w64 (n := 977 * b) (by omega) (by omega), w64 (n := 31 * a + 977 * b) (by omega) (by omega), w64 (by omega) (by omega), tmod_pos (by omega)]
    rfl
  unfold spec_biHash.f
  simp only [e]
  exact spec_biHash_l0 s hs s.size 0 (hash0 a b) (by omega) (Int.emod_nonneg _ (by decide)) (Int.emod_lt_of_pos _ (by decide))
theorem impl_hash_l1 (h : Int) (h0 : 0 ≤ h) (h1 : h < 65521) (d : Nat) : ∀ (i : Nat) (o : Int), i + d = 11 → o = h ^ i % 65521 → Ev (fun k => impl_hash.l1 k h o (i : Int)) (h ^ 11 % 65521) := by
  induction d with
  | zero =>
    intro i o hi ho
    obtain rfl : i = 11 := by omega
    refine Ev.succ ?_
    simp only [impl_hash.l1]
    exact Ev.some_ ho
  | succ d ih =>
    intro i o hi ho
    refine Ev.succ ?_
    have c1 : (i : Int) < 11 := by omega
    have hw : wrap64 ((i : Int) + 1) = ((i + 1 : Nat) : Int) := by rw [w64 (by omega) (by omega)]; rfl
    have r : 0 ≤ o ∧ o < 65521 := by rw [ho]; exact ⟨Int.emod_nonneg _ (by decide), Int.emod_lt_of_pos _ (by decide)⟩
    obtain ⟨p0, p1⟩ := prod_range r.1 r.2 h0 h1
    have e : Int.tmod (wrap64 (o * h)) 65521 = h ^ (i + 1) % 65521 := by
      rw [w64 (by omega) (by omega), tmod_pos p0, ho, mul_mod_l, Int.pow_succ]
    simp only [impl_hash.l1, c1, ↓reduceIte, hw]
    exact ih (i + 1) _ (by omega) e
theorem impl_hash_l0 (s : ByteArray) (hs : s.size ≤ 9223372036854775807) (d : Nat) : ∀ (i : Nat) (h : Int), i + d = s.size → 0 ≤ h → h < 65521 → Ev (fun k => impl_hash.l0 k s h (s.size : Int) (i : Int)) (hashFrom h ((bytesOf s).drop i)) := by
  induction d with
  | zero =>
    intro i h hi h0 h1
    refine Ev.succ ?_
    have c1 : ¬ ((i : Int) < (s.size : Int)) := by omega
    simp only [impl_hash.l0, c1, ↓reduceIte]
    rw [List.drop_of_length_le (by rw [bytesOf_length]; omega)]
    exact impl_hash_l1 h h0 h1 11 0 1 (by omega) (by simp)
  | succ d ih =>
    intro i h hi h0 h1
    refine Ev.succ ?_
    have c1 : (i : Int) < (s.size : Int) := by omega
    have c2 : (0 : Int) ≤ (i : Int) := by omega
    have hw : wrap64 ((i : Int) + 1) = ((i + 1 : Nat) : Int) := by rw [w64 (by omega) (by omega)]; rfl
    have hb := bt_nat s i (by omega)
    have hr := bt_range s i
    have e : Int.tmod (wrap64 ((wrap64 (263 * h)) + (wrap64 (bt s i)))) 65521 = hstep h (bt s i) := by
      rw [w64 (n := 263 * h) (by omega) (by omega), w64 (n := bt s i) (by omega) (by omega), w64 (by omega) (by omega), tmod_pos (by omega)]
      rfl
    simp only [impl_hash.l0, c1, c2, ↓reduceIte, hw, e]
    rw [drop_cons _ _ (by rw [bytesOf_length]; omega), ← hb]
    exact ih (i + 1) (hstep h (bt s i)) (by omega) (Int.emod_nonneg _ (by decide)) (Int.emod_lt_of_pos _ (by decide))
theorem impl_hash_ev (a b : Int) (s : ByteArray) (hs : s.size ≤ 9223372036854775807) (ha0 : 0 ≤ a) (ha1 : a ≤ 9999) (hb0 : 0 ≤ b) (hb1 : b ≤ 9) : Ev (fun k => impl_hash.f k a b s) (hashV a b s) := by
  have e : Int.tmod (wrap64 ((wrap64 ((wrap64 (31 * a)) + (wrap64 (977 * b)))) + 7)) 65521 = hash0 a b := by
    rw [w64 (n := 31 * a) (by omega) (by omega), w64 (n := 977 * b) (by omega) (by omega), w64 (n := 31 * a + 977 * b) (by omega) (by omega), w64 (by omega) (by omega), tmod_pos (by omega)]
    rfl
  unfold impl_hash.f
  simp only [e]
  exact impl_hash_l0 s hs s.size 0 (hash0 a b) (by omega) (Int.emod_nonneg _ (by decide)) (Int.emod_lt_of_pos _ (by decide))
theorem spec_biPlace_ev (a b : Int) (s : ByteArray) (n : Int) (hs : s.size ≤ 9223372036854775807) (ha0 : 0 ≤ a) (ha1 : a ≤ 9999) (hb0 : 0 ≤ b) (hb1 : b ≤ 9) (hn0 : 0 ≤ n) (hn1 : n ≤ 65521) : Ev (fun k => spec_biPlace.f k a b s n) (placeV a b s n) := by
  have hr := hash_range a b s
  have p0 : 0 ≤ hashV a b s * n := Int.mul_nonneg hr.1 hn0
  have p1 : hashV a b s * n ≤ 4293001441 := by
    have h1 : hashV a b s * n ≤ hashV a b s * 65521 := Int.mul_le_mul_of_nonneg_left (by omega) hr.1
    omega
  unfold spec_biPlace.f
  refine Ev.bind (spec_biHash_ev a b s hs ha0 ha1 hb0 hb1) ?_
  refine Ev.some_ ?_
  have h2 : hashV a b s * n / 65521 ≤ hashV a b s * n := Int.ediv_le_self _ p0
  have h3 : 0 ≤ hashV a b s * n / 65521 := Int.ediv_nonneg p0 (by decide)
  rw [w64 (n := hashV a b s * n) (by omega) (by omega), tdiv_pos p0, w64 (by omega) (by omega)]
  rfl
theorem impl_place_ev (a b : Int) (s : ByteArray) (n : Int) (hs : s.size ≤ 9223372036854775807) (ha0 : 0 ≤ a) (ha1 : a ≤ 9999) (hb0 : 0 ≤ b) (hb1 : b ≤ 9) (hn0 : 0 ≤ n) (hn1 : n ≤ 65521) : Ev (fun k => impl_place.f k a b s n) (placeV a b s n) := by
  have hr := hash_range a b s
  have p0 : 0 ≤ hashV a b s * n := Int.mul_nonneg hr.1 hn0
  have p1 : hashV a b s * n ≤ 4293001441 := by
    have h1 : hashV a b s * n ≤ hashV a b s * 65521 := Int.mul_le_mul_of_nonneg_left (by omega) hr.1
    omega
  unfold impl_place.f
  refine Ev.bind (impl_hash_ev a b s hs ha0 ha1 hb0 hb1) ?_
  refine Ev.some_ ?_
  have h2 : hashV a b s * n / 65521 ≤ hashV a b s * n := Int.ediv_le_self _ p0
  have h3 : 0 ≤ hashV a b s * n / 65521 := Int.ediv_nonneg p0 (by decide)
  rw [w64 (n := hashV a b s * n) (by omega) (by omega), tdiv_pos p0, w64 (by omega) (by omega)]
  rfl

theorem DrawPlaceOf_ev {l : List Int} (h : small l) : ∃ a b c s, Ev (fun k => spec_DrawPlaceOf.f k l) (a, b, s, c) ∧ s.size ≤ 2000 := by
  obtain ⟨r1, a1, s1, e1, _, h1, h1'⟩ := seed9_draw h 0 0 (by decide) (by decide)
  obtain ⟨r2, a2, s2, e2, _, h2, h2'⟩ := part_draw h a1 s1 (by omega) (by omega)
  obtain ⟨r3, a3, s3, e3, hs, h3, h3'⟩ := text_draw h a2 s2 (by omega) (by omega)
  obtain ⟨r4, a4, s4, e4, _, h4, h4'⟩ := places_draw h a3 s3 (by omega) (by omega)
  refine ⟨r1, r2, r4, r3, ?_, hs⟩
  unfold spec_DrawPlaceOf.f
  simp only [e1, e2, Option.bind_some]
  refine Ev.bind e3 ?_
  simp only [e4, Option.bind_some]
  exact Ev.now _
def hashedV (a b : Int) (s : ByteArray) : Int × Bool := if (0 ≤ a ∧ a ≤ 9999) ∧ (0 ≤ b ∧ b ≤ 9) ∧ isKey s = true then (hashV a b s, true) else (0, false)
def placedAt (a b : Int) (s : ByteArray) (n : Int) : Int × Bool := if (0 ≤ a ∧ a ≤ 9999) ∧ (0 ≤ b ∧ b ≤ 9) ∧ isKey s = true ∧ 1 ≤ n ∧ n ≤ 4096 then (placeV a b s n, true) else (0, false)
theorem impl_PlaceOf_ev (a b : Int) (s : ByteArray) (n : Int) (hs : s.size ≤ 9223372036854775807) : Ev (fun k => impl_PlaceOf.f k a b s n) (placedAt a b s n) := by
  unfold impl_PlaceOf.f placedAt
  simp only [impl_isSeed_eq, impl_in_eq, Option.bind_some]
  by_cases c : 0 ≤ a ∧ a ≤ 9999
  · by_cases c1 : 0 ≤ b ∧ b ≤ 9
    · simp only [c, c1, and_self, decide_true, ↓reduceIte, true_and]
      refine Ev.bind (impl_IsKey_ev s hs) ?_
      cases isKey s with
      | false => simp only [Bool.false_eq_true, ↓reduceIte, false_and]; exact Ev.now _
      | true =>
        by_cases c2 : 1 ≤ n ∧ n ≤ 4096
        · simp only [c2, and_self, decide_true, ↓reduceIte]
          exact Ev.bind (impl_place_ev a b s n hs c.1 c.2 c1.1 c1.2 (by omega) (by omega)) (Ev.now _)
        · simp only [c2, decide_false, Bool.false_eq_true, ↓reduceIte, and_false]
          exact Ev.now _
    · simp only [c, c1, and_self, decide_true, decide_false, Bool.false_eq_true, ↓reduceIte, false_and, and_false]
      exact Ev.now _
  · simp only [c, decide_false, Bool.false_eq_true, ↓reduceIte, false_and]
    exact Ev.now _
theorem impl_HashOf_ev (a b : Int) (s : ByteArray) (hs : s.size ≤ 9223372036854775807) : Ev (fun k => impl_HashOf.f k a b s) (hashedV a b s) := by
  unfold impl_HashOf.f hashedV
  simp only [impl_isSeed_eq, impl_in_eq, Option.bind_some]
  by_cases c : 0 ≤ a ∧ a ≤ 9999
  · by_cases c1 : 0 ≤ b ∧ b ≤ 9
    · simp only [c, c1, and_self, decide_true, ↓reduceIte, true_and]
      refine Ev.bind (impl_IsKey_ev s hs) ?_
      cases isKey s with
      | false => simp only [Bool.false_eq_true, ↓reduceIte]; exact Ev.now _
      | true =>
        simp only [↓reduceIte]
        exact Ev.bind (impl_hash_ev a b s hs c.1 c.2 c1.1 c1.2) (Ev.now _)
    · simp only [c, c1, and_self, decide_true, decide_false, Bool.false_eq_true, ↓reduceIte, false_and, and_false]
      exact Ev.now _
  · simp only [c, decide_false, Bool.false_eq_true, ↓reduceIte, false_and]
    exact Ev.now _
theorem spec_biSeed_eq (a b : Int) : spec_biSeed.f a b = some (decide ((0 ≤ a ∧ a ≤ 9999) ∧ 0 ≤ b ∧ b ≤ 9)) := by
  by_cases h : 0 ≤ a ∧ a ≤ 9999 <;> simp [spec_biSeed.f, spec_l1In_eq, h]
theorem spec_PlaceOf_ev (a b : Int) (s : ByteArray) (n : Int) (hs : s.size ≤ 9223372036854775807) : Ev (fun k => spec_PlaceOf.f k a b s n) (placedAt a b s n) := by
  unfold spec_PlaceOf.f placedAt
  simp only [spec_biSeed_eq, spec_l1In_eq, Option.bind_some]
  by_cases c : (0 ≤ a ∧ a ≤ 9999) ∧ 0 ≤ b ∧ b ≤ 9
  · simp only [c, and_self, decide_true, ↓reduceIte, true_and]
    refine Ev.bind (spec_IsKey_ev s hs) ?_
    cases isKey s with
    | false => simp only [Bool.false_eq_true, ↓reduceIte, false_and]; exact Ev.now _
    | true =>
      by_cases c2 : 1 ≤ n ∧ n ≤ 4096
      · simp only [c2, and_self, decide_true, ↓reduceIte]
        exact Ev.bind (spec_biPlace_ev a b s n hs c.1.1 c.1.2 c.2.1 c.2.2 (by omega) (by omega)) (Ev.now _)
      · simp only [c2, decide_false, Bool.false_eq_true, ↓reduceIte, and_false]
        exact Ev.now _
  · have c' : ¬ ((0 ≤ a ∧ a ≤ 9999) ∧ (0 ≤ b ∧ b ≤ 9) ∧ isKey s = true ∧ 1 ≤ n ∧ n ≤ 4096) := fun h => c ⟨h.1, h.2.1⟩
    simp only [c, c', decide_false, Bool.false_eq_true, ↓reduceIte]
    exact Ev.now _
theorem spec_HashOf_ev (a b : Int) (s : ByteArray) (hs : s.size ≤ 9223372036854775807) : Ev (fun k => spec_HashOf.f k a b s) (hashedV a b s) := by
  unfold spec_HashOf.f hashedV
  simp only [spec_biSeed_eq, Option.bind_some]
  by_cases c : (0 ≤ a ∧ a ≤ 9999) ∧ 0 ≤ b ∧ b ≤ 9
  · simp only [c, and_self, decide_true, ↓reduceIte, true_and]
    refine Ev.bind (spec_IsKey_ev s hs) ?_
    cases isKey s with
    | false => simp only [Bool.false_eq_true, ↓reduceIte]; exact Ev.now _
    | true =>
      simp only [↓reduceIte]
      exact Ev.bind (spec_biHash_ev a b s hs c.1.1 c.1.2 c.2.1 c.2.2) (Ev.now _)
  · have c' : ¬ ((0 ≤ a ∧ a ≤ 9999) ∧ (0 ≤ b ∧ b ≤ 9) ∧ isKey s = true) := fun h => c ⟨h.1, h.2.1⟩
    simp only [c, c', decide_false, Bool.false_eq_true, ↓reduceIte]
    exact Ev.now _
theorem place_mono {a b : Int} {s t : ByteArray} {n : Int} (hn : 0 ≤ n) (h : hashV a b s ≤ hashV a b t) : placeV a b s n ≤ placeV a b t n := by
  unfold placeV
  exact Int.ediv_le_ediv (by decide) (Int.mul_le_mul_of_nonneg_right h hn)
theorem FnPlacesOfHashes : laws_FnPlacesOfHashes.Pure := by
  intro l m hl0 _ hl hm0 _ hm
  refine Ev.rounds ?_
  have h0 : l.length ≤ 9223372036854775807 := by unfold maxLen at hl0; exact hl0
  have h1 : m.length ≤ 9223372036854775807 := by unfold maxLen at hm0; exact hm0
  unfold laws_FnPlacesOfHashes.f laws_big.f
  by_cases c : (l.length : Int) > 1048576
  · simp only [c, ↓reduceIte, Option.bind_some]
    exact Ev.now _
  have hw : wrap64 (1048576 - (l.length : Int)) = 1048576 - (l.length : Int) := w64 (by omega) (by omega)
  simp only [c, ↓reduceIte, Option.bind_some, hw]
  by_cases c1 : (m.length : Int) > 1048576 - (l.length : Int)
  · simp only [c1, decide_true, ↓reduceIte]
    exact Ev.now _
  simp only [c1, decide_false, Bool.false_eq_true, ↓reduceIte]
  obtain ⟨a, b, n, s, e, hs⟩ := DrawPlaceOf_ev (small_of (l := l) (by omega) hl)
  obtain ⟨a', b', n', t, e', ht⟩ := DrawPlaceOf_ev (small_of (l := m) (by omega) hm)
  refine Ev.bind e ?_
  refine Ev.bind (impl_PlaceOf_ev a b s n (by omega)) ?_
  refine Ev.bind (spec_PlaceOf_ev a b s n (by omega)) ?_
  simp only [bne_self_eq_false, Bool.false_eq_true, ↓reduceIte]
  refine Ev.succ ?_
  simp only [laws_FnPlacesOfHashes.j0, Bool.false_eq_true, ↓reduceIte]
  refine Ev.bind (impl_HashOf_ev a b s (by omega)) ?_
  refine Ev.bind (spec_HashOf_ev a b s (by omega)) ?_
  simp only [bne_self_eq_false, Bool.false_eq_true, ↓reduceIte]
  refine Ev.succ ?_
  simp only [laws_FnPlacesOfHashes.j1, Bool.false_eq_true, ↓reduceIte]
  by_cases g : (0 ≤ a ∧ a ≤ 9999) ∧ (0 ≤ b ∧ b ≤ 9) ∧ isKey s = true ∧ 1 ≤ n ∧ n ≤ 4096
  · have g1 : placedAt a b s n = (placeV a b s n, true) := by unfold placedAt; rw [if_pos g]
    have g2 : hashedV a b s = (hashV a b s, true) := by unfold hashedV; rw [if_pos ⟨g.1, g.2.1, g.2.2.1⟩]
    have hr := hash_range a b s
    have hp : wrap64 (Int.tdiv (wrap64 (hashV a b s * n)) 65521) = placeV a b s n := by
      have hm1 : hashV a b s * n ≤ 65520 * 4096 := Int.mul_le_mul (by omega) (by omega) (by omega) (by omega)
      have hm2 : 0 ≤ hashV a b s * n := Int.mul_nonneg hr.1 (by omega)
      rw [w64 (n := hashV a b s * n) (by omega) (by omega), tdiv_pos hm2, w64 (by omega) (by omega)]
      rfl
    have k1 : ¬ (hashV a b s < 0) := by omega
    have k2 : ¬ (hashV a b s ≥ 65521) := by omega
    simp only [g1, g2, ↓reduceIte]
    refine Ev.bind e' ?_
    refine Ev.bind (impl_PlaceOf_ev a b t n (by omega)) ?_
    refine Ev.bind (impl_HashOf_ev a b t (by omega)) ?_
    simp only [k1, k2, hp, ↓reduceIte]
    by_cases q : isKey t = true
    · have q1 : placedAt a b t n = (placeV a b t n, true) := by unfold placedAt; rw [if_pos ⟨g.1, g.2.1, q, g.2.2.2⟩]
      have q2 : hashedV a b t = (hashV a b t, true) := by unfold hashedV; rw [if_pos ⟨g.1, g.2.1, q⟩]
      simp only [q1, q2, bne_self_eq_false, Bool.false_eq_true, ↓reduceIte]
      rcases Int.lt_trichotomy (hashV a b t) (hashV a b s) with h | h | h
      · have hle := place_mono (a := a) (b := b) (s := t) (t := s) (n := n) (by omega) (by omega)
        simp only [h, hle, ↓reduceIte]
        exact Ev.now _
      · have h2 : ¬ (hashV a b t < hashV a b s) := by omega
        have h3 : ¬ (hashV a b t > hashV a b s) := by omega
        have h4 : placeV a b t n = placeV a b s n := by unfold placeV; rw [h]
        simp only [h2, h3, ↓reduceIte]
        simp only [h, h4, ↓reduceIte, beq_self_eq_true]
        exact Ev.now _
      · have h2 : ¬ (hashV a b t < hashV a b s) := by omega
        have h3 : hashV a b t > hashV a b s := by omega
        have hle : placeV a b t n ≥ placeV a b s n := place_mono (a := a) (b := b) (s := s) (t := t) (n := n) (by omega) (by omega)
        simp only [h2, h3, hle, ↓reduceIte]
        exact Ev.now _
    · have q1 : placedAt a b t n = (0, false) := by unfold placedAt; rw [if_neg (fun h => q h.2.2.1)]
      have q2 : hashedV a b t = (0, false) := by unfold hashedV; rw [if_neg (fun h => q h.2.2)]
      simp only [q1, q2, bne_self_eq_false, Bool.false_eq_true, ↓reduceIte]
      exact Ev.now _
  · have g1 : placedAt a b s n = (0, false) := by unfold placedAt; rw [if_neg g]
    simp only [g1, Bool.false_eq_true, ↓reduceIte]
    exact Ev.now _

end Go.Proofs.Ytdjpegkogfeofaa.Pure
