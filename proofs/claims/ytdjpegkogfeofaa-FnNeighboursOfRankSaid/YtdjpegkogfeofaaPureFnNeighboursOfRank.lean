/- The next and the last bit that is on are told by rank and select. -/
import Derived.Test.YtdjpegkogfeofaaPFnNeighboursOfRankx11
import Derived.Test.YtdjpegkogfeofaaTBase
namespace Go.Proofs.Ytdjpegkogfeofaa.Pure
open Go.RowKit Go.Proofs.Ytdjpegkogfeofaa.PFnNeighboursOfRank Go.Proofs.YtdjpegkogfeofaaW.PrintWords Go.Proofs.YtdjpegkogfeofaaW.PrintLast Go.Proofs.Ytdjpegkogfeofaa.Base Go.Proofs.Ytdjpegkogfeofaa.Base Go.Proofs.Ytdjpegkogfeofaa.Base Go.Proofs.Ytdjpegkogfeofaa.Base Go.Proofs.Ytdjpegkogfeofaa.Base Go.Proofs.Ytdjpegkogfeofaa.Base Go.Proofs.Ytdjpegkogfeofaa.Base
set_option linter.unusedVariables false
set_option linter.unusedSimpArgs false

theorem and255 (x : Int) : 0 ≤ Go.bits .and .u64 x 255 ∧ Go.bits .and .u64 x 255 ≤ 255 := by
  have e : Go.bits .and .u64 x 255 = IntKind.u64.wrap ((((BitVec.ofInt 64 x) &&& (BitVec.ofInt 64 255)).toNat : Nat) : Int) := rfl
  have h1 : ((BitVec.ofInt 64 x) &&& (BitVec.ofInt 64 255)).toNat ≤ 255 := by
    rw [BitVec.toNat_and]
    exact Nat.le_trans Nat.and_le_right (by decide)
  generalize ((BitVec.ofInt 64 x) &&& (BitVec.ofInt 64 255)).toNat = n at *
  have e2 : IntKind.u64.wrap (n : Int) = (n : Int) := by
    simp only [IntKind.wrap_u64]
    omega
  rw [e, e2]
  omega
def small (l : List Int) : Prop := l.length ≤ 1048576 ∧ ∀ x ∈ l, 0 ≤ x ∧ x ≤ 255
theorem small_rd {l : List Int} (h : small l) (i : Int) : 0 ≤ rd l i ∧ rd l i ≤ 255 := by
  unfold rd
  rw [List.getD_eq_getElem?_getD]
  cases e : l[i.toNat]? with
  | none => simp
  | some x => simpa using h.2 x (List.mem_of_getElem? e)
/-- A draw: at whatever place up to a bound, it gives something right, and goes on by so many places at the most. -/
def Draw {α : Type} (g : Int → Int → Option (α × Int × Int)) (m : Int) (P : α → Prop) : Prop := ∀ a s : Int, 0 ≤ a → a + m ≤ 4000000000000000000 → ∃ r a' s', g a s = some (r, a', s') ∧ P r ∧ a ≤ a' ∧ a' ≤ a + m
def DrawEv {α : Type} (g : Nat → Int → Int → Option (α × Int × Int)) (m : Int) (P : α → Prop) : Prop := ∀ a s : Int, 0 ≤ a → a + m ≤ 4000000000000000000 → ∃ r a' s', Ev (fun k => g k a s) (r, a', s') ∧ P r ∧ a ≤ a' ∧ a' ≤ a + m
theorem next_draw {l : List Int} (h : small l) : Draw (spec_l1Cur_next.f l) 1 (fun r => 0 ≤ r ∧ r ≤ 255) := by
  intro a s h0 h1
  have hr := small_rd h a
  have hl := h.1
  have w1 : wrap64 (rd l a) = rd l a := w64 (by omega) (by omega)
  have w2 : wrap64 (a + 1) = a + 1 := w64 (by omega) (by omega)
  unfold spec_l1Cur_next.f
  rw [w1, w2]
  by_cases c : a < (l.length : Int)
  · have c2 : a + 1 ≤ (l.length : Int) := by omega
    simp only [c, h0, c2, ↓reduceIte]
    exact ⟨_, _, _, rfl, hr, by omega, by omega⟩
  · have c2 : ¬ (a + 1 ≤ (l.length : Int)) := by omega
    simp only [c, c2, ↓reduceIte]
    have h2 := and255 (IntKind.u64.wrap (IntKind.u64.wrap (IntKind.u64.wrap (s * 6364136223846793005)) + 1442695040888963407) / 1099511627776)
    rw [w64 (n := Go.bits .and .u64 _ 255) (by omega) (by omega)]
    exact ⟨_, _, _, rfl, h2, by omega, by omega⟩
theorem pick_draw {l : List Int} (h : small l) (n : Int) (hn : n ≤ 1000000) : Draw (fun a s => spec_l1Cur_pick.f l a s n) 2 (fun r => 0 ≤ r ∧ (r < n ∨ r = 0)) := by
  intro a s h0 h1
  simp only [spec_l1Cur_pick.f]
  by_cases c : n ≤ 1
  · simp only [c, ↓reduceIte]
    exact ⟨_, _, _, rfl, by omega, by omega, by omega⟩
  · obtain ⟨r, a', s', e, hr, ha, ha'⟩ := next_draw h a s h0 (by omega)
    have hn0 : ¬ (n = 0) := by omega
    simp only [c, ↓reduceIte, e, Option.bind_some, hn0]
    by_cases c2 : n > 200
    · obtain ⟨r2, a2, s2, e2, hr2, ha2, ha2'⟩ := next_draw h a' s' (by omega) (by omega)
      simp only [c2, ↓reduceIte, e2, Option.bind_some]
      refine ⟨_, _, _, rfl, ?_, by omega, by omega⟩
      rw [w64 (n := r * 256) (by omega) (by omega), w64 (n := r * 256 + r2) (by omega) (by omega), tmod_pos (by omega)]
      exact ⟨Int.emod_nonneg _ (by omega), .inl (Int.emod_lt_of_pos _ (by omega))⟩
    · simp only [c2, ↓reduceIte]
      refine ⟨_, _, _, rfl, ?_, by omega, by omega⟩
      rw [tmod_pos hr.1]
      exact ⟨Int.emod_nonneg _ (by omega), .inl (Int.emod_lt_of_pos _ (by omega))⟩
theorem among_draw {l : List Int} (h : small l) (xs : List Int) (hx : 0 < xs.length) (hx2 : xs.length ≤ 1000) : Draw (fun a s => spec_l1Cur_among.f l a s xs) 2 (fun r => r ∈ xs) := by
  intro a s h0 h1
  obtain ⟨r, a', s', e, hr, ha, ha'⟩ := pick_draw h (xs.length : Int) (by omega) a s h0 h1
  have c : r < (xs.length : Int) := by omega
  obtain ⟨n, rfl⟩ := Int.eq_ofNat_of_zero_le hr.1
  simp only [spec_l1Cur_among.f, e, Option.bind_some, hr.1, c, ↓reduceIte]
  refine ⟨_, _, _, rfl, ?_, ha, ha'⟩
  rw [rd_nat xs n (by omega)]
  exact List.getElem_mem _
theorem one_draw {l : List Int} (h : small l) (n : Int) (hn : n ≤ 1000000) : Draw (fun a s => spec_l1Cur_one.f l a s n) 2 (fun _ => True) := by
  intro a s h0 h1
  obtain ⟨r, a', s', e, hr, ha, ha'⟩ := pick_draw h n hn a s h0 h1
  simp only [spec_l1Cur_one.f, e, Option.bind_some]
  exact ⟨_, _, _, rfl, trivial, ha, ha'⟩
theorem strOfNums_size (l : List Int) : (strOfNums l).size = l.length := by simp [strOfNums, ByteArray.size]
theorem small_of {l : List Int} (h1 : l.length ≤ 1048576) (h2 : ∀ x ∈ l, (Lit.int .u8 x).wf = true) : small l := by
  refine ⟨h1, fun x hx => ?_⟩
  have := h2 x hx
  simpa [Lit.wf, IntKind.min, IntKind.max, IntKind.signed, IntKind.bits] using this
theorem spec_l1In_eq (a b c : Int) : spec_l1In.f a b c = some (decide (b ≤ a ∧ a ≤ c)) := by
  unfold spec_l1In.f
  by_cases h : b ≤ a <;> simp [h]
theorem impl_in_eq (a b c : Int) : impl_in.f a b c = some (decide (b ≤ a ∧ a ≤ c)) := by
  unfold impl_in.f
  by_cases h : b ≤ a <;> simp [h]
theorem impl_words_eq (n : Int) (h0 : 0 ≤ n) (h1 : n ≤ 1000000) : impl_words.f n = some ((n + 15) / 16) := by
  unfold impl_words.f
  rw [w64 (n := n + 16) (by omega) (by omega), w64 (n := n + 16 - 1) (by omega) (by omega), tdiv_pos (by omega), w64 (by omega) (by omega), show n + 16 - 1 = n + 15 from by omega]
theorem spec_l1All_ev (l : List Int) (a b : Int) (hl : l.length ≤ 9223372036854775807) : Ev (fun k => spec_l1All.f k l a b) (l.all (inB a b)) := by
  have h := Ev.up (L := fun k i => spec_l1All.l0 k a b l (l.length : Int) (i : Int)) (r := fun i => (l.drop i).all (inB a b)) l.length ?_ ?_ 0 (Nat.zero_le _)
  · exact h
  · refine Ev.succ ?_
    have h1 : ¬ ((l.length : Int) < (l.length : Int)) := by omega
    simp only [spec_l1All.l0, h1, ↓reduceIte]
    exact Ev.some_ (by simp)
  · intro i hi ih
    refine Ev.succ ?_
    have h1 : (i : Int) < (l.length : Int) := by omega
    have h2 : (0 : Int) ≤ (i : Int) := by omega
    have hw : wrap64 ((i : Int) + 1) = ((i + 1 : Nat) : Int) := by rw [w64 (by omega) (by omega)]; rfl
    simp only [spec_l1All.l0, h1, h2, ↓reduceIte, hw, spec_l1In_eq, Option.bind_some]
    rw [drop_cons _ _ hi, List.all_cons, ← rd_nat _ _ hi]
    by_cases c : a ≤ rd l (i : Int) ∧ rd l (i : Int) ≤ b
    · have c2 : inB a b (rd l (i : Int)) = true := by simp [inB, c]
      simp only [c, and_self, decide_true, ↓reduceIte, c2, Bool.true_and]
      exact ih
    · have c2 : inB a b (rd l (i : Int)) = false := by simp [inB]; omega
      simp only [c, decide_false, Bool.false_eq_true, ↓reduceIte, c2, Bool.false_and]
      exact Ev.now _
theorem impl_IsBits_l0 (n : Int) (l : List Int) (hn0 : 0 ≤ n) (hn1 : n ≤ 4096) (hl : (l.length : Int) = (n + 15) / 16) : Ev (fun k => impl_IsBits.l0 k l (l.length : Int) 0 n l) (l.all (inB 0 65535) && lastOk n l) := by
  have h := Ev.up (L := fun k i => impl_IsBits.l0 k l (l.length : Int) (i : Int) n l) (r := fun i => (l.drop i).all (inB 0 65535) && lastOk n l) l.length ?_ ?_ 0 (Nat.zero_le _)
  · exact h
  · refine Ev.succ ?_
    have h1 : ¬ ((l.length : Int) < (l.length : Int)) := by omega
    simp only [impl_IsBits.l0, h1, ↓reduceIte, List.drop_length, List.all_nil, Bool.true_and, lastOk, tmod_pos hn0]
    by_cases h2 : n % 16 = 0
    · simp only [h2, ↓reduceIte, decide_true, Bool.true_or]
      exact Ev.now _
    · have e2 : wrap64 ((l.length : Int) - 1) = (l.length : Int) - 1 := w64 (by omega) (by omega)
      simp only [h2, ↓reduceIte, decide_false, Bool.false_or, e2, show 0 ≤ (l.length : Int) - 1 from by omega, show (l.length : Int) - 1 < (l.length : Int) from by omega, show 0 ≤ n % 16 from by omega]
      exact Ev.now _
  · intro i hi ih
    refine Ev.succ ?_
    have h1 : (i : Int) < (l.length : Int) := by omega
    have h2 : (0 : Int) ≤ (i : Int) := by omega
    have hw : wrap64 ((i : Int) + 1) = ((i + 1 : Nat) : Int) := by rw [w64 (by omega) (by omega)]; rfl
    simp only [impl_IsBits.l0, h1, h2, ↓reduceIte, hw, impl_in_eq, Option.bind_some]
    rw [drop_cons _ _ hi, List.all_cons, ← rd_nat _ _ hi]
    by_cases c : 0 ≤ rd l (i : Int) ∧ rd l (i : Int) ≤ 65535
    · have c2 : inB 0 65535 (rd l (i : Int)) = true := by simp [inB, c]
      simp only [c, and_self, decide_true, ↓reduceIte, c2, Bool.true_and]
      exact ih
    · have c2 : inB 0 65535 (rd l (i : Int)) = false := by simp [inB]; omega
      simp only [c, decide_false, Bool.false_eq_true, ↓reduceIte, c2, Bool.false_and]
      exact Ev.now _
theorem impl_IsBits_ev (n : Int) (l : List Int) (hl : l.length ≤ 9223372036854775807) : Ev (fun k => impl_IsBits.f k n l) (goodBits n l) := by
  unfold goodBits
  by_cases h0 : 0 ≤ n ∧ n ≤ 4096
  · have e0 : inB 0 4096 n = true := by simp [inB, h0]
    simp only [impl_IsBits.f, impl_in_eq, h0, and_self, decide_true, Option.bind_some, ↓reduceIte, e0, Bool.true_and, impl_words_eq n h0.1 (by omega)]
    refine Ev.succ ?_
    by_cases h1 : (l.length : Int) = (n + 15) / 16
    · simp only [impl_IsBits.j0, h1, bne_self_eq_false, Bool.false_eq_true, ↓reduceIte, decide_true, Bool.true_and]
      rw [← h1]
      exact impl_IsBits_l0 n l h0.1 h0.2 h1
    · have e2 : ((l.length : Int) != (n + 15) / 16) = true := by simp [h1]
      simp only [impl_IsBits.j0, e2, ↓reduceIte, h1, decide_false, Bool.false_and]
      exact Ev.now _
  · have e0 : inB 0 4096 n = false := by simp [inB]; omega
    simp only [impl_IsBits.f, impl_in_eq, h0, decide_false, Option.bind_some, ↓reduceIte, e0, Bool.false_and, Bool.false_eq_true]
    refine Ev.succ ?_
    simp only [impl_IsBits.j0, ↓reduceIte]
    exact Ev.now _
theorem spec_biGood_ev (n : Int) (l : List Int) (hl : l.length ≤ 9223372036854775807) : Ev (fun k => spec_biGood.f k n l) (goodBits n l) := by
  unfold goodBits
  by_cases h0 : 0 ≤ n ∧ n ≤ 4096
  · have e0 : inB 0 4096 n = true := by simp [inB, h0]
    have e1 : wrap64 (Int.tdiv (wrap64 (n + 15)) 16) = (n + 15) / 16 := by rw [w64 (n := n + 15) (by omega) (by omega), tdiv_pos (by omega), w64 (by omega) (by omega)]
    simp only [spec_biGood.f, spec_l1In_eq, h0, and_self, decide_true, Option.bind_some, ↓reduceIte, e0, e1, Bool.true_and]
    by_cases h1 : (l.length : Int) = (n + 15) / 16
    · simp only [h1, ↓reduceIte, decide_true, Bool.true_and]
      refine Ev.bind (spec_l1All_ev l 0 65535 hl) ?_
      cases l.all (inB 0 65535) with
      | false =>
        simp only [Bool.false_eq_true, ↓reduceIte, Bool.false_and]
        exact Ev.now _
      | true =>
        simp only [↓reduceIte, Bool.true_and, lastOk, tmod_pos h0.1, h1]
        by_cases h2 : n % 16 = 0
        · simp only [h2, ↓reduceIte, decide_true, Bool.true_or]
          exact Ev.now _
        · have e2 : wrap64 ((n + 15) / 16 - 1) = (n + 15) / 16 - 1 := w64 (by omega) (by omega)
          simp only [h2, ↓reduceIte, decide_false, Bool.false_or, e2, show 0 ≤ (n + 15) / 16 - 1 from by omega, show (n + 15) / 16 - 1 < (n + 15) / 16 from by omega, show 0 ≤ n % 16 from by omega]
          exact Ev.now _
    · simp only [h1, ↓reduceIte, decide_false, Bool.false_and]
      exact Ev.now _
  · have e0 : inB 0 4096 n = false := by simp [inB]; omega
    simp only [spec_biGood.f, spec_l1In_eq, h0, decide_false, Option.bind_some, ↓reduceIte, e0, Bool.false_and, Bool.false_eq_true]
    exact Ev.now _

/-- The bit at a place. -/
def bitW (l : List Int) (i : Nat) : Bool := Go.bits .and .i64 (shr .i64 (rd l ((i / 16 : Nat) : Int)) ((i % 16 : Nat) : Int)) 1 == 1
/-- How many of the places i, i + 1, .. hold. -/
def cntV (f : Nat → Bool) : Nat → Nat → Nat
  | _, 0 => 0
  | i, d + 1 => (if f i = true then 1 else 0) + cntV f (i + 1) d
theorem cntV_le (f : Nat → Bool) (d : Nat) : ∀ i, cntV f i d ≤ d := by
  induction d with
  | zero => intro i; exact Nat.le_refl _
  | succ d ih =>
    intro i
    have := ih (i + 1)
    unfold cntV
    by_cases c : f i = true
    · rw [if_pos c]; omega
    · rw [if_neg c]; omega
theorem cntV_add (f : Nat → Bool) (d : Nat) : ∀ i e, cntV f i (d + e) = cntV f i d + cntV f (i + d) e := by
  induction d with
  | zero => intro i e; rw [Nat.zero_add, Nat.add_zero, cntV, Nat.zero_add]
  | succ d ih =>
    intro i e
    have h := ih (i + 1) e
    rw [show d + 1 + e = (d + e) + 1 from by omega, cntV, cntV, h, show i + (d + 1) = i + 1 + d from by omega]
    omega
theorem spec_biAt_w (n : Int) (l : List Int) (i : Nat) (hi : i / 16 < l.length) (hi2 : i ≤ 1000000) : spec_biAt.f n l (i : Int) = some (bitW l i) := by
  unfold spec_biAt.f
  have e1 : Int.tdiv (i : Int) 16 = ((i / 16 : Nat) : Int) := by rw [tdiv_pos (by omega)]; rfl
  have e2 : Int.tmod (i : Int) 16 = ((i % 16 : Nat) : Int) := by rw [tmod_pos (by omega)]; rfl
  rw [e1, e2, w64 (n := ((i / 16 : Nat) : Int)) (by omega) (by omega), if_pos (by omega), if_pos (by omega), if_pos (by omega)]
  rfl
theorem impl_Bits_at_in38_0_w (n : Int) (l : List Int) (i : Nat) (hi : i / 16 < l.length) (hi2 : i ≤ 1000000) : impl_Bits_at_in38_0.f n l (i : Int) = some (bitW l i) := by
  unfold impl_Bits_at_in38_0.f
  have e1 : Int.tdiv (i : Int) 16 = ((i / 16 : Nat) : Int) := by rw [tdiv_pos (by omega)]; rfl
  have e2 : Int.tmod (i : Int) 16 = ((i % 16 : Nat) : Int) := by rw [tmod_pos (by omega)]; rfl
  rw [e1, e2, w64 (n := ((i / 16 : Nat) : Int)) (by omega) (by omega), if_pos (by omega), if_pos (by omega), if_pos (by omega)]
  rfl
theorem impl_Bits_at_in40_0_w (n : Int) (l : List Int) (su bl : List Int) (i : Nat) (hi : i / 16 < l.length) (hi2 : i ≤ 1000000) : impl_Bits_at_in40_0.f n l su bl (i : Int) = some (bitW l i) := by
  unfold impl_Bits_at_in40_0.f
  have e1 : Int.tdiv (i : Int) 16 = ((i / 16 : Nat) : Int) := by rw [tdiv_pos (by omega)]; rfl
  have e2 : Int.tmod (i : Int) 16 = ((i % 16 : Nat) : Int) := by rw [tmod_pos (by omega)]; rfl
  rw [e1, e2, w64 (n := ((i / 16 : Nat) : Int)) (by omega) (by omega), if_pos (by omega), if_pos (by omega), if_pos (by omega)]
  rfl
theorem spec_biCount_l0 (n : Int) (l : List Int) (q : Nat) (hl : q ≤ 16 * l.length) (hh : q ≤ 100000) (d : Nat) : ∀ (i a : Nat), i + d = q → a + d ≤ 1000000 → Ev (fun k => spec_biCount.l0 k (q : Int) (a : Int) (i : Int) n l) ((a + cntV (bitW l) i d : Nat) : Int) := by
  induction d with
  | zero =>
    intro i a hi ha
    refine Ev.succ ?_
    have h1 : ¬ ((i : Int) < (q : Int)) := by omega
    simp only [spec_biCount.l0, h1, ↓reduceIte, cntV, Nat.add_zero]
    exact Ev.now _
  | succ d ih =>
    intro i a hi ha
    refine Ev.succ ?_
    have h1 : (i : Int) < (q : Int) := by omega
    have hw : wrap64 ((i : Int) + 1) = ((i + 1 : Nat) : Int) := by rw [w64 (by omega) (by omega)]; rfl
    have hwa : wrap64 ((a : Int) + 1) = ((a + 1 : Nat) : Int) := by rw [w64 (by omega) (by omega)]; rfl
    simp only [spec_biCount.l0, h1, ↓reduceIte, spec_biAt_w n l i (by omega) (by omega), Option.bind_some, hw, hwa]
    cases e : bitW l i with
    | false =>
      have h := ih (i + 1) a (by omega) (by omega)
      have e2 : a + cntV (bitW l) i (d + 1) = a + cntV (bitW l) (i + 1) d := by simp [cntV, e]
      rw [e2]
      simp only [Bool.false_eq_true, ↓reduceIte]
      exact h
    | true =>
      have h := ih (i + 1) (a + 1) (by omega) (by omega)
      have e2 : a + cntV (bitW l) i (d + 1) = a + 1 + cntV (bitW l) (i + 1) d := by simp only [cntV, e, ↓reduceIte]; omega
      rw [e2]
      simp only [↓reduceIte]
      exact h
theorem spec_biCount_ev (n : Int) (l : List Int) (p q : Nat) (hp : p ≤ q) (hl : q ≤ 16 * l.length) (hh : q ≤ 100000) : Ev (fun k => spec_biCount.f k n l (p : Int) (q : Int)) ((cntV (bitW l) p (q - p) : Nat) : Int) := by
  have h := spec_biCount_l0 n l q hl hh (q - p) p 0 (by omega) (by omega)
  rw [Nat.zero_add] at h
  exact h
theorem impl_Bits_count_in38_0_l0 (n : Int) (l : List Int) (q : Nat) (hl : q ≤ 16 * l.length) (hh : q ≤ 100000) (d : Nat) : ∀ (i a : Nat), i + d = q → a + d ≤ 1000000 → Ev (fun k => impl_Bits_count_in38_0.l0 k (q : Int) (a : Int) (i : Int) n l) ((a + cntV (bitW l) i d : Nat) : Int) := by
  induction d with
  | zero =>
    intro i a hi ha
    refine Ev.succ ?_
    have h1 : ¬ ((i : Int) < (q : Int)) := by omega
    simp only [impl_Bits_count_in38_0.l0, h1, ↓reduceIte, cntV, Nat.add_zero]
    exact Ev.now _
  | succ d ih =>
    intro i a hi ha
    refine Ev.succ ?_
    have h1 : (i : Int) < (q : Int) := by omega
    have hw : wrap64 ((i : Int) + 1) = ((i + 1 : Nat) : Int) := by rw [w64 (by omega) (by omega)]; rfl
    have hwa : wrap64 ((a : Int) + 1) = ((a + 1 : Nat) : Int) := by rw [w64 (by omega) (by omega)]; rfl
    simp only [impl_Bits_count_in38_0.l0, h1, ↓reduceIte, impl_Bits_at_in38_0_w n l i (by omega) (by omega), Option.bind_some, hw, hwa]
    cases e : bitW l i with
    | false =>
      have h := ih (i + 1) a (by omega) (by omega)
      have e2 : a + cntV (bitW l) i (d + 1) = a + cntV (bitW l) (i + 1) d := by simp [cntV, e]
      rw [e2]
      simp only [Bool.false_eq_true, ↓reduceIte]
      exact h
    | true =>
      have h := ih (i + 1) (a + 1) (by omega) (by omega)
      have e2 : a + cntV (bitW l) i (d + 1) = a + 1 + cntV (bitW l) (i + 1) d := by simp only [cntV, e, ↓reduceIte]; omega
      rw [e2]
      simp only [↓reduceIte]
      exact h
theorem impl_Bits_count_in38_0_ev (n : Int) (l : List Int) (p q : Nat) (hp : p ≤ q) (hl : q ≤ 16 * l.length) (hh : q ≤ 100000) : Ev (fun k => impl_Bits_count_in38_0.f k n l (p : Int) (q : Int)) ((cntV (bitW l) p (q - p) : Nat) : Int) := by
  have h := impl_Bits_count_in38_0_l0 n l q hl hh (q - p) p 0 (by omega) (by omega)
  rw [Nat.zero_add] at h
  exact h
theorem impl_Bits_count_in40_0_l0 (n : Int) (l : List Int) (su bl : List Int) (q : Nat) (hl : q ≤ 16 * l.length) (hh : q ≤ 100000) (d : Nat) : ∀ (i a : Nat), i + d = q → a + d ≤ 1000000 → Ev (fun k => impl_Bits_count_in40_0.l0 k (q : Int) (a : Int) (i : Int) n l su bl) ((a + cntV (bitW l) i d : Nat) : Int) := by
  induction d with
  | zero =>
    intro i a hi ha
    refine Ev.succ ?_
    have h1 : ¬ ((i : Int) < (q : Int)) := by omega
    simp only [impl_Bits_count_in40_0.l0, h1, ↓reduceIte, cntV, Nat.add_zero]
    exact Ev.now _
  | succ d ih =>
    intro i a hi ha
    refine Ev.succ ?_
    have h1 : (i : Int) < (q : Int) := by omega
    have hw : wrap64 ((i : Int) + 1) = ((i + 1 : Nat) : Int) := by rw [w64 (by omega) (by omega)]; rfl
    have hwa : wrap64 ((a : Int) + 1) = ((a + 1 : Nat) : Int) := by rw [w64 (by omega) (by omega)]; rfl
    simp only [impl_Bits_count_in40_0.l0, h1, ↓reduceIte, impl_Bits_at_in40_0_w n l su bl i (by omega) (by omega), Option.bind_some, hw, hwa]
    cases e : bitW l i with
    | false =>
      have h := ih (i + 1) a (by omega) (by omega)
      have e2 : a + cntV (bitW l) i (d + 1) = a + cntV (bitW l) (i + 1) d := by simp [cntV, e]
      rw [e2]
      simp only [Bool.false_eq_true, ↓reduceIte]
      exact h
    | true =>
      have h := ih (i + 1) (a + 1) (by omega) (by omega)
      have e2 : a + cntV (bitW l) i (d + 1) = a + 1 + cntV (bitW l) (i + 1) d := by simp only [cntV, e, ↓reduceIte]; omega
      rw [e2]
      simp only [↓reduceIte]
      exact h
theorem impl_Bits_count_in40_0_ev (n : Int) (l : List Int) (su bl : List Int) (p q : Nat) (hp : p ≤ q) (hl : q ≤ 16 * l.length) (hh : q ≤ 100000) : Ev (fun k => impl_Bits_count_in40_0.f k n l su bl (p : Int) (q : Int)) ((cntV (bitW l) p (q - p) : Nat) : Int) := by
  have h := impl_Bits_count_in40_0_l0 n l su bl q hl hh (q - p) p 0 (by omega) (by omega)
  rw [Nat.zero_add] at h
  exact h
theorem slices_Equal_int_int_ev (l m : List Int) (hb : l.length ≤ 1000000) : Ev (fun k => slices_Equal_int_int.f k l m) (decide (l = m)) := by
  unfold slices_Equal_int_int.f
  by_cases c : (l.length : Int) = (m.length : Int)
  · simp only [if_pos c]
    have hm : l.length = m.length := by omega
    have h := Ev.up (L := fun k i => slices_Equal_int_int.l0 k l m (l.length : Int) (i : Int)) (r := fun i => decide (l.drop i = m.drop i)) l.length ?_ ?_ 0 (Nat.zero_le _)
    · exact h
    · refine Ev.succ ?_
      have h1 : ¬ ((l.length : Int) < (l.length : Int)) := by omega
      simp only [slices_Equal_int_int.l0, h1, ↓reduceIte]
      exact Ev.some_ (by rw [List.drop_length, hm, List.drop_length]; rfl)
    · intro i hi ih
      refine Ev.succ ?_
      have h1 : (i : Int) < (l.length : Int) := by omega
      have h2 : (0 : Int) ≤ (i : Int) := by omega
      have h3 : (i : Int) < (m.length : Int) := by omega
      have hw : wrap64 ((i : Int) + 1) = ((i + 1 : Nat) : Int) := by rw [w64 (by omega) (by omega)]; rfl
      simp only [slices_Equal_int_int.l0, h1, h2, h3, ↓reduceIte, hw]
      rw [drop_cons l i hi, drop_cons m i (by omega)]
      by_cases c2 : rd l (i : Int) = rd m (i : Int)
      · rw [rd_nat l i hi, rd_nat m i (by omega)] at c2
        rw [rd_nat l i hi, rd_nat m i (by omega)]
        simp only [c2, ↓reduceIte, List.cons.injEq, true_and]
        exact ih
      · have c3 := c2
        rw [rd_nat l i hi, rd_nat m i (by omega)] at c3
        simp only [c2, ↓reduceIte, List.cons.injEq, c3, false_and, decide_false]
        exact Ev.now _
  · simp only [if_neg c]
    exact Ev.some_ (by symm; rw [decide_eq_false_iff_not]; intro e; exact c (by rw [e]))
theorem spec_l1Same_ev (l m : List Int) (hb : l.length ≤ 1000000) : Ev (fun k => spec_l1Same.f k l m) (decide (l = m)) := by
  unfold spec_l1Same.f
  by_cases c : (l.length : Int) = (m.length : Int)
  · simp only [if_pos c]
    have hm : l.length = m.length := by omega
    have h := Ev.up (L := fun k i => spec_l1Same.l0 k l m (l.length : Int) (i : Int)) (r := fun i => decide (l.drop i = m.drop i)) l.length ?_ ?_ 0 (Nat.zero_le _)
    · exact h
    · refine Ev.succ ?_
      have h1 : ¬ ((l.length : Int) < (l.length : Int)) := by omega
      simp only [spec_l1Same.l0, h1, ↓reduceIte]
      exact Ev.some_ (by rw [List.drop_length, hm, List.drop_length]; rfl)
    · intro i hi ih
      refine Ev.succ ?_
      have h1 : (i : Int) < (l.length : Int) := by omega
      have h2 : (0 : Int) ≤ (i : Int) := by omega
      have h3 : (i : Int) < (m.length : Int) := by omega
      have hw : wrap64 ((i : Int) + 1) = ((i + 1 : Nat) : Int) := by rw [w64 (by omega) (by omega)]; rfl
      simp only [spec_l1Same.l0, h1, h2, h3, ↓reduceIte, hw]
      rw [drop_cons l i hi, drop_cons m i (by omega)]
      by_cases c2 : rd l (i : Int) = rd m (i : Int)
      · rw [rd_nat l i hi, rd_nat m i (by omega)] at c2
        rw [rd_nat l i hi, rd_nat m i (by omega)]
        simp only [c2, ↓reduceIte, List.cons.injEq, true_and]
        exact ih
      · have c3 := c2
        rw [rd_nat l i hi, rd_nat m i (by omega)] at c3
        simp only [c2, ↓reduceIte, List.cons.injEq, c3, false_and, decide_false]
        exact Ev.now _
  · simp only [if_neg c]
    exact Ev.some_ (by symm; rw [decide_eq_false_iff_not]; intro e; exact c (by rw [e]))
def supsV (f : Nat → Bool) : Nat → Nat → List Int
  | _, 0 => []
  | j, d + 1 => (if j % 4 = 0 then [((cntV f 0 (16 * j) : Nat) : Int)] else []) ++ supsV f (j + 1) d
def blksV (f : Nat → Bool) : Nat → Nat → List Int
  | _, 0 => []
  | j, d + 1 => ((cntV f (64 * (j / 4)) (16 * j - 64 * (j / 4)) : Nat) : Int) :: blksV f (j + 1) d
theorem supsV_length (f : Nat → Bool) (d : Nat) : ∀ j, (supsV f j d).length ≤ d := by
  induction d with
  | zero => intro j; exact Nat.le_refl _
  | succ d ih =>
    intro j
    have := ih (j + 1)
    unfold supsV
    rw [List.length_append]
    by_cases c : j % 4 = 0
    · rw [if_pos c, List.length_singleton]; omega
    · rw [if_neg c, List.length_nil]; omega
theorem blksV_length (f : Nat → Bool) (d : Nat) : ∀ j, (blksV f j d).length = d := by
  induction d with
  | zero => intro j; rfl
  | succ d ih => intro j; rw [blksV, List.length_cons, ih]
theorem mod64 (j : Nat) : Int.tmod ((16 * j : Nat) : Int) 64 = 0 ↔ j % 4 = 0 := by
  rw [tmod_pos (by omega)]
  omega
theorem spec_raOf_l0 (n : Int) (l : List Int) (hn : 0 ≤ n) (hl : (l.length : Int) = (n + 15) / 16) (hb : l.length ≤ 1000) (r0 : Int) (r1 : List Int) (d : Nat) :
    ∀ (j : Nat) (su bl : List Int), j + d = l.length → su.length + d ≤ 100000 → bl.length + d ≤ 100000 → Ev (fun k => spec_raOf.l0 k ((16 * j : Nat) : Int) n l r0 r1 su bl) (r0, r1, su ++ supsV (bitW l) j d, bl ++ blksV (bitW l) j d) := by
  induction d with
  | zero =>
    intro j su bl hj hs hb
    refine Ev.succ ?_
    have h1 : ¬ (((16 * j : Nat) : Int) < n) := by omega
    simp only [spec_raOf.l0, h1, ↓reduceIte, supsV, blksV, List.append_nil]
    exact Ev.now _
  | succ d ih =>
    intro j su bl hj hs hbl
    refine Ev.succ ?_
    have h1 : ((16 * j : Nat) : Int) < n := by omega
    have hw : wrap64 (((16 * j : Nat) : Int) + 16) = ((16 * (j + 1) : Nat) : Int) := by rw [w64 (by omega) (by omega)]; omega
    have hd : wrap64 ((wrap64 (Int.tdiv ((16 * j : Nat) : Int) 64)) * 64) = ((64 * (j / 4) : Nat) : Int) := by
      rw [tdiv_pos (by omega), w64 (n := ((16 * j : Nat) : Int) / 64) (by omega) (by omega), w64 (by omega) (by omega)]
      omega
    have hsl : su.length < 17592186044416 := by omega
    have hbll : bl.length < 17592186044416 := by omega
    have c2 := spec_biCount_ev n l (64 * (j / 4)) (16 * j) (by omega) (by omega) (by omega)
    by_cases c : j % 4 = 0
    · have c0 := (mod64 j).2 c
      have c1 : Ev (fun k => spec_biCount.f k n l 0 ((16 * j : Nat) : Int)) _ := spec_biCount_ev n l 0 (16 * j) (by omega) (by omega) (by omega)
      simp only [spec_raOf.l0, h1, ↓reduceIte, c0, hw, hd, hsl, hbll]
      refine Ev.bind c1 (Ev.bind c2 ?_)
      have h := ih (j + 1) (su ++ [((cntV (bitW l) 0 (16 * j) : Nat) : Int)]) (bl ++ [((cntV (bitW l) (64 * (j / 4)) (16 * j - 64 * (j / 4)) : Nat) : Int)]) (by omega) (by rw [List.length_append, List.length_singleton]; omega) (by rw [List.length_append, List.length_singleton]; omega)
      rw [supsV, blksV, if_pos c]
      simp only [List.append_assoc, List.singleton_append] at h
      exact h
    · have c0 : ¬ (Int.tmod ((16 * j : Nat) : Int) 64 = 0) := fun e => c ((mod64 j).1 e)
      simp only [spec_raOf.l0, h1, ↓reduceIte, c0, hw, hd, hbll]
      refine Ev.bind c2 ?_
      have h := ih (j + 1) su (bl ++ [((cntV (bitW l) (64 * (j / 4)) (16 * j - 64 * (j / 4)) : Nat) : Int)]) (by omega) (by omega) (by rw [List.length_append, List.length_singleton]; omega)
      rw [supsV, blksV, if_neg c, List.nil_append]
      simp only [List.append_assoc, List.singleton_append] at h
      exact h
theorem spec_raOf_ev (n : Int) (l : List Int) (hn : 0 ≤ n) (hl : (l.length : Int) = (n + 15) / 16) (hb : l.length ≤ 1000) : Ev (fun k => spec_raOf.f k n l) (n, l, supsV (bitW l) 0 l.length, blksV (bitW l) 0 l.length) := by
  unfold spec_raOf.f spec_biOwn.f spec_l1Own.f
  have h0 : ([] : List Int).length + l.length < 17592186044416 := by rw [List.length_nil]; omega
  simp only [Option.bind_some, h0, ↓reduceIte, List.nil_append]
  have h := spec_raOf_l0 n l hn hl hb n l l.length 0 [] [] (by omega) (by rw [List.length_nil]; omega) (by rw [List.length_nil]; omega)
  exact h
theorem sub_w {a b c : Nat} (h : a = b + c) (h2 : a ≤ 100000) : wrap64 ((a : Int) - (b : Int)) = (c : Int) := by
  rw [w64 (by omega) (by omega)]
  omega
theorem impl_ranked_l0 (n : Int) (l : List Int) (hn : 0 ≤ n) (hl : (l.length : Int) = (n + 15) / 16) (hb : l.length ≤ 1000) (r0 : Int) (r1 : List Int) (d : Nat) :
    ∀ (j : Nat) (x y z : Int) (su bl : List Int), j + d = l.length → (0 < d → x = ((cntV (bitW l) 0 (16 * j) : Nat) : Int)) → (0 < d → j % 4 ≠ 0 → y = ((cntV (bitW l) 0 (64 * (j / 4)) : Nat) : Int)) → su.length + d ≤ 100000 → bl.length + d ≤ 100000 →
      Ev (fun k => impl_ranked.l0 k x y ((16 * j : Nat) : Int) z n l r0 r1 su bl) (r0, r1, su ++ supsV (bitW l) j d, bl ++ blksV (bitW l) j d) := by
  induction d with
  | zero =>
    intro j x y z su bl hj hx hy hs hb
    refine Ev.succ ?_
    have h1 : ¬ (((16 * j : Nat) : Int) < n) := by omega
    simp only [impl_ranked.l0, h1, ↓reduceIte, supsV, blksV, List.append_nil]
    exact Ev.now _
  | succ d ih =>
    intro j x y z su bl hj hx hy hs hbl
    refine Ev.succ ?_
    obtain rfl := hx (by omega)
    have h1 : ((16 * j : Nat) : Int) < n := by omega
    have hw : wrap64 (((16 * j : Nat) : Int) + 16) = ((16 * (j + 1) : Nat) : Int) := by rw [w64 (by omega) (by omega)]; omega
    have hm : mn ((16 * (j + 1) : Nat) : Int) n = ((min (16 * (j + 1)) n.toNat : Nat) : Int) := by
      unfold mn
      by_cases c : n < ((16 * (j + 1) : Nat) : Int)
      · rw [if_pos c]; omega
      · rw [if_neg c]; omega
    have hsl : su.length < 17592186044416 := by omega
    have hbll : bl.length < 17592186044416 := by omega
    have cc := impl_Bits_count_in38_0_ev n l (16 * j) (min (16 * (j + 1)) n.toNat) (by omega) (by omega) (by omega)
    have g1 := cntV_le (bitW l) (16 * j) 0
    have g2 := cntV_le (bitW l) (min (16 * (j + 1)) n.toNat - 16 * j) (16 * j)
    have hx2 : wrap64 (((cntV (bitW l) 0 (16 * j) : Nat) : Int) + ((cntV (bitW l) (16 * j) (min (16 * (j + 1)) n.toNat - 16 * j) : Nat) : Int)) = ((cntV (bitW l) 0 (16 * j) + cntV (bitW l) (16 * j) (min (16 * (j + 1)) n.toNat - 16 * j) : Nat) : Int) := by
      rw [w64 (by omega) (by omega)]; omega
    have hnext : 0 < d → ((cntV (bitW l) 0 (16 * j) + cntV (bitW l) (16 * j) (min (16 * (j + 1)) n.toNat - 16 * j) : Nat) : Int) = ((cntV (bitW l) 0 (16 * (j + 1)) : Nat) : Int) := by
      intro hd
      have e1 : min (16 * (j + 1)) n.toNat - 16 * j = 16 := by omega
      have e2 := cntV_add (bitW l) (16 * j) 0 16
      rw [e1, show 16 * (j + 1) = 16 * j + 16 from by omega, e2, Nat.zero_add]
    by_cases c : j % 4 = 0
    · have c0 := (mod64 j).2 c
      have e0 : 16 * j - 64 * (j / 4) = 0 := by omega
      have e3 : ((cntV (bitW l) (64 * (j / 4)) (16 * j - 64 * (j / 4)) : Nat) : Int) = 0 := by
        rw [e0, cntV]; rfl
      simp only [impl_ranked.l0, h1, ↓reduceIte, c0, hw, hm, hsl, hbll]
      refine Ev.bind cc ?_
      rw [hx2]
      have h := ih (j + 1) _ ((cntV (bitW l) 0 (16 * j) : Nat) : Int) (wrap64 (z + 1)) (su ++ [((cntV (bitW l) 0 (16 * j) : Nat) : Int)]) (bl ++ [0]) (by omega) hnext (fun _ _ => by rw [show 64 * ((j + 1) / 4) = 16 * j from by omega]) (by rw [List.length_append, List.length_singleton]; omega) (by rw [List.length_append, List.length_singleton]; omega)
      rw [supsV, blksV, if_pos c, e3]
      simp only [List.append_assoc, List.singleton_append] at h
      exact h
    · have c0 : ¬ (Int.tmod ((16 * j : Nat) : Int) 64 = 0) := fun e => c ((mod64 j).1 e)
      obtain rfl := hy (by omega) c
      have e4 := cntV_add (bitW l) (64 * (j / 4)) 0 (16 * j - 64 * (j / 4))
      rw [show 64 * (j / 4) + (16 * j - 64 * (j / 4)) = 16 * j from by omega, Nat.zero_add] at e4
      have e3 : wrap64 (((cntV (bitW l) 0 (16 * j) : Nat) : Int) - ((cntV (bitW l) 0 (64 * (j / 4)) : Nat) : Int)) = ((cntV (bitW l) (64 * (j / 4)) (16 * j - 64 * (j / 4)) : Nat) : Int) := sub_w e4 (Nat.le_trans g1 (by omega))
      simp only [impl_ranked.l0, h1, ↓reduceIte, c0, hw, hm, hbll, e3]
      refine Ev.bind cc ?_
      rw [hx2]
      have h := ih (j + 1) _ ((cntV (bitW l) 0 (64 * (j / 4)) : Nat) : Int) (wrap64 (z + 1)) su (bl ++ [((cntV (bitW l) (64 * (j / 4)) (16 * j - 64 * (j / 4)) : Nat) : Int)]) (by omega) hnext (fun _ h4 => by rw [show (j + 1) / 4 = j / 4 from by omega]) (by omega) (by rw [List.length_append, List.length_singleton]; omega)
      rw [supsV, blksV, if_neg c, List.nil_append]
      simp only [List.append_assoc, List.singleton_append] at h
      exact h
theorem impl_ranked_ev (n : Int) (l : List Int) (hn : 0 ≤ n) (hl : (l.length : Int) = (n + 15) / 16) (hb : l.length ≤ 1000) : Ev (fun k => impl_ranked.f k n l) (n, l, supsV (bitW l) 0 l.length, blksV (bitW l) 0 l.length) := by
  unfold impl_ranked.f impl_cloneBits.f slices_Clone_int_int.f
  have h0 : l.length < 17592186044416 := by omega
  simp only [Option.bind_some, h0, ↓reduceIte]
  have h := impl_ranked_l0 n l hn hl hb n l l.length 0 0 0 0 [] [] (by omega) (fun _ => rfl) (fun _ h => absurd rfl h) (by rw [List.length_nil]; omega) (by rw [List.length_nil]; omega)
  exact h
def goodR (n : Int) (l su bl : List Int) : Bool := goodBits n l && (decide (supsV (bitW l) 0 l.length = su) && decide (blksV (bitW l) 0 l.length = bl))
theorem goodR_size {n : Int} {l su bl : List Int} (h : goodR n l su bl = true) : 0 ≤ n ∧ n ≤ 4096 ∧ (l.length : Int) = (n + 15) / 16 := by
  unfold goodR at h
  rw [Bool.and_eq_true] at h
  have := goodBits_size h.1
  exact ⟨this.1, this.2.1, this.2.2.1⟩
theorem impl_IsRanked_ev (n : Int) (l su bl : List Int) (hl : l.length ≤ 100000) : Ev (fun k => impl_IsRanked.f k n l su bl) (goodR n l su bl) := by
  unfold impl_IsRanked.f goodR
  refine Ev.bind (impl_IsBits_ev n l (by omega)) ?_
  cases e : goodBits n l with
  | false => simp only [Bool.false_eq_true, ↓reduceIte, Bool.false_and]; exact Ev.now _
  | true =>
    have g := goodBits_size e
    simp only [↓reduceIte, Bool.true_and]
    refine Ev.bind (impl_ranked_ev n l g.1 g.2.2.1 (by omega)) ?_
    have hs := supsV_length (bitW l) l.length 0
    have hb := blksV_length (bitW l) l.length 0
    dsimp only
    refine Ev.bind (slices_Equal_int_int_ev _ su (by omega)) ?_
    by_cases c : supsV (bitW l) 0 l.length = su
    · simp only [c, decide_true, ↓reduceIte, Bool.true_and]
      exact Ev.bind (slices_Equal_int_int_ev _ bl (by omega)) (Ev.now _)
    · simp only [c, decide_false, Bool.false_eq_true, ↓reduceIte, Bool.false_and]
      exact Ev.now _
theorem spec_raGood_ev (n : Int) (l su bl : List Int) (hl : l.length ≤ 100000) (hs : su.length ≤ 100000) (hb : bl.length ≤ 100000) : Ev (fun k => spec_raGood.f k n l su bl) (goodR n l su bl) := by
  unfold spec_raGood.f goodR
  refine Ev.bind (spec_biGood_ev n l (by omega)) ?_
  cases e : goodBits n l with
  | false => simp only [Bool.false_eq_true, ↓reduceIte, Bool.false_and]; exact Ev.now _
  | true =>
    have g := goodBits_size e
    simp only [↓reduceIte, Bool.true_and]
    refine Ev.bind (spec_raOf_ev n l g.1 g.2.2.1 (by omega)) ?_
    dsimp only
    refine Ev.bind (spec_l1Same_ev su _ (by omega)) ?_
    by_cases c : supsV (bitW l) 0 l.length = su
    · simp only [c, decide_true, ↓reduceIte, Bool.true_and]
      refine Ev.bind (spec_l1Same_ev bl _ (by omega)) ?_
      exact Ev.some_ (decide_eq_decide.2 ⟨fun h => h.symm, fun h => h.symm⟩)
    · simp only [c, Ne.symm c, decide_false, Bool.false_eq_true, ↓reduceIte, Bool.false_and]
      exact Ev.now _
/-- The first place from i on that holds, i + d if there is none. -/
def nextV (f : Nat → Bool) : Nat → Nat → Nat
  | i, 0 => i
  | i, d + 1 => if f i = true then i else nextV f (i + 1) d
theorem nextV_le (f : Nat → Bool) (d : Nat) : ∀ i, i ≤ nextV f i d ∧ nextV f i d ≤ i + d := by
  induction d with
  | zero => intro i; exact ⟨Nat.le_refl _, Nat.le_refl _⟩
  | succ d ih =>
    intro i
    have := ih (i + 1)
    unfold nextV
    by_cases c : f i = true
    · rw [if_pos c]; omega
    · rw [if_neg c]; omega
theorem impl_Bits_next_l0 (n : Int) (l : List Int) (q : Nat) (hq : n = (q : Int)) (hl : q ≤ 16 * l.length) (hh : q ≤ 100000) (d : Nat) : ∀ i : Nat, i + d = q → Ev (fun k => impl_Bits_next_in38_0.l0 k (i : Int) true n l) ((nextV (bitW l) i d : Nat) : Int) := by
  subst hq
  induction d with
  | zero =>
    intro i hi
    refine Ev.succ ?_
    have h1 : ¬ ((i : Int) < (q : Int)) := by omega
    simp only [impl_Bits_next_in38_0.l0, h1, ↓reduceIte, nextV]
    exact Ev.now _
  | succ d ih =>
    intro i hi
    refine Ev.succ ?_
    have h1 : (i : Int) < (q : Int) := by omega
    have hw : wrap64 ((i : Int) + 1) = ((i + 1 : Nat) : Int) := by rw [w64 (by omega) (by omega)]; rfl
    simp only [impl_Bits_next_in38_0.l0, h1, ↓reduceIte, impl_Bits_at_in38_0_w _ l i (by omega) (by omega), Option.bind_some, hw, nextV]
    have h := ih (i + 1) (by omega)
    cases e : bitW l i with
    | false => simp only [Bool.false_eq_true, ↓reduceIte, show ((false != true) = true) from rfl]; exact h
    | true => simp only [bne_self_eq_false, Bool.false_eq_true, ↓reduceIte]; exact Ev.now _
theorem spec_biNext_l0 (n : Int) (l : List Int) (q : Nat) (hq : n = (q : Int)) (hl : q ≤ 16 * l.length) (hh : q ≤ 100000) (d : Nat) : ∀ i : Nat, i + d = q → Ev (fun k => spec_biNext.l0 k true (i : Int) n l) (if nextV (bitW l) i d = q then -1 else ((nextV (bitW l) i d : Nat) : Int)) := by
  subst hq
  induction d with
  | zero =>
    intro i hi
    refine Ev.succ ?_
    have h1 : ¬ ((i : Int) < (q : Int)) := by omega
    have h2 : i = q := by omega
    have e : nextV (bitW l) i 0 = q := h2
    rw [if_pos e]
    simp only [spec_biNext.l0, h1, ↓reduceIte]
    exact Ev.now _
  | succ d ih =>
    intro i hi
    refine Ev.succ ?_
    have h1 : (i : Int) < (q : Int) := by omega
    have hw : wrap64 ((i : Int) + 1) = ((i + 1 : Nat) : Int) := by rw [w64 (by omega) (by omega)]; rfl
    have h := ih (i + 1) (by omega)
    have h2 : ¬ (i = q) := by omega
    by_cases c : bitW l i = true
    · have e : nextV (bitW l) i (d + 1) = i := by rw [nextV, if_pos c]
      rw [e, if_neg h2]
      simp only [spec_biNext.l0, h1, ↓reduceIte, spec_biAt_w _ l i (by omega) (by omega), Option.bind_some, c, beq_self_eq_true]
      exact Ev.now _
    · have e : nextV (bitW l) i (d + 1) = nextV (bitW l) (i + 1) d := by rw [nextV, if_neg c]
      have c' : bitW l i = false := by simpa using c
      rw [e]
      simp only [spec_biNext.l0, h1, ↓reduceIte, spec_biAt_w _ l i (by omega) (by omega), Option.bind_some, hw, c', Bool.false_eq_true, show ((false == true) = false) from rfl]
      exact h
def nextOneV (n : Int) (l su bl : List Int) (i : Int) : Int × Bool :=
  if goodR n l su bl = true ∧ 0 ≤ i ∧ i ≤ n then (if nextV (bitW l) i.toNat (n.toNat - i.toNat) = n.toNat then (0, false) else (((nextV (bitW l) i.toNat (n.toNat - i.toNat) : Nat) : Int), true)) else (0, false)
theorem impl_NextOne_ev (n : Int) (l su bl : List Int) (i : Int) (hl : l.length ≤ 100000) : Ev (fun k => impl_NextOne.f k n l su bl i) (nextOneV n l su bl i) := by
  unfold impl_NextOne.f nextOneV
  refine Ev.bind (impl_IsRanked_ev n l su bl hl) ?_
  cases e : goodR n l su bl with
  | false => simp only [Bool.false_eq_true, ↓reduceIte, false_and]; exact Ev.now _
  | true =>
    have g := goodR_size e
    have gb : goodBits n l = true := by unfold goodR at e; rw [Bool.and_eq_true] at e; exact e.1
    simp only [↓reduceIte, true_and]
    unfold impl_NextBit.f impl_Bits_rangeOk_in38_0.f
    refine Ev.bind (a := if 0 ≤ i ∧ i ≤ n then (if nextV (bitW l) i.toNat (n.toNat - i.toNat) = n.toNat then (0, false) else (((nextV (bitW l) i.toNat (n.toNat - i.toNat) : Nat) : Int), true)) else (0, false)) ?_ (Ev.now _)
    have hn : n ≤ n := Int.le_refl n
    by_cases c : 0 ≤ i
    · by_cases c2 : i ≤ n
      · refine Ev.bind (a := true) ?_ ?_
        · refine Ev.bind (impl_IsBits_ev n l (by omega)) ?_
          simp only [gb, ↓reduceIte, c, c2, hn, decide_true]
          exact Ev.now _
        · simp only [↓reduceIte, c, c2, and_self]
          unfold impl_Bits_next_in38_0.f
          have h := impl_Bits_next_l0 n l n.toNat (by omega) (by omega) (by omega) (n.toNat - i.toNat) i.toNat (by omega)
          rw [show ((i.toNat : Nat) : Int) = i from by omega] at h
          refine Ev.bind h ?_
          by_cases c3 : nextV (bitW l) i.toNat (n.toNat - i.toNat) = n.toNat
          · have c4 : ((nextV (bitW l) i.toNat (n.toNat - i.toNat) : Nat) : Int) = n := by omega
            simp only [if_pos c3, if_pos c4]
            exact Ev.now _
          · have c4 : ¬ (((nextV (bitW l) i.toNat (n.toNat - i.toNat) : Nat) : Int) = n) := by omega
            simp only [if_neg c3, if_neg c4]
            exact Ev.now _
      · refine Ev.bind (a := false) ?_ ?_
        · refine Ev.bind (impl_IsBits_ev n l (by omega)) ?_
          simp only [gb, ↓reduceIte, c, c2]
          exact Ev.now _
        · simp only [Bool.false_eq_true, ↓reduceIte, c, c2, and_false]
          exact Ev.now _
    · refine Ev.bind (a := false) ?_ ?_
      · refine Ev.bind (impl_IsBits_ev n l (by omega)) ?_
        simp only [gb, ↓reduceIte, c]
        exact Ev.now _
      · simp only [Bool.false_eq_true, ↓reduceIte, c, false_and]
        exact Ev.now _
theorem spec_NextOne_ev (n : Int) (l su bl : List Int) (i : Int) (hl : l.length ≤ 100000) (hs : su.length ≤ 100000) (hb : bl.length ≤ 100000) : Ev (fun k => spec_NextOne.f k n l su bl i) (nextOneV n l su bl i) := by
  unfold spec_NextOne.f nextOneV spec_raEnd.f
  refine Ev.bind (a := goodR n l su bl && decide (0 ≤ i ∧ i ≤ n)) ?_ ?_
  · refine Ev.bind (spec_raGood_ev n l su bl hl hs hb) ?_
    cases e : goodR n l su bl with
    | false => simp only [Bool.false_eq_true, ↓reduceIte, Bool.false_and]; exact Ev.now _
    | true => simp only [↓reduceIte, spec_l1In_eq, Option.bind_some, Bool.true_and]; exact Ev.now _
  · cases e : goodR n l su bl with
    | false => simp only [Bool.false_eq_true, ↓reduceIte, Bool.false_and, false_and]; exact Ev.now _
    | true =>
      have g := goodR_size e
      by_cases c : 0 ≤ i ∧ i ≤ n
      · simp only [c, and_self, decide_true, Bool.and_self, ↓reduceIte]
        have h := spec_biNext_l0 n l n.toNat (by omega) (by omega) (by omega) (n.toNat - i.toNat) i.toNat (by omega)
        rw [show ((i.toNat : Nat) : Int) = i from by omega] at h
        unfold spec_biNext.f
        refine Ev.bind h ?_
        by_cases c3 : nextV (bitW l) i.toNat (n.toNat - i.toNat) = n.toNat
        · simp only [if_pos c3, show ((-1 : Int) < 0) from by decide, ↓reduceIte]
          exact Ev.now _
        · have c4 : ¬ (((nextV (bitW l) i.toNat (n.toNat - i.toNat) : Nat) : Int) < 0) := by omega
          simp only [if_neg c3, if_neg c4]
          simp only [if_neg c3] at h
          exact Ev.bind h (Ev.now _)
      · simp only [c, decide_false, Bool.and_false, Bool.false_eq_true, ↓reduceIte, and_false]
        exact Ev.now _
def rankV (n : Int) (l su bl : List Int) (i : Int) : Int × Bool :=
  if goodR n l su bl = true ∧ 0 ≤ i ∧ i ≤ n then (((cntV (bitW l) 0 i.toNat : Nat) : Int), true) else (0, false)
theorem impl_Rank1_ev (n : Int) (l su bl : List Int) (i : Int) (hl : l.length ≤ 100000) : Ev (fun k => impl_Rank1.f k n l su bl i) (rankV n l su bl i) := by
  unfold impl_Rank1.f rankV
  refine Ev.bind (impl_IsRanked_ev n l su bl hl) ?_
  cases e : goodR n l su bl with
  | false => simp only [Bool.false_eq_true, ↓reduceIte, false_and]; exact Ev.now _
  | true =>
    have g := goodR_size e
    simp only [↓reduceIte, true_and, impl_in_eq, Option.bind_some]
    by_cases c : 0 ≤ i ∧ i ≤ n
    · simp only [c, and_self, decide_true, ↓reduceIte]
      have h := impl_Bits_count_in40_0_ev n l su bl 0 i.toNat (by omega) (by omega) (by omega)
      rw [show ((i.toNat : Nat) : Int) = i from by omega, Nat.sub_zero] at h
      exact Ev.bind h (Ev.now _)
    · simp only [c, decide_false, Bool.false_eq_true, ↓reduceIte]
      exact Ev.now _
/-- The place of the one that x ones stand ahead of, from i on. -/
def selV (f : Nat → Bool) : Nat → Nat → Nat → Option Nat
  | _, _, 0 => none
  | i, x, d + 1 => if f i = true then (if x = 0 then some i else selV f (i + 1) (x - 1) d) else selV f (i + 1) x d
def told : Option Nat → Int × Bool
  | none => (0, false)
  | some p => ((p : Int), true)
theorem impl_selected_l0 (n : Int) (l su bl : List Int) (q : Nat) (hl : q ≤ 16 * l.length) (hh : q ≤ 100000) (d : Nat) : ∀ i x : Nat, i + d = q → x ≤ 1000000 → Ev (fun k => impl_selected.l0 k (x : Int) true (q : Int) (i : Int) n l su bl) (told (selV (bitW l) i x d)) := by
  induction d with
  | zero =>
    intro i x hi hx
    refine Ev.succ ?_
    have h1 : ¬ ((i : Int) < (q : Int)) := by omega
    simp only [impl_selected.l0, h1, ↓reduceIte, selV, told]
    exact Ev.now _
  | succ d ih =>
    intro i x hi hx
    refine Ev.succ ?_
    have h1 : (i : Int) < (q : Int) := by omega
    have hw : wrap64 ((i : Int) + 1) = ((i + 1 : Nat) : Int) := by rw [w64 (by omega) (by omega)]; rfl
    simp only [impl_selected.l0, h1, ↓reduceIte, impl_Bits_at_in40_0_w _ l su bl i (by omega) (by omega), Option.bind_some, hw, selV]
    cases e : bitW l i with
    | false => simp only [Bool.false_eq_true, ↓reduceIte, show ((false != true) = true) from rfl]; exact ih (i + 1) x (by omega) hx
    | true =>
      simp only [bne_self_eq_false, Bool.false_eq_true, ↓reduceIte]
      by_cases c : x = 0
      · have c1 : (x : Int) = 0 := by omega
        simp only [if_pos c, if_pos c1, told]
        exact Ev.now _
      · have c1 : ¬ ((x : Int) = 0) := by omega
        have hx1 : wrap64 ((x : Int) - 1) = ((x - 1 : Nat) : Int) := by rw [w64 (by omega) (by omega)]; omega
        simp only [if_neg c, if_neg c1, hx1]
        exact ih (i + 1) (x - 1) (by omega) (by omega)
theorem impl_Select1_ev (n : Int) (l su bl : List Int) (x : Nat) (hg : goodR n l su bl = true) (hx : x ≤ 1000000) : Ev (fun k => impl_Select1.f k n l su bl (x : Int)) (told (selV (bitW l) 0 x n.toNat)) := by
  have g := goodR_size hg
  unfold impl_Select1.f impl_selected.f
  refine Ev.bind (a := told (selV (bitW l) 0 x n.toNat)) ?_ (Ev.now _)
  refine Ev.bind (impl_IsRanked_ev n l su bl (by omega)) ?_
  simp only [hg, ↓reduceIte]
  have h := impl_selected_l0 n l su bl n.toNat (by omega) (by omega) n.toNat 0 x (by omega) hx
  rw [show ((n.toNat : Nat) : Int) = n from by omega] at h
  exact h
/-- The last place ahead of i that holds. -/
def lastV (f : Nat → Bool) : Nat → Option Nat
  | 0 => none
  | i + 1 => if f i = true then some i else lastV f i
theorem impl_LastOne_l0 (n : Int) (l su bl : List Int) (i : Nat) : i ≤ 16 * l.length → i ≤ 100000 → Ev (fun k => impl_LastOne.l0 k (wrap64 ((i : Int) - 1)) n l su bl) (told (lastV (bitW l) i)) := by
  induction i with
  | zero =>
    intro hl hh
    refine Ev.succ ?_
    have e : wrap64 (((0 : Nat) : Int) - 1) = -1 := by rw [w64 (by omega) (by omega)]; rfl
    have h1 : ¬ ((-1 : Int) ≥ 0) := by decide
    simp only [impl_LastOne.l0, e, h1, ↓reduceIte, lastV, told]
    exact Ev.now _
  | succ i ih =>
    intro hl hh
    refine Ev.succ ?_
    have e : wrap64 (((i + 1 : Nat) : Int) - 1) = (i : Int) := by rw [w64 (by omega) (by omega)]; omega
    have h1 : (i : Int) ≥ 0 := by omega
    simp only [impl_LastOne.l0, e, h1, ↓reduceIte, impl_Bits_at_in40_0_w _ l su bl i (by omega) (by omega), Option.bind_some, lastV]
    cases e : bitW l i with
    | false => simp only [Bool.false_eq_true, ↓reduceIte]; exact ih (by omega) (by omega)
    | true => simp only [↓reduceIte, told]; exact Ev.now _
theorem impl_LastOne_ev (n : Int) (l su bl : List Int) (i : Int) (hg : goodR n l su bl = true) (h0 : 0 ≤ i) (h1 : i ≤ n) : Ev (fun k => impl_LastOne.f k n l su bl i) (told (lastV (bitW l) i.toNat)) := by
  have g := goodR_size hg
  unfold impl_LastOne.f
  refine Ev.bind (impl_IsRanked_ev n l su bl (by omega)) ?_
  simp only [hg, ↓reduceIte, impl_in_eq, h0, h1, and_self, decide_true, Option.bind_some, Bool.not_true]
  refine Ev.succ ?_
  simp only [impl_LastOne.j0, Bool.false_eq_true, ↓reduceIte]
  have h := impl_LastOne_l0 n l su bl i.toNat (by omega) (by omega)
  rw [show ((i.toNat : Nat) : Int) = i from by omega] at h
  exact h
theorem selV_skip (f : Nat → Bool) (i : Nat) : ∀ a x d, selV f a (cntV f a i + x) (i + d) = selV f (a + i) x d := by
  induction i with
  | zero => intro a x d; rw [cntV, Nat.zero_add, Nat.zero_add, Nat.add_zero]
  | succ i ih =>
    intro a x d
    rw [show i + 1 + d = (i + d) + 1 from by omega, selV, cntV]
    by_cases c : f a = true
    · rw [if_pos c, if_pos c, if_neg (by omega), show 1 + cntV f (a + 1) i + x - 1 = cntV f (a + 1) i + x from by omega, ih, show a + 1 + i = a + (i + 1) from by omega]
    · rw [if_neg c, if_neg c, Nat.zero_add, ih, show a + 1 + i = a + (i + 1) from by omega]
theorem selV_next (f : Nat → Bool) (d : Nat) : ∀ i, told (selV f i 0 d) = if nextV f i d = i + d then (0, false) else (((nextV f i d : Nat) : Int), true) := by
  induction d with
  | zero => intro i; rw [selV, nextV, if_pos (by omega)]; rfl
  | succ d ih =>
    intro i
    rw [selV, nextV]
    by_cases c : f i = true
    · rw [if_pos c, if_pos c, if_pos rfl, if_neg (by omega)]; rfl
    · rw [if_neg c, if_neg c, ih, show i + 1 + d = i + (d + 1) from by omega]
theorem cntV_snoc (f : Nat → Bool) (i : Nat) : cntV f 0 (i + 1) = cntV f 0 i + (if f i = true then 1 else 0) := by
  rw [cntV_add, Nat.zero_add, cntV, cntV, Nat.add_zero]
theorem last_none (f : Nat → Bool) (i : Nat) (h : cntV f 0 i = 0) : lastV f i = none := by
  induction i with
  | zero => rfl
  | succ i ih =>
    rw [cntV_snoc] at h
    by_cases c : f i = true
    · rw [if_pos c] at h; omega
    · rw [if_neg c] at h
      rw [lastV, if_neg c]
      exact ih (by omega)
theorem last_sel (f : Nat → Bool) (m : Nat) (i : Nat) : ∀ c, cntV f 0 i = c + 1 → i ≤ m → ∃ p, lastV f i = some p ∧ selV f 0 c m = some p := by
  induction i with
  | zero => intro c h; simp [cntV] at h
  | succ i ih =>
    intro c h hm
    rw [cntV_snoc] at h
    by_cases c1 : f i = true
    · rw [if_pos c1] at h
      have e : c = cntV f 0 i + 0 := by omega
      refine ⟨i, by rw [lastV, if_pos c1], ?_⟩
      rw [e, show m = i + (m - i) from by omega, selV_skip, Nat.zero_add, show m - i = (m - i - 1) + 1 from by omega, selV, if_pos c1, if_pos rfl]
    · rw [if_neg c1] at h
      obtain ⟨p, h1, h2⟩ := ih c (by omega) (by omega)
      exact ⟨p, by rw [lastV, if_neg c1]; exact h1, h2⟩
theorem biNew_eq (m : Int) (h0 : 0 ≤ m) (h1 : m ≤ 5000) : spec_biNew.f m = some (m, List.replicate ((m + 15) / 16).toNat 0) := by
  have e1 : wrap64 (Int.tdiv (wrap64 (m + 15)) 16) = (m + 15) / 16 := by rw [w64 (n := m + 15) (by omega) (by omega), tdiv_pos (by omega), w64 (by omega) (by omega)]
  unfold spec_biNew.f
  rw [e1, if_pos (by omega), if_pos (by omega)]
theorem biSet_some (n : Int) (l : List Int) (i : Nat) (hi : i / 16 < l.length) (hi2 : i ≤ 1000000) : ∃ l', spec_biSet.f n l (i : Int) = some l' ∧ l'.length = l.length := by
  unfold spec_biSet.f
  have e1 : Int.tdiv (i : Int) 16 = ((i / 16 : Nat) : Int) := by rw [tdiv_pos (by omega)]; rfl
  have e2 : Int.tmod (i : Int) 16 = ((i % 16 : Nat) : Int) := by rw [tmod_pos (by omega)]; rfl
  rw [e1, e2, w64 (n := ((i / 16 : Nat) : Int)) (by omega) (by omega), if_pos (by omega), if_pos (by omega), if_pos (by omega)]
  exact ⟨_, rfl, List.length_set ..⟩
theorem biSome_l0 (bs : List Bool) (n : Int) (hb : bs.length ≤ 100000) (d : Nat) : ∀ (i : Nat) (ws : List Int), i + d = bs.length → bs.length ≤ 16 * ws.length → ∃ ws', Ev (fun k => spec_biSome.l0 k bs (bs.length : Int) (i : Int) n ws) (n, ws') ∧ ws'.length = ws.length := by
  induction d with
  | zero =>
    intro i ws hi hw
    refine ⟨ws, Ev.succ ?_, rfl⟩
    have h1 : ¬ ((i : Int) < (bs.length : Int)) := by omega
    simp only [spec_biSome.l0, h1, ↓reduceIte]
    exact Ev.now _
  | succ d ih =>
    intro i ws hi hw
    have h1 : (i : Int) < (bs.length : Int) := by omega
    have h2 : (0 : Int) ≤ (i : Int) := by omega
    have hww : wrap64 ((i : Int) + 1) = ((i + 1 : Nat) : Int) := by rw [w64 (by omega) (by omega)]; rfl
    by_cases c : rdOf false bs (i : Int) = true
    · obtain ⟨w2, e2, l2⟩ := biSet_some n ws i (by omega) (by omega)
      obtain ⟨ws', e3, l3⟩ := ih (i + 1) w2 (by omega) (by omega)
      refine ⟨ws', Ev.succ ?_, by omega⟩
      simp only [spec_biSome.l0, h1, h2, ↓reduceIte, c, e2, Option.bind_some, hww]
      exact e3
    · obtain ⟨ws', e3, l3⟩ := ih (i + 1) ws (by omega) hw
      refine ⟨ws', Ev.succ ?_, l3⟩
      simp only [spec_biSome.l0, h1, h2, ↓reduceIte, c, hww]
      exact e3
theorem biSome_ev (bs : List Bool) (hb : bs.length ≤ 5000) : ∃ ws, Ev (fun k => spec_biSome.f k bs) ((bs.length : Int), ws) ∧ (ws.length : Int) = ((bs.length : Int) + 15) / 16 := by
  have h := biNew_eq (bs.length : Int) (by omega) (by omega)
  obtain ⟨ws, e, hl⟩ := biSome_l0 bs (bs.length : Int) (by omega) bs.length 0 (List.replicate (((bs.length : Int) + 15) / 16).toNat 0) (by omega) (by rw [List.length_replicate]; omega)
  refine ⟨ws, ?_, by rw [hl, List.length_replicate]; omega⟩
  unfold spec_biSome.f
  simp only [h, Option.bind_some]
  exact e
theorem bits_l0 {l : List Int} (h : small l) (d : Nat) : ∀ (x : List Bool) (a s : Int), x.length + d ≤ 1000 → 0 ≤ a → a + 2 * (d : Int) ≤ 2000000000 →
    ∃ ws a' s', Ev (fun k => spec_l1Cur_bits.l0 k x (d : Int) l a s) (((x.length + d : Nat) : Int), ws, a', s') ∧ (ws.length : Int) = (((x.length + d : Nat) : Int) + 15) / 16 ∧ a ≤ a' ∧ a' ≤ a + 2 * (d : Int) := by
  induction d with
  | zero =>
    intro x a s hx h0 h1
    obtain ⟨ws, e, hl⟩ := biSome_ev x (by omega)
    refine ⟨ws, a, s, Ev.succ ?_, hl, by omega, by omega⟩
    have hz : ¬ (((0 : Nat) : Int) > 0) := by omega
    simp only [spec_l1Cur_bits.l0, hz, ↓reduceIte]
    exact Ev.bind e (Ev.now _)
  | succ d ih =>
    intro x a s hx h0 h1
    obtain ⟨r, a1, s1, e1, _, h2, h2'⟩ := one_draw h 2 (by decide) a s h0 (by omega)
    obtain ⟨ws, a2, s2, e2, hl, h3, h3'⟩ := ih (x ++ [r]) a1 s1 (by rw [List.length_append, List.length_singleton]; omega) (by omega) (by omega)
    rw [List.length_append, List.length_singleton, show x.length + 1 + d = x.length + (d + 1) from by omega] at e2 hl
    refine ⟨ws, a2, s2, Ev.succ ?_, hl, by omega, by omega⟩
    have hw : wrap64 (((d + 1 : Nat) : Int) - 1) = (d : Int) := by rw [w64 (by omega) (by omega)]; omega
    have hp : ((d + 1 : Nat) : Int) > 0 := by omega
    have hx2 : x.length < 140737488355328 := by omega
    simp only [spec_l1Cur_bits.l0, hp, ↓reduceIte, e1, Option.bind_some, hx2, hw]
    exact e2
theorem bits_ev {l : List Int} (h : small l) (m : Int) (hm : 0 ≤ m) (hm' : m ≤ 500) (a s : Int) (ha : 0 ≤ a) (ha' : a ≤ 1000000) :
    ∃ (q : Nat) (ws : List Int) (a' s' : Int), Ev (fun k => spec_l1Cur_bits.f k l a s m) ((q : Int), ws, a', s') ∧ (q : Int) ≤ m ∧ (ws.length : Int) = ((q : Int) + 15) / 16 ∧ a ≤ a' ∧ a' ≤ a + 1002 := by
  have hw : wrap64 (m + 1) = m + 1 := w64 (by omega) (by omega)
  obtain ⟨r, a1, s1, e1, hr, h1, h1'⟩ := pick_draw h (m + 1) (by omega) a s ha (by omega)
  obtain ⟨d, rfl⟩ := Int.eq_ofNat_of_zero_le hr.1
  obtain ⟨ws, a2, s2, e2, hl, h2, h2'⟩ := bits_l0 h d [] a1 s1 (by rw [List.length_nil]; omega) (by omega) (by omega)
  rw [List.length_nil, Nat.zero_add] at e2 hl
  refine ⟨d, ws, a2, s2, ?_, by omega, hl, by omega, by omega⟩
  unfold spec_l1Cur_bits.f
  simp only [hw, e1, Option.bind_some]
  exact e2
theorem biList_l0 (n : Int) (l : List Int) (q : Nat) (hq : n = (q : Int)) (hl : q ≤ 16 * l.length) (hh : q ≤ 100000) (d : Nat) : ∀ (i : Nat) (x : List Bool), i + d = q → x.length + d ≤ 200000 → ∃ r, Ev (fun k => spec_biList.l0 k x (i : Int) n l) r ∧ r.length = x.length + d := by
  subst hq
  induction d with
  | zero =>
    intro i x hi hx
    refine ⟨x, Ev.succ ?_, rfl⟩
    have h1 : ¬ ((i : Int) < (q : Int)) := by omega
    simp only [spec_biList.l0, h1, ↓reduceIte]
    exact Ev.now _
  | succ d ih =>
    intro i x hi hx
    obtain ⟨r, e, hr⟩ := ih (i + 1) (x ++ [bitW l i]) (by omega) (by rw [List.length_append, List.length_singleton]; omega)
    rw [List.length_append, List.length_singleton] at hr
    refine ⟨r, Ev.succ ?_, by omega⟩
    have h1 : (i : Int) < (q : Int) := by omega
    have hw : wrap64 ((i : Int) + 1) = ((i + 1 : Nat) : Int) := by rw [w64 (by omega) (by omega)]; rfl
    have hx2 : x.length < 140737488355328 := by omega
    simp only [spec_biList.l0, h1, ↓reduceIte, spec_biAt_w _ l i (by omega) (by omega), Option.bind_some, hx2, hw]
    exact e
theorem biList_ev (l : List Int) (q : Nat) (hl : q ≤ 16 * l.length) (hh : q ≤ 100000) : ∃ r, Ev (fun k => spec_biList.f k (q : Int) l) r ∧ r.length = q := by
  obtain ⟨r, e, hr⟩ := biList_l0 (q : Int) l q rfl hl hh q 0 [] (by omega) (by rw [List.length_nil]; omega)
  rw [List.length_nil, Nat.zero_add] at hr
  exact ⟨r, e, hr⟩
theorem anyBits_ev {l : List Int} (h : small l) (a s : Int) (ha : 0 ≤ a) (ha' : a ≤ 900000) :
    ∃ (n : Int) (ws : List Int) (a' s' : Int), Ev (fun k => spec_l1Cur_anyBits.f k l a s) (n, ws, a', s') ∧ n ≤ 5000 ∧ ws.length ≤ 1000 ∧ 0 ≤ a' ∧ a' ≤ a + 2000 := by
  obtain ⟨q, ws, a1, s1, e1, hq, hl, h1, h1'⟩ := bits_ev h 40 (by decide) (by decide) a s ha (by omega)
  obtain ⟨r, a2, s2, e2, hr, h2, h2'⟩ := pick_draw h 16 (by decide) a1 s1 (by omega) (by omega)
  unfold spec_l1Cur_anyBits.f
  by_cases c0 : r = 0
  · obtain ⟨r3, a3, s3, e3, hr3, h3, h3'⟩ := pick_draw h 2 (by decide) a2 s2 (by omega) (by omega)
    have hx : ws.length < 17592186044416 := by omega
    refine ⟨(q : Int), ws ++ [r3], a3, s3, Ev.bind e1 ?_, by omega, by rw [List.length_append, List.length_singleton]; omega, by omega, by omega⟩
    simp only [e2, Option.bind_some, c0, ↓reduceIte, e3, hx]
    exact Ev.now _
  by_cases c1 : r = 1
  · obtain ⟨r3, a3, s3, e3, hr3, h3, h3'⟩ := pick_draw h 3 (by decide) a2 s2 (by omega) (by omega)
    refine ⟨wrap64 ((q : Int) + wrap64 (r3 - 1)), ws, a3, s3, Ev.bind e1 ?_, by rw [w64 (n := r3 - 1) (by omega) (by omega), w64 (by omega) (by omega)]; omega, by omega, by omega, by omega⟩
    simp only [e2, Option.bind_some, c1, show ¬ ((1 : Int) = 0) from by decide, ↓reduceIte, e3]
    exact Ev.now _
  by_cases c2 : r = 2
  · by_cases c : (ws.length : Int) > 0
    · obtain ⟨r3, a3, s3, e3, hr3, h3, h3'⟩ := pick_draw h (ws.length : Int) (by omega) a2 s2 (by omega) (by omega)
      obtain ⟨r4, a4, s4, e4, hr4, h4, h4'⟩ := among_draw h [(-1), 65535, 65536, 40000] (by decide) (by decide) a3 s3 (by omega) (by omega)
      have hlt : r3 < (ws.length : Int) := by omega
      refine ⟨(q : Int), ws.set r3.toNat r4, a4, s4, Ev.bind e1 ?_, by omega, by rw [List.length_set]; omega, by omega, by omega⟩
      simp only [e2, Option.bind_some, c2, show ¬ ((2 : Int) = 0) from by decide, show ¬ ((2 : Int) = 1) from by decide, ↓reduceIte, c, e3, e4, hr3.1, hlt]
      exact Ev.now _
    · refine ⟨(q : Int), ws, a2, s2, Ev.bind e1 ?_, by omega, by omega, by omega, by omega⟩
      simp only [e2, Option.bind_some, c2, show ¬ ((2 : Int) = 0) from by decide, show ¬ ((2 : Int) = 1) from by decide, ↓reduceIte, c]
      exact Ev.now _
  by_cases c3 : r = 3
  · obtain ⟨r3, a3, s3, e3, hr3, h3, h3'⟩ := pick_draw h 2 (by decide) a2 s2 (by omega) (by omega)
    have hw : wrap64 (4096 - r3) = 4096 - r3 := w64 (by omega) (by omega)
    have hn := biNew_eq (4096 - r3) (by omega) (by omega)
    refine ⟨4096 - r3, List.replicate ((4096 - r3 + 15) / 16).toNat 0, a3, s3, Ev.bind e1 ?_, by omega, by rw [List.length_replicate]; omega, by omega, by omega⟩
    simp only [e2, Option.bind_some, c3, show ¬ ((3 : Int) = 0) from by decide, show ¬ ((3 : Int) = 1) from by decide, show ¬ ((3 : Int) = 2) from by decide, ↓reduceIte, e3, hw, hn]
    exact Ev.now _
  by_cases c4 : r = 4
  · obtain ⟨r3, a3, s3, e3, hr3, h3, h3'⟩ := pick_draw h 5 (by decide) a2 s2 (by omega) (by omega)
    have hw : wrap64 (16 * r3) = 16 * r3 := w64 (by omega) (by omega)
    have hn := biNew_eq (16 * r3) (by omega) (by omega)
    refine ⟨16 * r3, List.replicate ((16 * r3 + 15) / 16).toNat 0, a3, s3, Ev.bind e1 ?_, by omega, by rw [List.length_replicate]; omega, by omega, by omega⟩
    simp only [e2, Option.bind_some, c4, show ¬ ((4 : Int) = 0) from by decide, show ¬ ((4 : Int) = 1) from by decide, show ¬ ((4 : Int) = 2) from by decide, show ¬ ((4 : Int) = 3) from by decide, ↓reduceIte, e3, hw, hn]
    exact Ev.now _
  · refine ⟨(q : Int), ws, a2, s2, Ev.bind e1 ?_, by omega, by omega, by omega, by omega⟩
    simp only [e2, Option.bind_some, c0, c1, c2, c3, c4, ↓reduceIte]
    exact Ev.now _
theorem ranked_j0 {l : List Int} (h : small l) (q : Nat) (ws : List Int) (hq : q ≤ 1000) (hl : (ws.length : Int) = ((q : Int) + 15) / 16) (a s : Int) (ha : 0 ≤ a) (ha' : a ≤ 800000) :
    ∃ (n : Int) (vs su bl : List Int) (a' s' : Int), Ev (fun k => spec_l1Cur_ranked.j0 k l a s (q : Int) ws) (n, vs, su, bl, a', s') ∧ n ≤ 5000 ∧ vs.length ≤ 2000 ∧ su.length ≤ 2000 ∧ bl.length ≤ 2000 ∧ 0 ≤ a' ∧ a' ≤ a + 5000 := by
  have e1 := spec_raOf_ev (q : Int) ws (by omega) hl (by omega)
  have l1 := supsV_length (bitW ws) ws.length 0
  have l2 := blksV_length (bitW ws) ws.length 0
  generalize supsV (bitW ws) 0 ws.length = su at e1 l1
  generalize blksV (bitW ws) 0 ws.length = bl at e1 l2
  obtain ⟨r, a2, s2, e2, hr, h2, h2'⟩ := pick_draw h 14 (by decide) a s ha (by omega)
  by_cases c0 : r = 0
  · by_cases c : (su.length : Int) > 0
    · obtain ⟨r3, a3, s3, e3, hr3, h3, h3'⟩ := pick_draw h (su.length : Int) (by omega) a2 s2 (by omega) (by omega)
      obtain ⟨r4, a4, s4, e4, hr4, h4, h4'⟩ := pick_draw h 3 (by decide) a3 s3 (by omega) (by omega)
      have hlt : r3 < (su.length : Int) := by omega
      refine ⟨(q : Int), ws, su.set r3.toNat (wrap64 (rd su r3 + wrap64 (r4 - 1))), bl, a4, s4, Ev.succ ?_, by omega, by omega, by rw [List.length_set]; omega, by omega, by omega, by omega⟩
      simp only [spec_l1Cur_ranked.j0]
      refine Ev.bind e1 ?_
      simp only [e2, Option.bind_some, c0, ↓reduceIte, c, e3, hr3.1, hlt, e4]
      exact Ev.now _
    · refine ⟨(q : Int), ws, su, bl, a2, s2, Ev.succ ?_, by omega, by omega, by omega, by omega, by omega, by omega⟩
      simp only [spec_l1Cur_ranked.j0]
      refine Ev.bind e1 ?_
      simp only [e2, Option.bind_some, c0, ↓reduceIte, c]
      exact Ev.now _
  by_cases c1 : r = 1
  · by_cases c : (bl.length : Int) > 0
    · obtain ⟨r3, a3, s3, e3, hr3, h3, h3'⟩ := pick_draw h (bl.length : Int) (by omega) a2 s2 (by omega) (by omega)
      obtain ⟨r4, a4, s4, e4, hr4, h4, h4'⟩ := pick_draw h 3 (by decide) a3 s3 (by omega) (by omega)
      have hlt : r3 < (bl.length : Int) := by omega
      refine ⟨(q : Int), ws, su, bl.set r3.toNat (wrap64 (rd bl r3 + wrap64 (r4 - 1))), a4, s4, Ev.succ ?_, by omega, by omega, by omega, by rw [List.length_set]; omega, by omega, by omega⟩
      simp only [spec_l1Cur_ranked.j0]
      refine Ev.bind e1 ?_
      simp only [e2, Option.bind_some, c1, show ¬ ((1 : Int) = 0) from by decide, ↓reduceIte, c, e3, hr3.1, hlt, e4]
      exact Ev.now _
    · refine ⟨(q : Int), ws, su, bl, a2, s2, Ev.succ ?_, by omega, by omega, by omega, by omega, by omega, by omega⟩
      simp only [spec_l1Cur_ranked.j0]
      refine Ev.bind e1 ?_
      simp only [e2, Option.bind_some, c1, show ¬ ((1 : Int) = 0) from by decide, ↓reduceIte, c]
      exact Ev.now _
  by_cases c2 : r = 2
  · have hx : bl.length < 17592186044416 := by omega
    refine ⟨(q : Int), ws, su, bl ++ [0], a2, s2, Ev.succ ?_, by omega, by omega, by omega, by rw [List.length_append, List.length_singleton]; omega, by omega, by omega⟩
    simp only [spec_l1Cur_ranked.j0]
    refine Ev.bind e1 ?_
    simp only [e2, Option.bind_some, c2, show ¬ ((2 : Int) = 0) from by decide, show ¬ ((2 : Int) = 1) from by decide, ↓reduceIte, hx]
    exact Ev.now _
  by_cases c3 : r = 3
  · obtain ⟨n, vs, a3, s3, e3, hn, hv, h3, h3'⟩ := anyBits_ev h a2 s2 (by omega) (by omega)
    refine ⟨n, vs, su, bl, a3, s3, Ev.succ ?_, hn, by omega, by omega, by omega, by omega, by omega⟩
    simp only [spec_l1Cur_ranked.j0]
    refine Ev.bind e1 ?_
    simp only [e2, Option.bind_some, c3, show ¬ ((3 : Int) = 0) from by decide, show ¬ ((3 : Int) = 1) from by decide, show ¬ ((3 : Int) = 2) from by decide, ↓reduceIte]
    exact Ev.bind e3 (Ev.now _)
  · refine ⟨(q : Int), ws, su, bl, a2, s2, Ev.succ ?_, by omega, by omega, by omega, by omega, by omega, by omega⟩
    simp only [spec_l1Cur_ranked.j0]
    refine Ev.bind e1 ?_
    simp only [e2, Option.bind_some, c0, c1, c2, c3, ↓reduceIte]
    exact Ev.now _
theorem ranked_ev {l : List Int} (h : small l) :
    ∃ (n : Int) (vs su bl : List Int) (a' s' : Int), Ev (fun k => spec_l1Cur_ranked.f k l 0 0) (n, vs, su, bl, a', s') ∧ n ≤ 5000 ∧ vs.length ≤ 2000 ∧ su.length ≤ 2000 ∧ bl.length ≤ 2000 ∧ 0 ≤ a' ∧ a' ≤ 20000 := by
  obtain ⟨q, ws, a1, s1, e1, hq, hl, h1, h1'⟩ := bits_ev h 70 (by decide) (by decide) 0 0 (by decide) (by decide)
  obtain ⟨r, a2, s2, e2, _, h2, h2'⟩ := one_draw h 8 (by decide) a1 s1 (by omega) (by omega)
  unfold spec_l1Cur_ranked.f
  cases r with
  | false =>
    obtain ⟨n, vs, su, bl, a3, s3, e3, hn, hv, hs, hb, h3, h3'⟩ := ranked_j0 h q ws (by omega) hl a2 s2 (by omega) (by omega)
    refine ⟨n, vs, su, bl, a3, s3, Ev.bind e1 ?_, hn, hv, hs, hb, h3, by omega⟩
    simp only [e2, Option.bind_some, Bool.false_eq_true, ↓reduceIte]
    exact e3
  | true =>
    obtain ⟨q3, w3, a3, s3, e3, hq3, hl3, h3, h3'⟩ := bits_ev h 200 (by decide) (by decide) a2 s2 (by omega) (by omega)
    obtain ⟨x4, e4, hx4⟩ := biList_ev w3 q3 (by omega) (by omega)
    obtain ⟨q5, w5, a5, s5, e5, hq5, hl5, h5, h5'⟩ := bits_ev h 200 (by decide) (by decide) a3 s3 (by omega) (by omega)
    obtain ⟨x6, e6, hx6⟩ := biList_ev w5 q5 (by omega) (by omega)
    have hlen : (x4 ++ x6).length = q3 + q5 := by rw [List.length_append, hx4, hx6]
    obtain ⟨w7, e7, hl7⟩ := biSome_ev (x4 ++ x6) (by omega)
    obtain ⟨n, vs, su, bl, a8, s8, e8, hn, hv, hs, hb, h8, h8'⟩ := ranked_j0 h (x4 ++ x6).length w7 (by omega) hl7 a5 s5 (by omega) (by omega)
    have hc : x4.length + x6.length < 140737488355328 := by omega
    refine ⟨n, vs, su, bl, a8, s8, Ev.bind e1 ?_, hn, hv, hs, hb, h8, by omega⟩
    simp only [e2, Option.bind_some, ↓reduceIte]
    refine Ev.bind e3 (Ev.bind e4 (Ev.bind e5 (Ev.bind e6 ?_)))
    simp only [hc, ↓reduceIte]
    exact Ev.bind e7 e8
theorem DrawNextOne_ev {l : List Int} (h : small l) : ∃ (n : Int) (vs su bl : List Int) (i : Int), Ev (fun k => spec_DrawNextOne.f k l) (n, vs, su, bl, i) ∧ vs.length ≤ 2000 ∧ su.length ≤ 2000 ∧ bl.length ≤ 2000 := by
  obtain ⟨n, vs, su, bl, a, s, e, hn, hv, hs, hb, h0, h0'⟩ := ranked_ev h
  unfold spec_DrawNextOne.f spec_l1Cur_place.f spec_l1Most.f
  by_cases c : n > 0
  · have hw : wrap64 (n + 4) = n + 4 := w64 (by omega) (by omega)
    obtain ⟨r, a2, s2, e2, hr, h2, h2'⟩ := pick_draw h (n + 4) (by omega) a s h0 (by omega)
    refine ⟨n, vs, su, bl, wrap64 (r - 1), Ev.bind e ?_, hv, hs, hb⟩
    simp only [c, ↓reduceIte, Option.bind_some, hw, e2]
    exact Ev.now _
  · have hw : wrap64 ((0 : Int) + 4) = 4 := w64 (by omega) (by omega)
    obtain ⟨r, a2, s2, e2, hr, h2, h2'⟩ := pick_draw h 4 (by omega) a s h0 (by omega)
    refine ⟨n, vs, su, bl, wrap64 (r - 1), Ev.bind e ?_, hv, hs, hb⟩
    simp only [c, ↓reduceIte, Option.bind_some, hw, e2]
    exact Ev.now _
theorem FnNeighboursOfRank : laws_FnNeighboursOfRank.Pure := by
  intro l m hl0 _ hl hm0 _ hm
  refine Ev.rounds ?_
  have h0 : l.length ≤ 9223372036854775807 := by unfold maxLen at hl0; exact hl0
  have h1 : m.length ≤ 9223372036854775807 := by unfold maxLen at hm0; exact hm0
  unfold laws_FnNeighboursOfRank.f laws_big.f
  by_cases c : (l.length : Int) > 1048576
  · simp only [c, ↓reduceIte, Option.bind_some]
    exact Ev.now _
  have hw : wrap64 (1048576 - (l.length : Int)) = 1048576 - (l.length : Int) := w64 (by omega) (by omega)
  simp only [c, ↓reduceIte, Option.bind_some, hw]
  by_cases c1 : (m.length : Int) > 1048576 - (l.length : Int)
  · simp only [c1, decide_true, ↓reduceIte]
    exact Ev.now _
  simp only [c1, decide_false, Bool.false_eq_true, ↓reduceIte]
  obtain ⟨n, vs, su, bl, i, e, hv, hs, hb⟩ := DrawNextOne_ev (small_of (by omega) hl)
  refine Ev.bind e (Ev.bind (impl_NextOne_ev n vs su bl i (by omega)) (Ev.bind (spec_NextOne_ev n vs su bl i (by omega) (by omega) (by omega)) ?_))
  simp only [bne_self_eq_false, Bool.false_eq_true, ↓reduceIte]
  refine Ev.succ ?_
  simp only [laws_FnNeighboursOfRank.j0, Bool.false_eq_true, ↓reduceIte]
  refine Ev.bind (impl_Rank1_ev n vs su bl i (by omega)) ?_
  by_cases g : goodR n vs su bl = true ∧ 0 ≤ i ∧ i ≤ n
  · have gs := goodR_size g.1
    have e1 : rankV n vs su bl i = (((cntV (bitW vs) 0 i.toNat : Nat) : Int), true) := by unfold rankV; rw [if_pos g]
    have hc := cntV_le (bitW vs) i.toNat 0
    have key : told (selV (bitW vs) 0 (cntV (bitW vs) 0 i.toNat) n.toNat) = nextOneV n vs su bl i := by
      have h2 := selV_skip (bitW vs) i.toNat 0 0 (n.toNat - i.toNat)
      rw [Nat.add_zero, Nat.zero_add, show i.toNat + (n.toNat - i.toNat) = n.toNat from by omega] at h2
      have h3 := selV_next (bitW vs) (n.toNat - i.toNat) i.toNat
      rw [show i.toNat + (n.toNat - i.toNat) = n.toNat from by omega] at h3
      unfold nextOneV
      rw [if_pos g, h2, h3]
    have hsel := impl_Select1_ev n vs su bl (cntV (bitW vs) 0 i.toNat) g.1 (by omega)
    rw [key] at hsel
    simp only [e1, ↓reduceIte]
    refine Ev.bind hsel ?_
    simp only [bne_self_eq_false, Bool.false_eq_true, ↓reduceIte]
    refine Ev.succ ?_
    simp only [laws_FnNeighboursOfRank.j1, Bool.false_eq_true, ↓reduceIte]
    refine Ev.bind (impl_LastOne_ev n vs su bl i g.1 g.2.1 g.2.2) ?_
    by_cases cz : cntV (bitW vs) 0 i.toNat = 0
    · simp only [cz, last_none _ _ cz, told, show (((0 : Nat) : Int) = 0) from rfl, ↓reduceIte, Bool.not_false]
      exact Ev.now _
    · obtain ⟨d, hd⟩ : ∃ d, cntV (bitW vs) 0 i.toNat = d + 1 := ⟨cntV (bitW vs) 0 i.toNat - 1, by omega⟩
      obtain ⟨p, hp1, hp2⟩ := last_sel (bitW vs) n.toNat i.toNat d hd (by omega)
      have hz : ¬ (((d + 1 : Nat) : Int) = 0) := by omega
      have hwd : wrap64 (((d + 1 : Nat) : Int) - 1) = (d : Int) := by rw [w64 (by omega) (by omega)]; omega
      have hs2 := impl_Select1_ev n vs su bl d g.1 (by omega)
      rw [hp2] at hs2
      simp only [hd, hp1, hz, ↓reduceIte, hwd]
      refine Ev.bind hs2 ?_
      simp only [told, ↓reduceIte, beq_self_eq_true]
      exact Ev.now _
  · have e1 : rankV n vs su bl i = (0, false) := by unfold rankV; rw [if_neg g]
    have e2 : nextOneV n vs su bl i = (0, false) := by unfold nextOneV; rw [if_neg g]
    simp only [e1, e2, Bool.false_eq_true, ↓reduceIte, Bool.not_false]
    exact Ev.now _

end Go.Proofs.Ytdjpegkogfeofaa.Pure
