/- The program's SystemOf returns what the reference's returns, for all arguments. -/
import Derived.Test.YtgbpbhplehmedaaPFnExactSystemOfx11
import Derived.Test.YtgbpbhplehmedaaBase
namespace Go.Proofs.Ytgbpbhplehmedaa.Pure
open Go.RowKit Go.Proofs.Ytgbpbhplehmedaa.PFnExactSystemOf Go.Proofs.YtgbpbhplehmedaaW.PrintWords Go.Proofs.YtgbpbhplehmedaaW.PrintLast Go.Proofs.Ytgbpbhplehmedaa.Base Go.Proofs.Ytgbpbhplehmedaa.Base Go.Proofs.Ytgbpbhplehmedaa.Base
set_option linter.unusedVariables false
set_option linter.unusedSimpArgs false

theorem laws_toBoolS_l0 (l : List Bool) (hl : l.length ≤ 9223372036854775807) (d : Nat) : ∀ (i : Nat) (o : List Bool), o.length = l.length → o.take i = l.take i → i + d = l.length → Ev (fun k => laws_toBoolS.l0 k l o (i : Int)) l := by
  induction d with
  | zero =>
    intro i o ho ht hi
    refine Ev.succ ?_
    have h1 : ¬ ((i : Int) < (l.length : Int)) := by omega
    simp only [laws_toBoolS.l0, h1, ↓reduceIte]
    rw [List.take_of_length_le (by omega), List.take_of_length_le (by omega)] at ht
    exact Ev.some_ ht
  | succ d ih =>
    intro i o ho ht hi
    refine Ev.succ ?_
    have h1 : (i : Int) < (l.length : Int) := by omega
    have h2 : (0 : Int) ≤ (i : Int) := by omega
    have h3 : (i : Int) < (o.length : Int) := by omega
    have hw : wrap64 ((i : Int) + 1) = ((i + 1 : Nat) : Int) := by rw [w64 (by omega) (by omega)]; rfl
    simp only [laws_toBoolS.l0, h1, h2, h3, ↓reduceIte, hw, Int.toNat_natCast]
    exact ih (i + 1) _ (by simp [ho]) (by rw [take_set_succ _ _ _ (by omega), ht, rdOf_nat _ _ _ (by omega), List.take_succ_eq_append_getElem (by omega)]) (by omega)
theorem laws_toBoolS_ev (l : List Bool) (hl : l.length ≤ 17592186044416) : Ev (fun k => laws_toBoolS.f k l) l := by
  have h1 : 0 ≤ (l.length : Int) := by omega
  have h2 : ((l.length : Int)).toNat ≤ 281474976710656 := by omega
  simp only [laws_toBoolS.f, h1, h2, ↓reduceIte]
  exact laws_toBoolS_l0 l (by omega) l.length 0 _ (by simp) (by simp) (by omega)
theorem laws_eqBoolS_self (l : List Bool) (hl : l.length ≤ 9223372036854775807) : Ev (fun k => laws_eqBoolS.f k l l) true := by
  unfold laws_eqBoolS.f
  simp only [↓reduceIte]
  refine Ev.up (L := fun k i => laws_eqBoolS.l0 k l l (i : Int)) (r := fun _ => true) l.length ?_ ?_ 0 (Nat.zero_le _)
  · refine Ev.succ ?_
    have h1 : ¬ ((l.length : Int) < (l.length : Int)) := by omega
    simp only [laws_eqBoolS.l0, h1, ↓reduceIte]
    exact Ev.now _
  · intro i hi ih
    refine Ev.succ ?_
    have h1 : (i : Int) < (l.length : Int) := by omega
    have h2 : (0 : Int) ≤ (i : Int) := by omega
    have hw : wrap64 ((i : Int) + 1) = ((i + 1 : Nat) : Int) := by rw [w64 (by omega) (by omega)]; rfl
    simp only [laws_eqBoolS.l0, h1, h2, ↓reduceIte, hw, bne_self_eq_false, Bool.false_eq_true]
    exact ih
theorem mem_take_succ {l : List Int} {i : Nat} (h : i < l.length) (x : Int) : x ∈ l.take (i + 1) ↔ x ∈ l.take i ∨ x = rd l (i : Int) := by
  rw [List.take_succ_eq_append_getElem h, rd_nat l i h, List.mem_append, List.mem_singleton]
theorem slices_Contains_int_int_ev (l : List Int) (x : Int) (hl : l.length ≤ 9223372036854775807) : Ev (fun k => slices_Contains_int_int.f k l x) (decide (x ∈ l)) := by
  have L : ∃ r : Int, decide (r ≥ 0) = decide (x ∈ l) ∧ Ev (fun k => slices_Index_int_int.f k l x) r := by
    suffices h : ∀ d i : Nat, i + d = l.length → x ∉ l.take i → ∃ r : Int, decide (r ≥ 0) = decide (x ∈ l) ∧ Ev (fun k => slices_Index_int_int.l0 k l x (l.length : Int) (i : Int)) r from h l.length 0 (by omega) (by simp)
    intro d
    induction d with
    | zero =>
      intro i hi hn
      have h1 : ¬ ((i : Int) < (l.length : Int)) := by omega
      rw [List.take_of_length_le (by omega)] at hn
      refine ⟨-1, by simp [hn], Ev.succ ?_⟩
      simp only [slices_Index_int_int.l0, h1, ↓reduceIte]
      exact Ev.now _
    | succ d ih =>
      intro i hi hn
      have h1 : (i : Int) < (l.length : Int) := by omega
      have h2 : (0 : Int) ≤ (i : Int) := by omega
      have hw : wrap64 ((i : Int) + 1) = ((i + 1 : Nat) : Int) := by rw [w64 (by omega) (by omega)]; rfl
      by_cases c : x = rd l (i : Int)
      · have : x ∈ l := by rw [c, rd_nat l i (by omega)]; exact List.getElem_mem _
        refine ⟨(i : Int), by simp [this], Ev.succ ?_⟩
        simp only [slices_Index_int_int.l0, h1, h2, ↓reduceIte]
        simp only [← c, ↓reduceIte]
        exact Ev.now _
      · obtain ⟨r, hr, he⟩ := ih (i + 1) (by omega) (by rw [mem_take_succ (by omega)]; rintro (h | h); exact hn h; exact c h)
        refine ⟨r, hr, Ev.succ ?_⟩
        simp only [slices_Index_int_int.l0, h1, h2, c, ↓reduceIte, hw]
        exact he
  obtain ⟨r, hr, he⟩ := L
  unfold slices_Contains_int_int.f
  refine Ev.bind he ?_
  exact Ev.some_ hr
theorem spec_biNew_eq (n : Int) (h0 : 0 ≤ n) (h1 : n ≤ 1000000) : spec_biNew.f n = some (n, List.replicate ((n + 15) / 16).toNat 0) := by
  unfold spec_biNew.f
  rw [w64 (n := n + 15) (by omega) (by omega), tdiv_pos (by omega), w64 (by omega) (by omega), if_pos (by omega), if_pos (by omega)]
theorem impl_words_eq (n : Int) (h0 : 0 ≤ n) (h1 : n ≤ 1000000) : impl_words.f n = some ((n + 15) / 16) := by
  unfold impl_words.f
  rw [w64 (n := n + 16) (by omega) (by omega), w64 (n := n + 16 - 1) (by omega) (by omega), tdiv_pos (by omega), w64 (by omega) (by omega), show n + 16 - 1 = n + 15 from by omega]
theorem impl_blank_eq (n : Int) (h0 : 0 ≤ n) (h1 : n ≤ 1000000) : impl_blank.f n = some (n, List.replicate ((n + 15) / 16).toNat 0) := by
  unfold impl_blank.f
  rw [impl_words_eq n h0 h1]
  simp only [Option.bind_some]
  rw [if_pos (by omega), if_pos (by omega)]
theorem pow15 {t : Nat} (ht : t ≤ 15) : (2 : Nat) ^ t ≤ 32768 := Nat.le_trans (Nat.pow_le_pow_right (by decide) ht) (by decide)
theorem pow_cast (t : Nat) : (2 : Int) ^ t = ((2 ^ t : Nat) : Int) := by
  rw [Int.natCast_pow]
  rfl
theorem not_bits (b : Nat) (hb : b ≤ 32768) (j : Nat) : (18446744073709551615 - b).testBit j = (decide (j < 64) && !b.testBit j) := by
  have h := Nat.testBit_two_pow_sub_succ (x := b) (n := 64) (by omega) j
  rw [show 2 ^ 64 - (b + 1) = 18446744073709551615 - b from by omega] at h
  exact h
theorem andNot_off {x : Int} {t : Nat} (x0 : 0 ≤ x) (x1 : x ≤ 65535) (ht : t ≤ 15) (h : bitI x t = false) : Go.bits .andNot .i64 x (2 ^ t) = x := by
  obtain ⟨a, rfl⟩ := Int.eq_ofNat_of_zero_le x0
  have p := pow15 ht
  rw [pow_cast, (bits_nat64 a (2 ^ t) (by omega) (by omega)).2.2.2]
  have e : a &&& (18446744073709551615 - 2 ^ t) = a := by
    apply Nat.eq_of_testBit_eq
    intro j
    rw [Nat.testBit_and, not_bits (2 ^ t) p, Nat.testBit_two_pow]
    unfold bitI at h
    rw [Int.toNat_natCast] at h
    by_cases c : t = j
    · subst c
      rw [h]
      rfl
    · by_cases c2 : j < 64
      · simp [c, c2]
      · have h3 : a.testBit j = false := Nat.testBit_lt_two_pow (Nat.lt_of_lt_of_le (show a < 2 ^ 64 by omega) (Nat.pow_le_pow_right (by decide) (by omega)))
        rw [h3]
        rfl
  rw [e]
theorem and_le16 (a b : Nat) (ha : a ≤ 65535) (hb : b ≤ 32768) : a ||| b < 65536 := Nat.or_lt_two_pow (n := 16) (by omega) (by omega)
theorem or_bit {x : Int} {t : Nat} (x0 : 0 ≤ x) (x1 : x ≤ 65535) (ht : t ≤ 15) : 0 ≤ Go.bits .or .i64 x (2 ^ t) ∧ Go.bits .or .i64 x (2 ^ t) ≤ 65535 ∧ ∀ j, bitI (Go.bits .or .i64 x (2 ^ t)) j = (bitI x j || decide (t = j)) := by
  obtain ⟨a, rfl⟩ := Int.eq_ofNat_of_zero_le x0
  have p := pow15 ht
  rw [pow_cast, (bits_nat64 a (2 ^ t) (by omega) (by omega)).2.1]
  have hlt : a ||| 2 ^ t < 65536 := and_le16 a (2 ^ t) (by omega) p
  refine ⟨Int.natCast_nonneg _, Int.ofNat_le.2 (Nat.le_of_lt_succ hlt), fun j => ?_⟩
  unfold bitI
  rw [Int.toNat_natCast, Int.toNat_natCast, Nat.testBit_or, Nat.testBit_two_pow]
theorem rd_set_nat (ws : List Int) (k j : Nat) (y : Int) (hk : k < ws.length) : rd (ws.set k y) (j : Int) = if k = j then y else rd ws (j : Int) := by
  unfold rd
  rw [Int.toNat_natCast, List.getD_eq_getElem?_getD, List.getD_eq_getElem?_getD, List.getElem?_set]
  by_cases c : k = j
  · subst c
    simp [hk]
  · simp [c]
theorem set_rd (ws : List Int) (k : Nat) (hk : k < ws.length) : ws.set k (rd ws (k : Int)) = ws := by
  rw [rd_nat ws k hk]
  exact List.set_getElem_self hk
def setW (ws : List Int) (i : Nat) : List Int := ws.set (i / 16) (Go.bits .or .i64 (rd ws ((i / 16 : Nat) : Int)) (2 ^ (i % 16)))
def Low (ws : List Int) (i : Nat) : Prop := (∀ x ∈ ws, 0 ≤ x ∧ x ≤ 65535) ∧ ∀ p, i ≤ p → bitV ws p = false
theorem Low.next {ws : List Int} {i : Nat} (h : Low ws i) : Low ws (i + 1) := ⟨h.1, fun p hp => h.2 p (by omega)⟩
theorem Low.set {ws : List Int} {i : Nat} (h : Low ws i) (hi : i / 16 < ws.length) : Low (setW ws i) (i + 1) := by
  have r := rd_range h.1 ((i / 16 : Nat) : Int)
  have o := or_bit (t := i % 16) r.1 r.2 (by omega)
  refine ⟨fun x hx => ?_, fun p hp => ?_⟩
  · rcases List.mem_or_eq_of_mem_set hx with h1 | rfl
    · exact h.1 x h1
    · exact ⟨o.1, o.2.1⟩
  · unfold bitV setW
    rw [rd_set_nat _ _ _ _ hi]
    by_cases c : i / 16 = p / 16
    · have h2 := h.2 p (by omega)
      unfold bitV at h2
      rw [if_pos c, o.2.2, c, h2, Bool.false_or, decide_eq_false_iff_not]
      omega
    · rw [if_neg c]
      exact h.2 p (by omega)
theorem shl_bit (i : Nat) : shl .i64 1 ((i % 16 : Nat) : Int) = 2 ^ (i % 16) := by
  rw [shl_one (by omega) (by omega), Int.toNat_natCast]
theorem impl_Bits_set_in53_0_eq (n : Int) (ws : List Int) (i : Nat) (v : Bool) (h : Low ws i) (hi : i / 16 < ws.length) (hi2 : i ≤ 1000000) : impl_Bits_set_in53_0.f n ws (i : Int) v = some (if v = true then setW ws i else ws) := by
  unfold impl_Bits_set_in53_0.f
  have e1 : Int.tdiv (i : Int) 16 = ((i / 16 : Nat) : Int) := by rw [tdiv_pos (by omega)]; rfl
  have e2 : Int.tmod (i : Int) 16 = ((i % 16 : Nat) : Int) := by rw [tmod_pos (by omega)]; rfl
  have r := rd_range h.1 ((i / 16 : Nat) : Int)
  have hb : bitI (rd ws ((i / 16 : Nat) : Int)) (i % 16) = false := h.2 i (Nat.le_refl _)
  rw [e1, e2, w64 (n := ((i / 16 : Nat) : Int)) (by omega) (by omega), if_pos (by omega), if_pos (by omega), if_pos (by omega), shl_bit, andNot_off r.1 r.2 (by omega) hb, Int.toNat_natCast, set_rd ws _ hi]
  simp only [Option.bind_some]
  cases v <;> rfl
theorem spec_biSet_eq (n : Int) (ws : List Int) (i : Nat) (hi : i / 16 < ws.length) (hi2 : i ≤ 1000000) : spec_biSet.f n ws (i : Int) = some (setW ws i) := by
  unfold spec_biSet.f
  have e1 : Int.tdiv (i : Int) 16 = ((i / 16 : Nat) : Int) := by rw [tdiv_pos (by omega)]; rfl
  have e2 : Int.tmod (i : Int) 16 = ((i % 16 : Nat) : Int) := by rw [tmod_pos (by omega)]; rfl
  rw [e1, e2, w64 (n := ((i / 16 : Nat) : Int)) (by omega) (by omega), if_pos (by omega), if_pos (by omega), if_pos (by omega), shl_bit, Int.toNat_natCast]
  rfl
theorem sixteen {i q m : Nat} (h : i < q) (h2 : q ≤ 16 * m) : i / 16 < m := by omega
theorem wrap_succ {i q : Nat} (h : i < q) (h2 : q ≤ 5000) : wrap64 ((i : Int) + 1) = ((i + 1 : Nat) : Int) := by rw [w64 (by omega) (by omega)]; rfl
theorem low_zero (m : Nat) : Low (List.replicate m 0) 0 := by
  refine ⟨fun x hx => ?_, fun p _ => ?_⟩
  · have := List.eq_of_mem_replicate hx
    omega
  · unfold bitV
    have e : rd (List.replicate m 0) ((p / 16 : Nat) : Int) = 0 := by
      unfold rd
      rw [List.getD_eq_getElem?_getD, List.getElem?_replicate]
      split <;> rfl
    rw [e, bitI_zero]
def blankW (n : Int) : List Int := List.replicate ((n + 15) / 16).toNat 0
/-- The vector whose ones are the places from i on where p holds. -/
def fromW (p : Nat → Bool) : Nat → Nat → List Int → List Int
  | _, 0, ws => ws
  | i, d + 1, ws => fromW p (i + 1) d (if p i = true then setW ws i else ws)
theorem if_length (p : Nat → Bool) (ws : List Int) (i : Nat) : (if p i = true then setW ws i else ws).length = ws.length := by
  by_cases c : p i = true
  · rw [if_pos c, setW, List.length_set]
  · rw [if_neg c]
theorem if_low (p : Nat → Bool) (ws : List Int) (i : Nat) (h : Low ws i) (hi : i / 16 < ws.length) : Low (if p i = true then setW ws i else ws) (i + 1) := by
  by_cases c : p i = true
  · rw [if_pos c]; exact h.set hi
  · rw [if_neg c]; exact h.next
theorem fromW_length (p : Nat → Bool) (d : Nat) : ∀ i ws, (fromW p i d ws).length = ws.length := by
  induction d with
  | zero => intro i ws; rfl
  | succ d ih => intro i ws; rw [fromW, ih, if_length]
theorem fromW_none (p : Nat → Bool) : ∀ d i ws, (∀ j, i ≤ j → j < i + d → p j = false) → fromW p i d ws = ws := by
  intro d
  induction d with
  | zero => intro i ws _; rfl
  | succ d ih =>
    intro i ws h
    rw [fromW, h i (Nat.le_refl _) (by omega), if_neg (by decide)]
    exact ih (i + 1) ws (fun j h1 h2 => h j (by omega) (by omega))
theorem fromW_add (p : Nat → Bool) (d2 : Nat) : ∀ d1 i ws, fromW p i (d1 + d2) ws = fromW p (i + d1) d2 (fromW p i d1 ws) := by
  intro d1
  induction d1 with
  | zero => intro i ws; rw [Nat.zero_add]; rfl
  | succ d ih => intro i ws; rw [show d + 1 + d2 = (d + d2) + 1 from by omega, fromW, fromW, ih, show i + 1 + d = i + (d + 1) from by omega]
theorem fromW_one (p : Nat → Bool) (i d x : Nat) (ws : List Int) (h1 : i ≤ x) (h2 : x < i + d) (hx : p x = true) (hn : ∀ j, i ≤ j → j < x → p j = false) : fromW p i d ws = fromW p (x + 1) (i + d - (x + 1)) (setW ws x) := by
  rw [show d = (x - i) + ((i + d - (x + 1)) + 1) from by omega, fromW_add, fromW_none p (x - i) i ws (fun j h3 h4 => hn j h3 (by omega)), show i + (x - i) = x from by omega, fromW, if_pos hx]
  congr 1
  omega
theorem spec_l1In_eq (a b c : Int) : spec_l1In.f a b c = some (decide (b ≤ a ∧ a ≤ c)) := by
  unfold spec_l1In.f
  by_cases h : b ≤ a <;> simp [h]
theorem impl_in_eq (a b c : Int) : impl_in.f a b c = some (decide (b ≤ a ∧ a ≤ c)) := by
  unfold impl_in.f
  by_cases h : b ≤ a <;> simp [h]
theorem laws_toIntS_l0 (l : List Int) (hl : l.length ≤ 9223372036854775807) (d : Nat) : ∀ (i : Nat) (o : List Int), o.length = l.length → o.take i = l.take i → i + d = l.length → Ev (fun k => laws_toIntS.l0 k l o (i : Int)) l := by
  induction d with
  | zero =>
    intro i o ho ht hi
    refine Ev.succ ?_
    have h1 : ¬ ((i : Int) < (l.length : Int)) := by omega
    simp only [laws_toIntS.l0, h1, ↓reduceIte]
    rw [List.take_of_length_le (by omega), List.take_of_length_le (by omega)] at ht
    exact Ev.some_ ht
  | succ d ih =>
    intro i o ho ht hi
    refine Ev.succ ?_
    have h1 : (i : Int) < (l.length : Int) := by omega
    have h2 : (0 : Int) ≤ (i : Int) := by omega
    have h3 : (i : Int) < (o.length : Int) := by omega
    have hw : wrap64 ((i : Int) + 1) = ((i + 1 : Nat) : Int) := by rw [w64 (by omega) (by omega)]; rfl
    simp only [laws_toIntS.l0, h1, h2, h3, ↓reduceIte, hw, Int.toNat_natCast]
    exact ih (i + 1) _ (by simp [ho]) (by rw [take_set_succ _ _ _ (by omega), ht, rd_nat _ _ (by omega), List.take_succ_eq_append_getElem (by omega)]) (by omega)
theorem laws_toIntS_ev (l : List Int) (hl : l.length ≤ 35184372088832) : Ev (fun k => laws_toIntS.f k l) l := by
  have h1 : 0 ≤ (l.length : Int) := by omega
  have h2 : ((l.length : Int)).toNat ≤ 35184372088832 := by omega
  simp only [laws_toIntS.f, h1, h2, ↓reduceIte]
  exact laws_toIntS_l0 l (by omega) l.length 0 _ (by simp) (by simp) (by omega)
theorem laws_markIntS_l0 (m : Int) (n : Nat) (h0 : 0 ≤ m) (hm : m + n ≤ 4611686018427387904) (d : Nat) : ∀ (i : Nat) (l : List Int), l.length = n → l.take i = marks m i → i + d = n → Ev (fun k => laws_markIntS.l0 k l (m + i) (i : Int)) (m + n, marks m n) := by
  induction d with
  | zero =>
    intro i l hl ht hi
    obtain rfl : i = n := by omega
    refine Ev.succ ?_
    have h1 : ¬ ((i : Int) < (l.length : Int)) := by omega
    simp only [laws_markIntS.l0, h1, ↓reduceIte]
    rw [List.take_of_length_le (by omega)] at ht
    exact Ev.some_ (by rw [ht])
  | succ d ih =>
    intro i l hl ht hi
    refine Ev.succ ?_
    have h1 : (i : Int) < (l.length : Int) := by omega
    have h2 : (0 : Int) ≤ (i : Int) := by omega
    have hw : wrap64 ((i : Int) + 1) = ((i + 1 : Nat) : Int) := by rw [w64 (by omega) (by omega)]; rfl
    have hw2 : wrap64 (m + (i : Int) + 1) = m + ((i + 1 : Nat) : Int) := by rw [w64 (by omega) (by omega)]; omega
    simp only [laws_markIntS.l0, h1, h2, ↓reduceIte, hw, hw2, Int.toNat_natCast]
    exact ih (i + 1) (l.set i (m + i)) (by simp [hl]) (by rw [take_set_succ _ _ _ (by omega), ht, marks_succ]) (by omega)
theorem laws_markIntS_ev (l : List Int) (m : Int) (h0 : 0 ≤ m) (hm : m + l.length ≤ 4611686018427387904) : Ev (fun k => laws_markIntS.f k l m) (m + l.length, marks m l.length) := by
  have h := laws_markIntS_l0 m l.length h0 hm l.length 0 l rfl (by simp [marks]) (by omega)
  simpa [laws_markIntS.f] using h
theorem laws_heldIntS_ev (m : Int) (n : Nat) (h0 : 0 ≤ m) (hm : m + n ≤ 4611686018427387904) : Ev (fun k => laws_heldIntS.f k (marks m n) m) (m + n) := by
  have h := Ev.up (L := fun k i => laws_heldIntS.l0 k (marks m n) (m + (i : Int)) (i : Int)) (r := fun _ => m + n) n ?_ ?_ 0 (Nat.zero_le _)
  · simpa [laws_heldIntS.f] using h
  · refine Ev.succ ?_
    have h1 : ¬ ((n : Int) < ((marks m n).length : Int)) := by rw [marks_length]; omega
    simp only [laws_heldIntS.l0, h1, ↓reduceIte]
    exact Ev.now _
  · intro i hi ih
    refine Ev.succ ?_
    have h1 : (i : Int) < ((marks m n).length : Int) := by rw [marks_length]; omega
    have h2 : (0 : Int) ≤ (i : Int) := by omega
    have h3 : rd (marks m n) (i : Int) = m + i := by rw [rd_nat _ _ (by rw [marks_length]; exact hi)]; simp [marks]
    have hw : wrap64 ((i : Int) + 1) = ((i + 1 : Nat) : Int) := by rw [w64 (by omega) (by omega)]; rfl
    have hw2 : wrap64 (m + (i : Int) + 1) = m + ((i + 1 : Nat) : Int) := by rw [w64 (by omega) (by omega)]; omega
    simp only [laws_heldIntS.l0, h1, h2, h3, ↓reduceIte, hw, hw2]
    exact ih
theorem laws_eqIntS_self (l : List Int) (hl : l.length ≤ 9223372036854775807) : Ev (fun k => laws_eqIntS.f k l l) true := by
  unfold laws_eqIntS.f
  simp only [↓reduceIte]
  refine Ev.up (L := fun k i => laws_eqIntS.l0 k l l (i : Int)) (r := fun _ => true) l.length ?_ ?_ 0 (Nat.zero_le _)
  · refine Ev.succ ?_
    have h1 : ¬ ((l.length : Int) < (l.length : Int)) := by omega
    simp only [laws_eqIntS.l0, h1, ↓reduceIte]
    exact Ev.now _
  · intro i hi ih
    refine Ev.succ ?_
    have h1 : (i : Int) < (l.length : Int) := by omega
    have h2 : (0 : Int) ≤ (i : Int) := by omega
    have hw : wrap64 ((i : Int) + 1) = ((i + 1 : Nat) : Int) := by rw [w64 (by omega) (by omega)]; rfl
    simp only [laws_eqIntS.l0, h1, h2, ↓reduceIte, hw]
    exact ih
theorem laws_szIntS_eq (l : List Int) (a : Int) (h0 : 0 ≤ a) (h1 : a ≤ 1048576) (hl : l.length ≤ 9223372036854775807) : laws_szIntS.f l a = some (if (l.length : Int) ≤ a then a - l.length else -1) := by
  unfold laws_szIntS.f
  rw [w64 (by omega) (by omega)]
  by_cases c : (l.length : Int) ≤ a
  · rw [if_neg (by omega), if_pos c]
  · rw [if_pos (by omega), if_neg c]

/-! ### rows of rows -/
def totL (ls : List (List Int)) : Nat := (ls.map List.length).sum
theorem totL_cons (r : List Int) (ls : List (List Int)) : totL (r :: ls) = r.length + totL ls := by simp [totL]
def marksL : Int → List (List Int) → List (List Int)
 | _, [] => []
 | m, r :: rs => marks m r.length :: marksL (m + (r.length : Int)) rs
theorem mid_get (pre rs : List (List Int)) (r : List Int) : (pre ++ r :: rs).getD ((pre.length : Nat) : Int).toNat [] = r := by
  rw [Int.toNat_natCast, List.getD_eq_getElem?_getD, List.getElem?_append_right (Nat.le_refl _), Nat.sub_self]
  rfl
theorem mid_set {α : Type} (pre rs : List α) (r y : α) : (pre ++ r :: rs).set ((pre.length : Nat) : Int).toNat y = (pre ++ [y]) ++ rs := by
  rw [Int.toNat_natCast, List.set_append_right (h := Nat.le_refl _), Nat.sub_self, List.set_cons_zero, List.append_assoc]
  rfl
theorem laws_markIntSS_l0 : ∀ (rest pre : List (List Int)) (m : Int), 0 ≤ m → m + (totL rest : Int) ≤ 4611686018427387904 → pre.length + rest.length ≤ 2000000 → Ev (fun k => laws_markIntSS.l0 k (pre ++ rest) m ((pre.length : Nat) : Int)) (m + (totL rest : Int), pre ++ marksL m rest) := by
  intro rest
  induction rest with
  | nil =>
    intro pre m h0 hm hl
    refine Ev.succ ?_
    have h1 : ¬ ((pre.length : Int) < ((pre ++ ([] : List (List Int))).length : Int)) := by rw [List.append_nil]; omega
    simp only [laws_markIntSS.l0, h1, ↓reduceIte]
    exact Ev.some_ (by simp [totL, marksL])
  | cons r rs ih =>
    intro pre m h0 hm hl
    rw [totL_cons] at hm ⊢
    rw [List.length_cons] at hl
    refine Ev.succ ?_
    have h1 : (pre.length : Int) < ((pre ++ r :: rs).length : Int) := by rw [List.length_append, List.length_cons]; omega
    have h2 : (0 : Int) ≤ (pre.length : Int) := by omega
    have hr : laws_markIntSS.row (pre ++ r :: rs) ((pre.length : Nat) : Int) = r := mid_get pre rs r
    simp only [laws_markIntSS.l0, h1, h2, ↓reduceIte, hr]
    refine Ev.bind (laws_markIntS_ev r m h0 (by omega)) ?_
    rw [mid_set, show wrap64 ((pre.length : Int) + 1) = (((pre ++ [marks m r.length]).length : Nat) : Int) from by rw [w64 (by omega) (by omega), List.length_append]; rfl]
    have h := ih (pre ++ [marks m r.length]) (m + (r.length : Int)) (by omega) (by omega) (by rw [List.length_append, List.length_singleton]; omega)
    rw [marksL, show m + ((r.length + totL rs : Nat) : Int) = m + (r.length : Int) + (totL rs : Int) from by omega]
    rw [List.append_assoc, List.singleton_append, List.append_assoc, List.singleton_append] at h
    rw [show (pre ++ [marks m r.length] ++ rs) = pre ++ marks m r.length :: rs from by rw [List.append_assoc, List.singleton_append]]
    exact h
theorem laws_markIntSS_ev (ls : List (List Int)) (h1 : totL ls ≤ 1048576) (h2 : ls.length ≤ 1048576) : Ev (fun k => laws_markIntSS.f k ls 1) (1 + (totL ls : Int), marksL 1 ls) := laws_markIntSS_l0 ls [] 1 (by omega) (by omega) (by rw [List.length_nil]; omega)
theorem rd_rows (ls : List (List Int)) (i : Nat) (hi : i < ls.length) : rd_L2 ls (i : Int) = ls[i] := by
  unfold rd_L2
  rw [Int.toNat_natCast, List.getD_eq_getElem?_getD, List.getElem?_eq_getElem hi]
  rfl
theorem laws_eqIntSS_self (ls : List (List Int)) (h1 : ∀ r ∈ ls, r.length ≤ 1048576) (h2 : ls.length ≤ 1048576) : Ev (fun k => laws_eqIntSS.f k ls ls) true := by
  unfold laws_eqIntSS.f
  simp only [↓reduceIte]
  refine Ev.up (L := fun k i => laws_eqIntSS.l0 k ls ls (i : Int)) (r := fun _ => true) ls.length ?_ ?_ 0 (Nat.zero_le _)
  · refine Ev.succ ?_
    have h1 : ¬ ((ls.length : Int) < (ls.length : Int)) := by omega
    simp only [laws_eqIntSS.l0, h1, ↓reduceIte]
    exact Ev.now _
  · intro i hi ih
    refine Ev.succ ?_
    have h3 : (i : Int) < (ls.length : Int) := by omega
    have h4 : (0 : Int) ≤ (i : Int) := by omega
    have hw : wrap64 ((i : Int) + 1) = ((i + 1 : Nat) : Int) := by rw [w64 (by omega) (by omega)]; rfl
    simp only [laws_eqIntSS.l0, h3, h4, ↓reduceIte, hw, rd_rows ls i hi]
    refine Ev.bind (laws_eqIntS_self _ (by have := h1 _ (List.getElem_mem hi); omega)) ?_
    simp only [↓reduceIte]
    exact ih
theorem laws_toIntSS_ev (ls : List (List Int)) (h1 : ∀ r ∈ ls, r.length ≤ 1048576) (h2 : ls.length ≤ 1048576) : Ev (fun k => laws_toIntSS.f k ls) ls := by
  unfold laws_toIntSS.f
  simp only [show (0 : Int) ≤ (ls.length : Int) from by omega, Int.toNat_natCast, show ls.length ≤ 11728124029610 from by omega, ↓reduceIte]
  suffices H : ∀ d i : Nat, ∀ o : List (List Int), o.length = ls.length → o.take i = ls.take i → i + d = ls.length → Ev (fun k => laws_toIntSS.l0 k ls o (i : Int)) ls from H ls.length 0 (List.replicate ls.length []) (by simp) (by simp) (by omega)
  intro d
  induction d with
  | zero =>
    intro i o ho ht hi
    refine Ev.succ ?_
    have h1 : ¬ ((i : Int) < (ls.length : Int)) := by omega
    simp only [laws_toIntSS.l0, h1, ↓reduceIte]
    rw [List.take_of_length_le (by omega), List.take_of_length_le (by omega)] at ht
    exact Ev.some_ ht
  | succ d ih =>
    intro i o ho ht hi
    refine Ev.succ ?_
    have h0 : i < ls.length := by omega
    have h3 : (i : Int) < (ls.length : Int) := by omega
    have h4 : (0 : Int) ≤ (i : Int) := by omega
    have h5 : (i : Int) < (o.length : Int) := by omega
    have hw : wrap64 ((i : Int) + 1) = ((i + 1 : Nat) : Int) := by rw [w64 (by omega) (by omega)]; rfl
    simp only [laws_toIntSS.l0, h3, h4, h5, ↓reduceIte, hw, rd_rows ls i h0]
    refine Ev.bind (laws_toIntS_ev _ (by have := h1 _ (List.getElem_mem h0); omega)) ?_
    rw [Int.toNat_natCast]
    exact ih (i + 1) (o.set i ls[i]) (by simp [ho]) (by rw [take_set_succ _ _ _ (by omega), ht, List.take_succ_eq_append_getElem h0]) (by omega)
def szL : List (List Int) → Int → Int
  | [], m => m
  | r :: rs, m => if (r.length : Int) ≤ m then szL rs (m - (r.length : Int)) else -1
theorem szL_of (ls : List (List Int)) : ∀ m : Int, 0 ≤ szL ls m → (totL ls : Int) ≤ m ∧ ∀ r ∈ ls, (r.length : Int) ≤ m := by
  induction ls with
  | nil => intro m h; exact ⟨by simpa [totL, szL] using h, fun r hr => by cases hr⟩
  | cons x rs ih =>
    intro m h
    unfold szL at h
    by_cases c : (x.length : Int) ≤ m
    · rw [if_pos c] at h
      obtain ⟨h1, h2⟩ := ih _ h
      rw [totL_cons]
      refine ⟨by omega, fun r hr => ?_⟩
      rcases List.mem_cons.1 hr with rfl | hr
      · exact c
      · have := h2 r hr; omega
    · rw [if_neg c] at h; omega
theorem laws_szIntSS_l0 (l : List (List Int)) (hl : l.length ≤ 9223372036854775807) (hs : ∀ b ∈ l, b.length ≤ 9223372036854775807) (d : Nat) : ∀ (i : Nat) (m : Int), i + d = l.length → 0 ≤ m → m ≤ 1048576 → Ev (fun k => laws_szIntSS.l0 k l m (i : Int)) (szL (l.drop i) m) := by
  induction d with
  | zero =>
    intro i m hi m0 m1
    refine Ev.succ ?_
    have h1 : ¬ ((i : Int) < (l.length : Int)) := by omega
    simp only [laws_szIntSS.l0, h1, ↓reduceIte]
    exact Ev.some_ (by rw [List.drop_eq_nil_of_le (by omega)]; rfl)
  | succ d ih =>
    intro i m hi m0 m1
    refine Ev.succ ?_
    have h0 : i < l.length := by omega
    have h1 : (i : Int) < (l.length : Int) := by omega
    have h2 : (0 : Int) ≤ (i : Int) := by omega
    have hw : wrap64 ((i : Int) + 1) = ((i + 1 : Nat) : Int) := by rw [w64 (by omega) (by omega)]; rfl
    have hz := hs _ (List.getElem_mem h0)
    rw [drop_cons l i h0]
    simp only [laws_szIntSS.l0, h1, h2, ↓reduceIte, hw, rd_rows l i h0, laws_szIntS_eq _ m m0 m1 hz, Option.bind_some, szL]
    by_cases c : ((l[i]).length : Int) ≤ m
    · simp only [c, ↓reduceIte, show ¬ (m - ((l[i]).length : Int) < 0) from by omega]
      exact ih (i + 1) _ (by omega) (by omega) (by omega)
    · simp only [c, ↓reduceIte, show ((-1 : Int) < 0) from by decide]; exact Ev.now _
def szHy (l : List (List Int)) : Int := if 1048576 - (l.length : Int) < 0 then -1 else if szL l (1048576 - (l.length : Int)) < 0 then -1 else szL l (1048576 - (l.length : Int))
theorem laws_szHyper_ev (a : Int) (l : List (List Int)) (hl : l.length ≤ 9223372036854775807) (hs : ∀ b ∈ l, b.length ≤ 9223372036854775807) : Ev (fun k => laws_szHyper.f k a l 1048576) (szHy l) := by
  unfold laws_szHyper.f laws_szIntSS.f szHy
  rw [w64 (by omega) (by omega)]
  by_cases c : 1048576 - (l.length : Int) < 0
  · simp only [c, ↓reduceIte]
    exact Ev.bind (Ev.now _) (by simp only [show ((-1 : Int) < 0) from by decide, ↓reduceIte]; exact Ev.now _)
  · simp only [c, ↓reduceIte]
    have h := laws_szIntSS_l0 l hl hs l.length 0 (1048576 - (l.length : Int)) (by omega) (by omega) (by omega)
    rw [List.drop_zero] at h
    refine Ev.bind h ?_
    by_cases c2 : szL l (1048576 - (l.length : Int)) < 0
    · simp only [c2, ↓reduceIte]; exact Ev.now _
    · simp only [c2, ↓reduceIte]; exact Ev.now _
theorem szHy_of {l : List (List Int)} (h : ¬ szHy l < 0) : l.length ≤ 1048576 ∧ totL l ≤ 1048576 ∧ ∀ r ∈ l, r.length ≤ 1048576 := by
  unfold szHy at h
  by_cases c : 1048576 - (l.length : Int) < 0
  · rw [if_pos c] at h; exact absurd (by decide) h
  · rw [if_neg c] at h
    by_cases c2 : szL l (1048576 - (l.length : Int)) < 0
    · rw [if_pos c2] at h; exact absurd (by decide) h
    · obtain ⟨h1, h2⟩ := szL_of l (1048576 - (l.length : Int)) (by omega)
      exact ⟨by omega, by omega, fun r hr => by have := h2 r hr; omega⟩
/-! ### marks of bools, of bits -/
def m3 (v : Int) : Bool := Int.tmod v 3 == 0
theorem laws_markBoolS_ev (l : List Bool) (m : Int) (h0 : 0 ≤ m) (hm : m + l.length ≤ 4611686018427387904) : Ev (fun k => laws_markBoolS.f k l m) (m + l.length, marksOf m3 m l.length) := by
  unfold laws_markBoolS.f
  suffices H : ∀ d i : Nat, ∀ o : List Bool, o.length = l.length → o.take i = marksOf m3 m i → i + d = l.length → Ev (fun k => laws_markBoolS.l0 k o (m + (i : Int)) (i : Int)) (m + l.length, marksOf m3 m l.length) from by
    have := H l.length 0 l rfl (by simp [marksOf]) (by omega)
    simpa using this
  intro d
  induction d with
  | zero =>
    intro i o ho ht hi
    obtain rfl : i = l.length := by omega
    refine Ev.succ ?_
    have h1 : ¬ ((l.length : Int) < (o.length : Int)) := by omega
    simp only [laws_markBoolS.l0, h1, ↓reduceIte]
    rw [List.take_of_length_le (by omega)] at ht
    exact Ev.some_ (by rw [ht])
  | succ d ih =>
    intro i o ho ht hi
    refine Ev.succ ?_
    have h1 : (i : Int) < (o.length : Int) := by omega
    have h2 : (0 : Int) ≤ (i : Int) := by omega
    have hw : wrap64 ((i : Int) + 1) = ((i + 1 : Nat) : Int) := by rw [w64 (by omega) (by omega)]; rfl
    have hw2 : wrap64 (m + (i : Int) + 1) = m + ((i + 1 : Nat) : Int) := by rw [w64 (by omega) (by omega)]; omega
    simp only [laws_markBoolS.l0, h1, h2, ↓reduceIte, hw, hw2, Int.toNat_natCast]
    exact ih (i + 1) (o.set i (m3 (m + i))) (by simp [ho]) (by rw [take_set_succ _ _ _ (by omega), ht, marksOf_succ]) (by omega)
theorem laws_heldBoolS_ev (m : Int) (n : Nat) (h0 : 0 ≤ m) (hm : m + n ≤ 4611686018427387904) : Ev (fun k => laws_heldBoolS.f k (marksOf m3 m n) m) (m + n) := by
  have h := Ev.up (L := fun k i => laws_heldBoolS.l0 k (marksOf m3 m n) (m + (i : Int)) (i : Int)) (r := fun _ => m + n) n ?_ ?_ 0 (Nat.zero_le _)
  · simpa [laws_heldBoolS.f] using h
  · refine Ev.succ ?_
    have h1 : ¬ ((n : Int) < ((marksOf m3 m n).length : Int)) := by rw [marksOf_length]; omega
    simp only [laws_heldBoolS.l0, h1, ↓reduceIte]
    exact Ev.now _
  · intro i hi ih
    refine Ev.succ ?_
    have h1 : (i : Int) < ((marksOf m3 m n).length : Int) := by rw [marksOf_length]; omega
    have h2 : (0 : Int) ≤ (i : Int) := by omega
    have h3 : rdOf false (marksOf m3 m n) (i : Int) = (Int.tmod (m + (i : Int)) 3 == 0) := by
      unfold rdOf marksOf
      rw [Int.toNat_natCast, List.getD_eq_getElem?_getD, List.getElem?_map, List.getElem?_range hi]
      rfl
    have hw : wrap64 ((i : Int) + 1) = ((i + 1 : Nat) : Int) := by rw [w64 (by omega) (by omega)]; rfl
    have hw2 : wrap64 (m + (i : Int) + 1) = m + ((i + 1 : Nat) : Int) := by rw [w64 (by omega) (by omega)]; omega
    simp only [laws_heldBoolS.l0, h1, h2, h3, ↓reduceIte, hw, hw2, bne_self_eq_false, Bool.false_eq_true]
    exact ih
def totB (bs : List S53) : Nat := (bs.map fun b => b.f1.length + 1).sum
theorem totB_cons (b : S53) (bs : List S53) : totB (b :: bs) = b.f1.length + 1 + totB bs := by simp [totB]
def marksB : Int → List S53 → List S53
 | _, [] => []
 | m, b :: bs => ⟨m, marks (m + 1) b.f1.length⟩ :: marksB (m + 1 + (b.f1.length : Int)) bs
theorem midB (pre rs : List S53) (r : S53) : (pre ++ r :: rs).getD ((pre.length : Nat) : Int).toNat z53 = r := by
  rw [Int.toNat_natCast, List.getD_eq_getElem?_getD, List.getElem?_append_right (Nat.le_refl _), Nat.sub_self]
  rfl
theorem laws_markBitsS_l0 : ∀ (rest pre : List S53) (m : Int), 0 ≤ m → m + (totB rest : Int) ≤ 4611686018427387904 → pre.length + rest.length ≤ 2000000 → Ev (fun k => laws_markBitsS.l0 k (pre ++ rest) m ((pre.length : Nat) : Int)) (m + (totB rest : Int), pre ++ marksB m rest) := by
  intro rest
  induction rest with
  | nil =>
    intro pre m h0 hm hl
    refine Ev.succ ?_
    have h1 : ¬ ((pre.length : Int) < ((pre ++ ([] : List S53)).length : Int)) := by rw [List.append_nil]; omega
    simp only [laws_markBitsS.l0, h1, ↓reduceIte]
    exact Ev.some_ (by simp [totB, marksB])
  | cons r rs ih =>
    intro pre m h0 hm hl
    rw [totB_cons] at hm ⊢
    rw [List.length_cons] at hl
    refine Ev.succ ?_
    have h1 : (pre.length : Int) < ((pre ++ r :: rs).length : Int) := by rw [List.length_append, List.length_cons]; omega
    have h2 : (0 : Int) ≤ (pre.length : Int) := by omega
    have hr : laws_markBitsS.row (pre ++ r :: rs) ((pre.length : Nat) : Int) = r := midB pre rs r
    have hw : wrap64 (m + 1) = m + 1 := w64 (by omega) (by omega)
    simp only [laws_markBitsS.l0, h1, h2, ↓reduceIte, hr, hw]
    refine Ev.bind (laws_markIntS_ev r.f1 (m + 1) (by omega) (by omega)) ?_
    rw [mid_set, show wrap64 ((pre.length : Int) + 1) = (((pre ++ [(⟨m, marks (m + 1) r.f1.length⟩ : S53)]).length : Nat) : Int) from by rw [w64 (by omega) (by omega), List.length_append]; rfl]
    have h := ih (pre ++ [(⟨m, marks (m + 1) r.f1.length⟩ : S53)]) (m + 1 + (r.f1.length : Int)) (by omega) (by omega) (by rw [List.length_append, List.length_singleton]; omega)
    rw [marksB, show m + ((r.f1.length + 1 + totB rs : Nat) : Int) = m + 1 + (r.f1.length : Int) + (totB rs : Int) from by omega]
    rw [List.append_assoc, List.singleton_append, List.append_assoc, List.singleton_append] at h
    rw [List.append_assoc, List.singleton_append]
    exact h
theorem laws_heldBitsS_l0 : ∀ (rest pre : List S53) (m : Int), 0 ≤ m → m + (totB rest : Int) ≤ 4611686018427387904 → pre.length + rest.length ≤ 2000000 → Ev (fun k => laws_heldBitsS.l0 k (pre ++ marksB m rest) m ((pre.length : Nat) : Int)) (m + (totB rest : Int)) := by
  intro rest
  induction rest with
  | nil =>
    intro pre m h0 hm hl
    refine Ev.succ ?_
    have h1 : ¬ ((pre.length : Int) < ((pre ++ marksB m []).length : Int)) := by rw [marksB, List.append_nil]; omega
    simp only [laws_heldBitsS.l0, h1, ↓reduceIte]
    exact Ev.some_ (by simp [totB])
  | cons r rs ih =>
    intro pre m h0 hm hl
    rw [totB_cons] at hm ⊢
    rw [List.length_cons] at hl
    refine Ev.succ ?_
    rw [marksB]
    have h1 : (pre.length : Int) < ((pre ++ (⟨m, marks (m + 1) r.f1.length⟩ : S53) :: marksB (m + 1 + (r.f1.length : Int)) rs).length : Int) := by rw [List.length_append, List.length_cons]; omega
    have h2 : (0 : Int) ≤ (pre.length : Int) := by omega
    have hr : rd_T53 (pre ++ (⟨m, marks (m + 1) r.f1.length⟩ : S53) :: marksB (m + 1 + (r.f1.length : Int)) rs) ((pre.length : Nat) : Int) = ⟨m, marks (m + 1) r.f1.length⟩ := midB pre _ _
    have hw : wrap64 (m + 1) = m + 1 := w64 (by omega) (by omega)
    simp only [laws_heldBitsS.l0, h1, h2, ↓reduceIte, hr, hw]
    refine Ev.bind (laws_heldIntS_ev (m + 1) r.f1.length (by omega) (by omega)) ?_
    simp only [show ¬ (m + 1 + (r.f1.length : Int) < 0) from by omega, ↓reduceIte]
    rw [show wrap64 ((pre.length : Int) + 1) = (((pre ++ [(⟨m, marks (m + 1) r.f1.length⟩ : S53)]).length : Nat) : Int) from by rw [w64 (by omega) (by omega), List.length_append]; rfl]
    have h := ih (pre ++ [(⟨m, marks (m + 1) r.f1.length⟩ : S53)]) (m + 1 + (r.f1.length : Int)) (by omega) (by omega) (by rw [List.length_append, List.length_singleton]; omega)
    rw [show m + ((r.f1.length + 1 + totB rs : Nat) : Int) = m + 1 + (r.f1.length : Int) + (totB rs : Int) from by omega]
    rw [List.append_assoc, List.singleton_append] at h
    exact h
theorem laws_markSystem_ev (a : Int) (bs : List S53) (rs : List Bool) (h1 : totB bs ≤ 1048576) (h2 : bs.length ≤ 1048576) (h3 : rs.length ≤ 1048576) : Ev (fun k => laws_markSystem.f k a bs rs 1) (1 + (totB bs : Int) + rs.length, marksB 1 bs, marksOf m3 (1 + (totB bs : Int)) rs.length) := by
  unfold laws_markSystem.f laws_markBitsS.f
  refine Ev.bind (laws_markBitsS_l0 bs [] 1 (by omega) (by omega) (by rw [List.length_nil]; omega)) ?_
  exact Ev.bind (laws_markBoolS_ev rs _ (by omega) (by omega)) (Ev.now _)
theorem laws_heldSystem_ev (a : Int) (bs : List S53) (rs : List Bool) (h1 : totB bs ≤ 1048576) (h2 : bs.length ≤ 1048576) (h3 : rs.length ≤ 1048576) : Ev (fun k => laws_heldSystem.f k a (marksB 1 bs) (marksOf m3 (1 + (totB bs : Int)) rs.length) 1) (1 + (totB bs : Int) + rs.length) := by
  unfold laws_heldSystem.f laws_heldBitsS.f
  refine Ev.bind (laws_heldBitsS_l0 bs [] 1 (by omega) (by omega) (by rw [List.length_nil]; omega)) ?_
  simp only [show ¬ (1 + (totB bs : Int) < 0) from by omega, ↓reduceIte]
  refine Ev.bind (laws_heldBoolS_ev _ rs.length (by omega) (by omega)) ?_
  simp only [show ¬ (1 + (totB bs : Int) + (rs.length : Int) < 0) from by omega, ↓reduceIte]
  exact Ev.now _
theorem rd_T53_nat (l : List S53) (i : Nat) (h : i < l.length) : rd_T53 l (i : Int) = l[i] := by
  unfold rd_T53
  rw [Int.toNat_natCast, List.getD_eq_getElem?_getD, List.getElem?_eq_getElem h]
  rfl
theorem laws_eqBitsS_self (l : List S53) (hl : l.length ≤ 1048576) (hs : ∀ b ∈ l, b.f1.length ≤ 1048576) : Ev (fun k => laws_eqBitsS.f k l l) true := by
  unfold laws_eqBitsS.f
  simp only [↓reduceIte]
  refine Ev.up (L := fun k i => laws_eqBitsS.l0 k l l (i : Int)) (r := fun _ => true) l.length ?_ ?_ 0 (Nat.zero_le _)
  · refine Ev.succ ?_
    have h1 : ¬ ((l.length : Int) < (l.length : Int)) := by omega
    simp only [laws_eqBitsS.l0, h1, ↓reduceIte]
    exact Ev.now _
  · intro i hi ih
    refine Ev.succ ?_
    have h1 : (i : Int) < (l.length : Int) := by omega
    have h2 : (0 : Int) ≤ (i : Int) := by omega
    have hw : wrap64 ((i : Int) + 1) = ((i + 1 : Nat) : Int) := by rw [w64 (by omega) (by omega)]; rfl
    have hz := hs _ (List.getElem_mem hi)
    simp only [laws_eqBitsS.l0, h1, h2, ↓reduceIte, hw, rd_T53_nat l i hi, laws_eqBits.f]
    refine Ev.bind (a := true) (Ev.bind (laws_eqIntS_self _ (by omega)) (by simp only [↓reduceIte]; exact Ev.now _)) ?_
    simp only [↓reduceIte]
    exact ih
theorem laws_eqSystem_self (a : Int) (bs : List S53) (rs : List Bool) (hl : bs.length ≤ 1048576) (hs : ∀ b ∈ bs, b.f1.length ≤ 1048576) (hr : rs.length ≤ 1048576) : Ev (fun k => laws_eqSystem.f k a bs rs a bs rs) true := by
  unfold laws_eqSystem.f
  simp only [↓reduceIte]
  refine Ev.bind (laws_eqBitsS_self bs hl hs) ?_
  simp only [↓reduceIte]
  refine Ev.bind (laws_eqBoolS_self rs (by omega)) ?_
  simp only [↓reduceIte]
  exact Ev.now _
theorem laws_eqHyper_self (a : Int) (l : List (List Int)) (h1 : ∀ r ∈ l, r.length ≤ 1048576) (h2 : l.length ≤ 1048576) : Ev (fun k => laws_eqHyper.f k a l a l) true := by
  unfold laws_eqHyper.f
  simp only [↓reduceIte]
  refine Ev.bind (laws_eqIntSS_self l h1 h2) ?_
  simp only [↓reduceIte]
  exact Ev.now _
/-! ### the hypergraph -/
def edgeOk (a : Int) : List Int → Bool
  | [x, y, z] => decide (0 ≤ x ∧ x < y ∧ y < z ∧ z < a)
  | _ => false
def goodHyper (a : Int) (es : List (List Int)) : Bool := decide (1 ≤ a ∧ a ≤ 72) && (decide ((es.length : Int) ≤ 40) && es.all (edgeOk a))
theorem edge3 (a x y z : Int) : edgeOk a [x, y, z] = decide (0 ≤ x ∧ x < y ∧ y < z ∧ z < a) := rfl
theorem spec_peEdge_ev (r : List Int) (a : Int) (ha : 1 ≤ a ∧ a ≤ 72) (hr : r.length ≤ 9223372036854775807) : Ev (fun k => spec_peEdge.f k r a) (edgeOk a r) := by
  have hm : wrap64 (a - 1) = a - 1 := w64 (by omega) (by omega)
  unfold spec_peEdge.f spec_l1Rising.f
  rw [hm]
  match r with
  | [] => exact Ev.now _
  | [x] => exact Ev.now _
  | [x, y] => exact Ev.now _
  | [x, y, z] =>
    have e0 : rd [x, y, z] 0 = x := rfl
    have e1 : rd [x, y, z] 1 = y := rfl
    have e2 : rd [x, y, z] 2 = z := rfl
    have w1 : wrap64 (0 + 1) = 1 := (w64 (n := 0 + 1) (by omega) (by omega)).trans rfl
    have w2 : wrap64 (1 + 1) = 2 := (w64 (n := 1 + 1) (by omega) (by omega)).trans rfl
    have w3 : wrap64 (2 + 1) = 3 := (w64 (n := 2 + 1) (by omega) (by omega)).trans rfl
    have v1 : wrap64 (1 - 1) = 0 := (w64 (n := 1 - 1) (by omega) (by omega)).trans rfl
    have v2 : wrap64 (2 - 1) = 1 := (w64 (n := 2 - 1) (by omega) (by omega)).trans rfl
    have hl : (([x, y, z] : List Int).length : Int) = 3 := rfl
    simp only [hl, ↓reduceIte]
    refine Ev.bind (a := edgeOk a [x, y, z]) ?_ (Ev.now _)
    refine Ev.succ ?_
    simp only [spec_l1Rising.l0, hl, e0, show (0 : Int) < 3 from by decide, show (0 : Int) ≤ 0 from by decide, show ¬ ((0 : Int) > 0) from by decide, ↓reduceIte, spec_l1In_eq, Option.bind_some, w1]
    by_cases cx : 0 ≤ x ∧ x ≤ a - 1
    · simp only [cx, and_self, decide_true, ↓reduceIte]
      refine Ev.succ ?_
      simp only [spec_l1Rising.l0, hl, e0, e1, show (1 : Int) < 3 from by decide, show (0 : Int) < 3 from by decide, show (0 : Int) ≤ 1 from by decide, show (0 : Int) ≤ 0 from by decide, show ((1 : Int) > 0) from by decide, ↓reduceIte, spec_l1In_eq, Option.bind_some, w2, v1]
      by_cases cy : 0 ≤ y ∧ y ≤ a - 1
      · simp only [cy, and_self, decide_true, ↓reduceIte]
        by_cases gx : x ≥ y
        · simp only [gx, ↓reduceIte]
          exact Ev.some_ (by symm; rw [edge3, decide_eq_false_iff_not]; omega)
        · simp only [gx, ↓reduceIte]
          refine Ev.succ ?_
          simp only [spec_l1Rising.l0, hl, e1, e2, show (2 : Int) < 3 from by decide, show (1 : Int) < 3 from by decide, show (0 : Int) ≤ 2 from by decide, show (0 : Int) ≤ 1 from by decide, show ((2 : Int) > 0) from by decide, ↓reduceIte, spec_l1In_eq, Option.bind_some, w3, v2]
          by_cases cz : 0 ≤ z ∧ z ≤ a - 1
          · simp only [cz, and_self, decide_true, ↓reduceIte]
            by_cases gy : y ≥ z
            · simp only [gy, ↓reduceIte]
              exact Ev.some_ (by symm; rw [edge3, decide_eq_false_iff_not]; omega)
            · simp only [gy, ↓reduceIte]
              refine Ev.succ ?_
              simp only [spec_l1Rising.l0, hl, show ¬ ((3 : Int) < 3) from by decide, ↓reduceIte]
              exact Ev.some_ (by symm; rw [edge3, decide_eq_true_eq]; omega)
          · simp only [cz, decide_false, Bool.false_eq_true, ↓reduceIte]
            exact Ev.some_ (by symm; rw [edge3, decide_eq_false_iff_not]; omega)
      · simp only [cy, decide_false, Bool.false_eq_true, ↓reduceIte]
        exact Ev.some_ (by symm; rw [edge3, decide_eq_false_iff_not]; omega)
    · simp only [cx, decide_false, Bool.false_eq_true, ↓reduceIte]
      exact Ev.some_ (by symm; rw [edge3, decide_eq_false_iff_not]; omega)
  | x :: y :: z :: u :: v =>
    have hl : ¬ (((x :: y :: z :: u :: v : List Int).length : Int) = 3) := by simp only [List.length_cons]; omega
    simp only [hl, ↓reduceIte]
    exact Ev.now _
theorem impl_isEdge_eq (r : List Int) (a : Int) : impl_isEdge.f r a = some (edgeOk a r) := by
  unfold impl_isEdge.f
  match r with
  | [] => rfl
  | [x] => rfl
  | [x, y] => rfl
  | [x, y, z] =>
    have e0 : rd [x, y, z] 0 = x := rfl
    have e1 : rd [x, y, z] 1 = y := rfl
    have e2 : rd [x, y, z] 2 = z := rfl
    have hl : (([x, y, z] : List Int).length : Int) = 3 := rfl
    simp only [hl, e0, e1, e2, show (0 : Int) < 3 from by decide, show (1 : Int) < 3 from by decide, show (2 : Int) < 3 from by decide, ↓reduceIte]
    by_cases c1 : x ≥ 0
    · simp only [c1, ↓reduceIte]
      by_cases c2 : x < y
      · simp only [c2, ↓reduceIte]
        by_cases c3 : y < z
        · simp only [c3, ↓reduceIte, Option.some.injEq]
          rw [edge3, decide_eq_decide]; omega
        · simp only [c3, ↓reduceIte, Option.some.injEq]
          symm; rw [edge3, decide_eq_false_iff_not]; omega
      · simp only [c2, ↓reduceIte, Option.some.injEq]
        symm; rw [edge3, decide_eq_false_iff_not]; omega
    · simp only [c1, ↓reduceIte, Option.some.injEq]
      symm; rw [edge3, decide_eq_false_iff_not]; omega
  | x :: y :: z :: u :: v =>
    have hl : ¬ (((x :: y :: z :: u :: v : List Int).length : Int) = 3) := by simp only [List.length_cons]; omega
    simp only [hl, ↓reduceIte, edgeOk]
theorem spec_peGood_ev (a : Int) (es : List (List Int)) (hl : es.length ≤ 1048576) (hs : ∀ r ∈ es, r.length ≤ 1048576) : Ev (fun k => spec_peGood.f k a es) (goodHyper a es) := by
  unfold spec_peGood.f goodHyper
  simp only [spec_l1In_eq, Option.bind_some]
  by_cases ca : 1 ≤ a ∧ a ≤ 72
  · simp only [ca, and_self, decide_true, ↓reduceIte, Bool.true_and]
    refine Ev.succ ?_
    by_cases cl : (es.length : Int) > 40
    · simp only [spec_peGood.j0, cl, decide_true, ↓reduceIte, show ¬ ((es.length : Int) ≤ 40) from by omega, decide_false, Bool.false_and]
      exact Ev.now _
    · simp only [spec_peGood.j0, cl, decide_false, Bool.false_eq_true, ↓reduceIte, show ((es.length : Int) ≤ 40) from by omega, decide_true, Bool.true_and]
      refine Ev.up (L := fun k i => spec_peGood.l0 k es (es.length : Int) (i : Int) a es) (r := fun i => (es.drop i).all (edgeOk a)) es.length ?_ ?_ 0 (Nat.zero_le _)
      · refine Ev.succ ?_
        have h1 : ¬ ((es.length : Int) < (es.length : Int)) := by omega
        simp only [spec_peGood.l0, h1, ↓reduceIte]
        exact Ev.some_ (by rw [List.drop_length]; rfl)
      · intro i hi ih
        refine Ev.succ ?_
        have h1 : (i : Int) < (es.length : Int) := by omega
        have h2 : (0 : Int) ≤ (i : Int) := by omega
        have hw : wrap64 ((i : Int) + 1) = ((i + 1 : Nat) : Int) := by rw [w64 (by omega) (by omega)]; rfl
        simp only [spec_peGood.l0, h1, h2, ↓reduceIte, hw, rd_rows es i hi]
        rw [drop_cons es i hi, List.all_cons]
        refine Ev.bind (spec_peEdge_ev _ a ca (by have := hs _ (List.getElem_mem hi); omega)) ?_
        cases h : edgeOk a es[i] with
        | true => simp only [↓reduceIte, Bool.true_and]; exact ih
        | false => simp only [Bool.false_eq_true, ↓reduceIte, Bool.false_and]; exact Ev.now _
  · simp only [ca, decide_false, Bool.false_eq_true, ↓reduceIte, Bool.false_and]
    refine Ev.succ ?_
    simp only [spec_peGood.j0, ↓reduceIte]
    exact Ev.now _
theorem impl_IsHyper_ev (a : Int) (es : List (List Int)) (hl : es.length ≤ 1048576) : Ev (fun k => impl_IsHyper.f k a es) (goodHyper a es) := by
  unfold impl_IsHyper.f slices_ContainsFunc_int_int_impl_IsHyperc1.f slices_IndexFunc_int_int_impl_IsHyperc1.f
  have H : ∃ v : Int, decide (v ≥ 0) = !es.all (edgeOk a) ∧ Ev (fun k => slices_IndexFunc_int_int_impl_IsHyperc1.l0 k es (es.length : Int) 0 a es) v := by
    suffices H : ∀ d i : Nat, i + d = es.length → ∃ v : Int, decide (v ≥ 0) = !(es.drop i).all (edgeOk a) ∧ Ev (fun k => slices_IndexFunc_int_int_impl_IsHyperc1.l0 k es (es.length : Int) (i : Int) a es) v from H es.length 0 (by omega)
    intro d
    induction d with
    | zero =>
      intro i hi
      refine ⟨-1, by rw [List.drop_eq_nil_of_le (by omega)]; rfl, Ev.succ ?_⟩
      have h1 : ¬ ((i : Int) < (es.length : Int)) := by omega
      simp only [slices_IndexFunc_int_int_impl_IsHyperc1.l0, h1, ↓reduceIte]
      exact Ev.now _
    | succ d ih =>
      intro i hi
      have h0 : i < es.length := by omega
      have h1 : (i : Int) < (es.length : Int) := by omega
      have h2 : (0 : Int) ≤ (i : Int) := by omega
      have hw : wrap64 ((i : Int) + 1) = ((i + 1 : Nat) : Int) := by rw [w64 (by omega) (by omega)]; rfl
      obtain ⟨v, hv, he⟩ := ih (i + 1) (by omega)
      rw [drop_cons es i h0, List.all_cons]
      cases h : edgeOk a es[i] with
      | true =>
        refine ⟨v, by rw [hv, Bool.true_and], Ev.succ ?_⟩
        simp only [slices_IndexFunc_int_int_impl_IsHyperc1.l0, h1, h2, ↓reduceIte, hw, rd_rows es i h0, impl_IsHyperc1.f, impl_isEdge_eq, Option.bind_some, h, Bool.not_true, Bool.false_eq_true]
        exact he
      | false =>
        refine ⟨(i : Int), by simp, Ev.succ ?_⟩
        simp only [slices_IndexFunc_int_int_impl_IsHyperc1.l0, h1, h2, ↓reduceIte, hw, rd_rows es i h0, impl_IsHyperc1.f, impl_isEdge_eq, Option.bind_some, h, Bool.not_false]
        exact Ev.now _
  obtain ⟨v, hv, he⟩ := H
  refine Ev.bind (Ev.bind he (Ev.now _)) ?_
  unfold goodHyper
  rw [hv]
  cases h : es.all (edgeOk a) with
  | false => simp only [Bool.not_false, ↓reduceIte, Bool.and_false]; exact Ev.now _
  | true =>
    simp only [Bool.not_true, Bool.false_eq_true, ↓reduceIte, Bool.and_true, impl_in_eq, Option.bind_some]
    cases h2 : decide (1 ≤ a ∧ a ≤ 72) with
    | true => simp only [↓reduceIte, Bool.true_and]; exact Ev.now _
    | false => simp only [Bool.false_eq_true, ↓reduceIte, Bool.false_and]; exact Ev.now _
theorem goodHyper_of {a : Int} {es : List (List Int)} (h : goodHyper a es = true) : (1 ≤ a ∧ a ≤ 72) ∧ es.length ≤ 40 ∧ ∀ r ∈ es, edgeOk a r = true := by
  unfold goodHyper at h
  rw [Bool.and_eq_true, Bool.and_eq_true, decide_eq_true_eq, decide_eq_true_eq, List.all_eq_true] at h
  exact ⟨h.1, by have := h.2.1; omega, h.2.2⟩
theorem edgeOk_of {a : Int} {r : List Int} (h : edgeOk a r = true) : ∃ x y z : Nat, r = [(x : Int), (y : Int), (z : Int)] ∧ x < y ∧ y < z ∧ (z : Int) < a := by
  unfold edgeOk at h
  split at h
  · rename_i x y z
    rw [decide_eq_true_eq] at h
    exact ⟨x.toNat, y.toNat, z.toNat, by rw [Int.toNat_of_nonneg (by omega), Int.toNat_of_nonneg (by omega), Int.toNat_of_nonneg (by omega)], by omega, by omega, by omega⟩
  · cases h
/-! ### the rows -/
def inE (r : List Int) (i : Nat) : Bool := decide ((i : Int) ∈ r)
def rowV (a : Int) (r : List Int) : S53 := ⟨a, fromW (inE r) 0 a.toNat (blankW a)⟩
theorem row_three {a : Int} {x y z : Nat} (h1 : x < y) (h2 : y < z) (h3 : (z : Int) < a) (ws : List Int) : fromW (inE [(x : Int), (y : Int), (z : Int)]) 0 a.toNat ws = setW (setW (setW ws x) y) z := by
  have hp : ∀ j : Nat, inE [(x : Int), (y : Int), (z : Int)] j = decide (j = x ∨ j = y ∨ j = z) := by
    intro j
    unfold inE
    rw [decide_eq_decide]
    simp only [List.mem_cons, List.not_mem_nil, or_false]
    omega
  have ht : ∀ j : Nat, (j = x ∨ j = y ∨ j = z) → inE [(x : Int), (y : Int), (z : Int)] j = true := fun j hj => by rw [hp, decide_eq_true_eq]; exact hj
  have hf : ∀ j : Nat, ¬ (j = x ∨ j = y ∨ j = z) → inE [(x : Int), (y : Int), (z : Int)] j = false := fun j hj => by rw [hp, decide_eq_false_iff_not]; exact hj
  rw [fromW_one _ 0 a.toNat x ws (by omega) (by omega) (ht x (by omega)) (fun j _ _ => hf j (by omega))]
  rw [fromW_one _ (x + 1) _ y _ (by omega) (by omega) (ht y (by omega)) (fun j _ _ => hf j (by omega))]
  rw [fromW_one _ (y + 1) _ z _ (by omega) (by omega) (ht z (by omega)) (fun j _ _ => hf j (by omega))]
  exact fromW_none _ _ _ _ (fun j _ _ => hf j (by omega))
theorem setW_length (ws : List Int) (i : Nat) : (setW ws i).length = ws.length := by rw [setW, List.length_set]
theorem blankW_length (a : Int) : (blankW a).length = ((a + 15) / 16).toNat := by rw [blankW, List.length_replicate]
def rowsV (a : Int) (es : List (List Int)) (rs : List Bool) : Int × List S53 × List Bool := (a, es.map (rowV a), rs)
theorem spec_row (a : Int) (ha : 1 ≤ a ∧ a ≤ 72) (r : List Int) (hr : edgeOk a r = true) (R : Int × List S53 × List Bool) (es : List (List Int)) (n i : Int) (es2 : List (List Int)) (s0 : Int) (rows : List S53) (rs : List Bool) (hrows : rows.length ≤ 1000) (h : Ev (fun k => spec_reSystem.l0 k es n (wrap64 (i + 1)) a es2 s0 (rows ++ [rowV a r]) rs) R) : Ev (fun k => spec_reSystem.l1 k es n i r (r.length : Int) 0 a es2 s0 rows rs a (blankW a)) R := by
  obtain ⟨x, y, z, rfl, h1, h2, h3⟩ := edgeOk_of hr
  have e0 : rd [(x : Int), (y : Int), (z : Int)] 0 = (x : Int) := rfl
  have e1 : rd [(x : Int), (y : Int), (z : Int)] 1 = (y : Int) := rfl
  have e2 : rd [(x : Int), (y : Int), (z : Int)] 2 = (z : Int) := rfl
  have w1 : wrap64 (0 + 1) = 1 := (w64 (n := 0 + 1) (by omega) (by omega)).trans rfl
  have w2 : wrap64 (1 + 1) = 2 := (w64 (n := 1 + 1) (by omega) (by omega)).trans rfl
  have w3 : wrap64 (2 + 1) = 3 := (w64 (n := 2 + 1) (by omega) (by omega)).trans rfl
  have hl : (([(x : Int), (y : Int), (z : Int)] : List Int).length : Int) = 3 := rfl
  have hb := blankW_length a
  have b1 := spec_biSet_eq a (blankW a) x (by omega) (by omega)
  have b2 := spec_biSet_eq a (setW (blankW a) x) y (by rw [setW_length]; omega) (by omega)
  have b3 := spec_biSet_eq a (setW (setW (blankW a) x) y) z (by rw [setW_length, setW_length]; omega) (by omega)
  have hc : rows.length < 4398046511104 := by omega
  rw [hl]
  refine Ev.succ ?_
  simp only [spec_reSystem.l1, hl, show (0 : Int) < 3 from by decide, show (0 : Int) ≤ 0 from by decide, ↓reduceIte, e0, b1, Option.bind_some, w1]
  refine Ev.succ ?_
  simp only [spec_reSystem.l1, hl, show (1 : Int) < 3 from by decide, show (0 : Int) ≤ 1 from by decide, ↓reduceIte, e1, b2, Option.bind_some, w2]
  refine Ev.succ ?_
  simp only [spec_reSystem.l1, hl, show (2 : Int) < 3 from by decide, show (0 : Int) ≤ 2 from by decide, ↓reduceIte, e2, b3, Option.bind_some, w3]
  refine Ev.succ ?_
  simp only [spec_reSystem.l1, show ¬ ((3 : Int) < 3) from by decide, ↓reduceIte, hc]
  have e : rowV a [(x : Int), (y : Int), (z : Int)] = ⟨a, setW (setW (setW (blankW a) x) y) z⟩ := by unfold rowV; rw [row_three h1 h2 h3]
  rw [e] at h
  exact h
theorem spec_reSystem_ev (a : Int) (es : List (List Int)) (rs : List Bool) (h : goodHyper a es = true) (hr : rs.length ≤ 1048576) : Ev (fun k => spec_reSystem.f k a es rs) (rowsV a es rs) := by
  obtain ⟨ha, hl, hs⟩ := goodHyper_of h
  unfold spec_reSystem.f rowsV
  have h1 : ([] : List Bool).length + rs.length < 140737488355328 := by simp; omega
  simp only [Option.bind_some, h1, ↓reduceIte, List.nil_append]
  suffices H : ∀ d i : Nat, i + d = es.length → Ev (fun k => spec_reSystem.l0 k es (es.length : Int) (i : Int) a es a ((es.take i).map (rowV a)) rs) (a, es.map (rowV a), rs) from H es.length 0 (by omega)
  intro d
  induction d with
  | zero =>
    intro i hi
    refine Ev.succ ?_
    have h1 : ¬ ((i : Int) < (es.length : Int)) := by omega
    simp only [spec_reSystem.l0, h1, ↓reduceIte]
    exact Ev.some_ (by rw [List.take_of_length_le (by omega)])
  | succ d ih =>
    intro i hi
    have h0 : i < es.length := by omega
    refine Ev.succ ?_
    have h1 : (i : Int) < (es.length : Int) := by omega
    have h2 : (0 : Int) ≤ (i : Int) := by omega
    have hw : wrap64 ((i : Int) + 1) = ((i + 1 : Nat) : Int) := by rw [w64 (by omega) (by omega)]; rfl
    simp only [spec_reSystem.l0, h1, h2, ↓reduceIte, rd_rows es i h0, spec_biNew_eq a (by omega) (by omega), Option.bind_some]
    refine spec_row a ha _ (hs _ (List.getElem_mem h0)) _ es _ _ es a _ rs (by rw [List.length_map, List.length_take]; omega) ?_
    rw [hw]
    have h3 := ih (i + 1) (by omega)
    rw [List.take_succ_eq_append_getElem h0, List.map_append] at h3
    exact h3
theorem made_row (a : Int) (ha : 1 ≤ a ∧ a ≤ 72) (e : List Int) (he : e.length ≤ 1000) : Ev (fun k => impl_madeBits_impl_systemOfc1.f k a e) (a, (rowV a e).f1) := by
  unfold impl_madeBits_impl_systemOfc1.f
  simp only [impl_blank_eq a (by omega) (by omega), Option.bind_some]
  have hb := blankW_length a
  have hz : Low (blankW a) 0 := low_zero _
  show Ev (fun k => impl_madeBits_impl_systemOfc1.l0 k a 0 e a (blankW a)) (a, fromW (inE e) 0 a.toNat (blankW a))
  suffices H : ∀ d i : Nat, ∀ ws : List Int, i + d = a.toNat → ws.length = ((a + 15) / 16).toNat → Low ws i → Ev (fun k => impl_madeBits_impl_systemOfc1.l0 k a (i : Int) e a ws) (a, fromW (inE e) i d ws) from H a.toNat 0 _ (by omega) hb hz
  intro d
  induction d with
  | zero =>
    intro i ws hi hw hlow
    refine Ev.succ ?_
    have h1 : ¬ ((i : Int) < a) := by omega
    simp only [impl_madeBits_impl_systemOfc1.l0, h1, ↓reduceIte, fromW]
    exact Ev.now _
  | succ d ih =>
    intro i ws hi hw hlow
    refine Ev.succ ?_
    have h1 : (i : Int) < a := by omega
    have hwr : wrap64 ((i : Int) + 1) = ((i + 1 : Nat) : Int) := by rw [w64 (by omega) (by omega)]; rfl
    have hq : i / 16 < ws.length := by omega
    simp only [impl_madeBits_impl_systemOfc1.l0, h1, ↓reduceIte, hwr]
    refine Ev.bind (a := inE e i) (by unfold impl_systemOfc1.f; exact Ev.bind (slices_Contains_int_int_ev e (i : Int) (by omega)) (Ev.now _)) ?_
    rw [impl_Bits_set_in53_0_eq a ws i (inE e i) hlow hq (by omega)]
    simp only [Option.bind_some]
    rw [fromW]
    exact ih (i + 1) _ (by omega) (by rw [if_length]; exact hw) (if_low _ ws i hlow hq)
theorem impl_systemOf_ev (a : Int) (es : List (List Int)) (rs : List Bool) (h : goodHyper a es = true) (hr : rs.length ≤ 1048576) : Ev (fun k => impl_systemOf.f k a es rs) (rowsV a es rs) := by
  obtain ⟨ha, hl, hs⟩ := goodHyper_of h
  unfold impl_systemOf.f slices_Clone_bool_bool.f rowsV
  simp only [show rs.length < 140737488355328 from by omega, ↓reduceIte, Option.bind_some]
  suffices H : ∀ d i : Nat, i + d = es.length → Ev (fun k => impl_systemOf.l0 k es (es.length : Int) (i : Int) a es a ((es.take i).map (rowV a)) rs) (a, es.map (rowV a), rs) from H es.length 0 (by omega)
  intro d
  induction d with
  | zero =>
    intro i hi
    refine Ev.succ ?_
    have h1 : ¬ ((i : Int) < (es.length : Int)) := by omega
    simp only [impl_systemOf.l0, h1, ↓reduceIte]
    exact Ev.some_ (by rw [List.take_of_length_le (by omega)])
  | succ d ih =>
    intro i hi
    have h0 : i < es.length := by omega
    refine Ev.succ ?_
    have h1 : (i : Int) < (es.length : Int) := by omega
    have h2 : (0 : Int) ≤ (i : Int) := by omega
    have hw : wrap64 ((i : Int) + 1) = ((i + 1 : Nat) : Int) := by rw [w64 (by omega) (by omega)]; rfl
    obtain ⟨x, y, z, hxyz, _⟩ := edgeOk_of (hs _ (List.getElem_mem h0))
    have hlen : es[i].length ≤ 1000 := by rw [hxyz]; simp
    have hc : ((es.take i).map (rowV a)).length < 4398046511104 := by rw [List.length_map, List.length_take]; omega
    simp only [impl_systemOf.l0, h1, h2, ↓reduceIte, rd_rows es i h0, hw]
    refine Ev.bind (made_row a ha es[i] hlen) ?_
    simp only [hc, ↓reduceIte]
    have h3 := ih (i + 1) (by omega)
    rw [List.take_succ_eq_append_getElem h0, List.map_append] at h3
    exact h3
def systemV (a : Int) (es : List (List Int)) (rs : List Bool) : Int × List S53 × List Bool × Bool := if goodHyper a es = true then (if (rs.length : Int) = (es.length : Int) then (a, es.map (rowV a), rs, true) else (0, [], [], false)) else (0, [], [], false)
theorem systemV_small (a : Int) (es : List (List Int)) (rs : List Bool) : (systemV a es rs).2.1.length ≤ 40 ∧ (systemV a es rs).2.2.1.length ≤ 40 ∧ totB (systemV a es rs).2.1 ≤ 1048576 ∧ ∀ b ∈ (systemV a es rs).2.1, b.f1.length ≤ 1048576 := by
  unfold systemV
  by_cases h : goodHyper a es = true
  · simp only [h, ↓reduceIte]
    obtain ⟨ha, hl, hs⟩ := goodHyper_of h
    by_cases c : (rs.length : Int) = (es.length : Int)
    · simp only [c, ↓reduceIte]
      have hrow : ∀ r : List Int, (rowV a r).f1.length ≤ 5 := by
        intro r
        unfold rowV
        rw [fromW_length, blankW_length]
        omega
      refine ⟨by rw [List.length_map]; exact hl, by omega, ?_, fun b hb => ?_⟩
      · have : ∀ l : List (List Int), totB (l.map (rowV a)) ≤ 6 * l.length := by
          intro l
          induction l with
          | nil => simp [totB]
          | cons r l ih =>
            rw [List.map_cons, totB_cons, List.length_cons]
            have := hrow r
            omega
        have := this es
        omega
      · obtain ⟨r, _, rfl⟩ := List.mem_map.1 hb
        have := hrow r
        omega
    · simp only [c, ↓reduceIte]; simp [totB]
  · simp only [h, Bool.false_eq_true, ↓reduceIte]; simp [totB]
theorem spec_SystemOf_ev (a : Int) (es : List (List Int)) (rs : List Bool) (hl : es.length ≤ 1048576) (hs : ∀ r ∈ es, r.length ≤ 1048576) (hr : rs.length ≤ 1048576) : Ev (fun k => spec_SystemOf.f k a es rs) (systemV a es rs) := by
  unfold spec_SystemOf.f systemV
  refine Ev.bind (spec_peGood_ev a es hl hs) ?_
  cases h : goodHyper a es with
  | false => simp only [Bool.false_eq_true, ↓reduceIte]; exact Ev.now _
  | true =>
    simp only [↓reduceIte]
    by_cases c : (rs.length : Int) = (es.length : Int)
    · simp only [c, ↓reduceIte]
      exact Ev.bind (spec_reSystem_ev a es rs h hr) (Ev.now _)
    · simp only [c, ↓reduceIte]; exact Ev.now _
theorem impl_SystemOf_ev (a : Int) (es : List (List Int)) (rs : List Bool) (hl : es.length ≤ 1048576) (hr : rs.length ≤ 1048576) : Ev (fun k => impl_SystemOf.f k a es rs) (systemV a es rs) := by
  unfold impl_SystemOf.f systemV
  refine Ev.bind (impl_IsHyper_ev a es hl) ?_
  cases h : goodHyper a es with
  | false => simp only [Bool.false_eq_true, ↓reduceIte]; exact Ev.now _
  | true =>
    simp only [↓reduceIte]
    by_cases c : (rs.length : Int) = (es.length : Int)
    · simp only [c, ↓reduceIte]
      exact Ev.bind (impl_systemOf_ev a es rs h hr) (Ev.now _)
    · simp only [c, ↓reduceIte]; exact Ev.now _
theorem FnExactSystemOf : ∀ (a0_0 : Int) (l0_1 : List (List Int)) (l1 : List Bool), ((Lit.int .i64 a0_0).wf = true) → (l0_1.length ≤ maxLen ∧ ∀ l0_1' ∈ l0_1, l0_1'.length ≤ maxLen ∧ ∀ l0_1'' ∈ l0_1', (Lit.int .i64 l0_1'').wf = true) → (l1.length ≤ maxLen ∧ ∀ l1' ∈ l1, True) → ∃ k, laws_FnExactSystemOf.f k a0_0 l0_1 l1 = some true := by
  intro a es rs h0 hes hrs
  refine Ev.rounds ?_
  have hk1 : es.length ≤ 9223372036854775807 := by have := hes.1; unfold maxLen at this; exact this
  have hk2 : ∀ r ∈ es, r.length ≤ 9223372036854775807 := fun r hr => by have := (hes.2 r hr).1; unfold maxLen at this; exact this
  unfold laws_FnExactSystemOf.f
  by_cases cr : (rs.length : Int) > 1048576
  · simp only [cr, ↓reduceIte]; exact Ev.now _
  simp only [cr, ↓reduceIte]
  have hr : rs.length ≤ 1048576 := by omega
  refine Ev.bind (laws_szHyper_ev a es hk1 hk2) ?_
  by_cases z : szHy es < 0
  · simp only [z, ↓reduceIte]; exact Ev.now _
  simp only [z, ↓reduceIte]
  obtain ⟨hl, ht, hs⟩ := szHy_of z
  have hto : Ev (fun k => laws_toHyper.f k a es) (a, es) := by unfold laws_toHyper.f; exact Ev.bind (laws_toIntSS_ev es hs hl) (Ev.now _)
  have htb := laws_toBoolS_ev rs (by omega)
  obtain ⟨v1, v2, v3, v4⟩ := systemV_small a es rs
  have hsp := spec_SystemOf_ev a es rs hl hs hr
  have him := impl_SystemOf_ev a es rs hl hr
  generalize systemV a es rs = v at *
  obtain ⟨va, vb, vr, vo⟩ := v
  simp only at v1 v2 v3 v4
  have heq := laws_eqSystem_self va vb vr (by omega) v4 (by omega)
  refine Ev.bind hto ?_
  refine Ev.bind htb ?_
  refine Ev.bind hsp ?_
  refine Ev.bind hto ?_
  refine Ev.bind htb ?_
  refine Ev.bind him ?_
  refine Ev.bind heq ?_
  simp only [↓reduceIte, bne_self_eq_false]
  refine Ev.succ ?_
  simp only [laws_FnExactSystemOf.j0, Bool.false_eq_true, ↓reduceIte]
  refine Ev.bind hto ?_
  refine Ev.bind (laws_eqHyper_self a es hs hl) ?_
  simp only [↓reduceIte]
  refine Ev.bind htb ?_
  refine Ev.bind (laws_eqBoolS_self rs (by omega)) ?_
  simp only [↓reduceIte]
  refine Ev.bind (show Ev (fun k => laws_markHyper.f k a es 1) (1 + (totL es : Int), marksL 1 es) from laws_markIntSS_ev es ht hl) ?_
  refine Ev.bind (laws_markBoolS_ev rs (1 + (totL es : Int)) (by omega) (by omega)) ?_
  simp only [show ¬ ((1 : Int) + (totL es : Int) + (rs.length : Int) < 0) from by omega, ↓reduceIte]
  refine Ev.bind heq ?_
  simp only [↓reduceIte]
  refine Ev.succ ?_
  simp only [laws_FnExactSystemOf.j1, bne_self_eq_false, Bool.false_eq_true, ↓reduceIte]
  refine Ev.bind (laws_markSystem_ev va vb vr v3 (by omega) (by omega)) ?_
  refine Ev.bind (laws_heldSystem_ev va vb vr v3 (by omega) (by omega)) ?_
  simp only [show ¬ ((1 : Int) + (totB vb : Int) + (vr.length : Int) < 0) from by omega, ↓reduceIte]
  refine Ev.bind hto ?_
  refine Ev.bind htb ?_
  refine Ev.bind him ?_
  refine Ev.bind heq ?_
  simp only [↓reduceIte, bne_self_eq_false]
  refine Ev.succ ?_
  simp only [laws_FnExactSystemOf.j2, bne_self_eq_false, Bool.false_eq_true, ↓reduceIte]
  refine Ev.bind (laws_heldSystem_ev va vb vr v3 (by omega) (by omega)) ?_
  simp only [show ¬ ((1 : Int) + (totB vb : Int) + (vr.length : Int) < 0) from by omega, ↓reduceIte]
  exact Ev.now _

end Go.Proofs.Ytgbpbhplehmedaa.Pure
