/- The program's BloomOfCounting returns what the reference's returns, for all arguments. -/
import Derived.Test.YtgnpledbeohjgaaPFnExactBloomOfCountingx6
import Derived.Test.YtgnpledbeohjgaaBase
namespace Go.Proofs.Ytgnpledbeohjgaa.Pure
open Go.RowKit Go.Proofs.Ytgnpledbeohjgaa.PFnExactBloomOfCounting Go.Proofs.YtgnpledbeohjgaaW.PrintWords Go.Proofs.YtgnpledbeohjgaaW.PrintLast Go.Proofs.Ytgnpledbeohjgaa.Base
set_option linter.unusedVariables false
set_option linter.unusedSimpArgs false

theorem impl_in_eq (a b c : Int) : impl_in.f a b c = some (decide (b ≤ a ∧ a ≤ c)) := by
  unfold impl_in.f
  by_cases h : b ≤ a <;> simp [h]
theorem impl_IsCountingc1_eq (x : Int) : impl_IsCountingc1.f x = some (!inB 0 15 x) := by
  simp only [impl_IsCountingc1.f, impl_in_eq, Option.bind_some, inB]
theorem slices_IndexFunc_int_int_impl_IsCountingc1_ev (xs : List Int)  (hx : xs.length ≤ 9223372036854775807) : Ev (fun k => slices_IndexFunc_int_int_impl_IsCountingc1.f k xs ) (idxV (fun x => !inB 0 15 x) xs 0) := by
  refine Ev.up (L := fun k i => slices_IndexFunc_int_int_impl_IsCountingc1.l0 k xs (xs.length : Int) (i : Int) ) (r := fun i => idxV (fun x => !inB 0 15 x) xs i) xs.length ?_ ?_ 0 (Nat.zero_le _)
  · refine Ev.succ ?_
    have h1 : ¬ ((xs.length : Int) < (xs.length : Int)) := by omega
    simp only [slices_IndexFunc_int_int_impl_IsCountingc1.l0, h1, ↓reduceIte]
    exact Ev.some_ (idxV_end _ _).symm
  · intro i hi ih
    refine Ev.succ ?_
    have h1 : (i : Int) < (xs.length : Int) := by omega
    have h2 : (0 : Int) ≤ (i : Int) := by omega
    have hw : wrap64 ((i : Int) + 1) = ((i + 1 : Nat) : Int) := by rw [w64 (by omega) (by omega)]; rfl
    have e := rd_nat xs i hi
    simp only [slices_IndexFunc_int_int_impl_IsCountingc1.l0, h1, h2, ↓reduceIte, hw]
    simp only [impl_IsCountingc1_eq (rd xs (i : Int))  , Option.bind_some]
    cases hp : (!inB 0 15 (rd xs (i : Int))) with
    | true =>
      simp only [↓reduceIte]
      exact Ev.some_ (idxV_hit hi (by rw [← e]; exact hp)).symm
    | false =>
      simp only [Bool.false_eq_true, ↓reduceIte]
      rw [idxV_miss hi (by rw [← e]; exact hp)]
      exact ih
theorem slices_ContainsFunc_int_int_impl_IsCountingc1_ev (xs : List Int)  (hx : xs.length ≤ 9223372036854775807) : Ev (fun k => slices_ContainsFunc_int_int_impl_IsCountingc1.f k xs ) (xs.any (fun x => !inB 0 15 x)) := by
  unfold slices_ContainsFunc_int_int_impl_IsCountingc1.f
  refine Ev.bind (slices_IndexFunc_int_int_impl_IsCountingc1_ev xs  hx ) ?_
  rw [idxV_ge]
  exact Ev.now _
theorem spec_l1In_eq (a b c : Int) : spec_l1In.f a b c = some (decide (b ≤ a ∧ a ≤ c)) := by
  unfold spec_l1In.f
  by_cases h : b ≤ a <;> simp [h]
theorem spec_l1All_ev (l : List Int) (a b : Int) (hl : l.length ≤ 9223372036854775807) : Ev (fun k => spec_l1All.f k l a b) (l.all (inB a b)) := by
  have h := Ev.up (L := fun k i => spec_l1All.l0 k a b l (l.length : Int) (i : Int)) (r := fun i => (l.drop i).all (inB a b)) l.length ?_ ?_ 0 (Nat.zero_le _)
  · exact h
  · refine Ev.succ ?_
    have h1 : ¬ ((l.length : Int) < (l.length : Int)) := by omega
    simp only [spec_l1All.l0, h1, ↓reduceIte]
    exact Ev.some_ (by simp)
  · intro i hi ih
    refine Ev.succ ?_
    have h1 : (i : Int) < (l.length : Int) := by omega
    have h2 : (0 : Int) ≤ (i : Int) := by omega
    have hw : wrap64 ((i : Int) + 1) = ((i + 1 : Nat) : Int) := by rw [w64 (by omega) (by omega)]; rfl
    simp only [spec_l1All.l0, h1, h2, ↓reduceIte, hw, spec_l1In_eq, Option.bind_some]
    rw [drop_cons _ _ hi, List.all_cons, ← rd_nat _ _ hi]
    by_cases c : a ≤ rd l (i : Int) ∧ rd l (i : Int) ≤ b
    · have c2 : inB a b (rd l (i : Int)) = true := by simp [inB, c]
      simp only [c, and_self, decide_true, ↓reduceIte, c2, Bool.true_and]
      exact ih
    · have c2 : inB a b (rd l (i : Int)) = false := by simp [inB]; omega
      simp only [c, decide_false, Bool.false_eq_true, ↓reduceIte, c2, Bool.false_and]
      exact Ev.now _
theorem spec_fiSize_eq (a b c : Int) : spec_fiSize.f a b c = some (decide ((0 ≤ a ∧ a ≤ 9999) ∧ (1 ≤ b ∧ b ≤ 8) ∧ 1 ≤ c ∧ c ≤ 512)) := by
  by_cases h : 0 ≤ a ∧ a ≤ 9999 <;> by_cases h2 : 1 ≤ b ∧ b ≤ 8 <;> simp [spec_fiSize.f, spec_l1In_eq, h, h2]
theorem impl_isSeed_eq (a : Int) : impl_isSeed.f a = some (decide (0 ≤ a ∧ a ≤ 9999)) := by
  simp only [impl_isSeed.f, impl_in_eq, Option.bind_some]
theorem impl_sizesOk_eq (a b c : Int) : impl_sizesOk.f a b c = some (decide ((0 ≤ a ∧ a ≤ 9999) ∧ (1 ≤ b ∧ b ≤ 8) ∧ 1 ≤ c ∧ c ≤ 512)) := by
  by_cases h : 0 ≤ a ∧ a ≤ 9999 <;> by_cases h2 : 1 ≤ b ∧ b ≤ 8 <;> simp [impl_sizesOk.f, impl_isSeed_eq, impl_in_eq, h, h2]
def goodCounting (a b : Int) (l : List Int) : Bool := decide ((0 ≤ a ∧ a ≤ 9999) ∧ (1 ≤ b ∧ b ≤ 8) ∧ 1 ≤ (l.length : Int) ∧ (l.length : Int) ≤ 512) && l.all (inB 0 15)
theorem any_not_all {α : Type} (p : α → Bool) (l : List α) : l.any (fun x => !p x) = !l.all p := by
  induction l with
  | nil => rfl
  | cons x l ih => simp only [List.any_cons, List.all_cons, ih, Bool.not_and]
theorem spec_fiCounting_ev (a b : Int) (l : List Int) (hl : l.length ≤ 9223372036854775807) : Ev (fun k => spec_fiCounting.f k a b l) (goodCounting a b l) := by
  unfold goodCounting
  by_cases h : (0 ≤ a ∧ a ≤ 9999) ∧ (1 ≤ b ∧ b ≤ 8) ∧ 1 ≤ (l.length : Int) ∧ (l.length : Int) ≤ 512
  · simp only [spec_fiCounting.f, spec_fiSize_eq, h, and_self, decide_true, Option.bind_some, ↓reduceIte, Bool.true_and]
    exact Ev.bind (spec_l1All_ev l 0 15 hl) (Ev.now _)
  · simp only [spec_fiCounting.f, spec_fiSize_eq, h, decide_false, Option.bind_some, ↓reduceIte, Bool.false_and, Bool.false_eq_true]
    exact Ev.now _
theorem impl_IsCounting_ev (a b : Int) (l : List Int) (hl : l.length ≤ 9223372036854775807) : Ev (fun k => impl_IsCounting.f k a b l) (goodCounting a b l) := by
  unfold impl_IsCounting.f goodCounting
  refine Ev.bind (slices_ContainsFunc_int_int_impl_IsCountingc1_ev l hl) ?_
  rw [any_not_all]
  cases l.all (inB 0 15) with
  | false => simp only [Bool.not_false, ↓reduceIte, Bool.and_false]; exact Ev.now _
  | true => simp only [Bool.not_true, Bool.false_eq_true, ↓reduceIte, impl_sizesOk_eq, Option.bind_some, Bool.and_true]; exact Ev.now _
theorem laws_szIntS_eq (l : List Int) (a : Int) (h0 : 0 ≤ a) (h1 : a ≤ 1048576) (hl : l.length ≤ 9223372036854775807) : laws_szIntS.f l a = some (if (l.length : Int) ≤ a then a - l.length else -1) := by
  unfold laws_szIntS.f
  rw [w64 (by omega) (by omega)]
  by_cases c : (l.length : Int) ≤ a
  · rw [if_neg (by omega), if_pos c]
  · rw [if_pos (by omega), if_neg c]
theorem laws_toIntS_l0 (l : List Int) (hl : l.length ≤ 9223372036854775807) (d : Nat) : ∀ (i : Nat) (o : List Int), o.length = l.length → o.take i = l.take i → i + d = l.length → Ev (fun k => laws_toIntS.l0 k l o (i : Int)) l := by
  induction d with
  | zero =>
    intro i o ho ht hi
    refine Ev.succ ?_
    have h1 : ¬ ((i : Int) < (l.length : Int)) := by omega
    simp only [laws_toIntS.l0, h1, ↓reduceIte]
    rw [List.take_of_length_le (by omega), List.take_of_length_le (by omega)] at ht
    exact Ev.some_ ht
  | succ d ih =>
    intro i o ho ht hi
    refine Ev.succ ?_
    have h1 : (i : Int) < (l.length : Int) := by omega
    have h2 : (0 : Int) ≤ (i : Int) := by omega
    have h3 : (i : Int) < (o.length : Int) := by omega
    have hw : wrap64 ((i : Int) + 1) = ((i + 1 : Nat) : Int) := by rw [w64 (by omega) (by omega)]; rfl
    simp only [laws_toIntS.l0, h1, h2, h3, ↓reduceIte, hw, Int.toNat_natCast]
    exact ih (i + 1) _ (by simp [ho]) (by rw [take_set_succ _ _ _ (by omega), ht, rd_nat _ _ (by omega), List.take_succ_eq_append_getElem (by omega)]) (by omega)
theorem laws_toIntS_ev (l : List Int) (hl : l.length ≤ 35184372088832) : Ev (fun k => laws_toIntS.f k l) l := by
  have h1 : 0 ≤ (l.length : Int) := by omega
  have h2 : ((l.length : Int)).toNat ≤ 35184372088832 := by omega
  simp only [laws_toIntS.f, h1, h2, ↓reduceIte]
  exact laws_toIntS_l0 l (by omega) l.length 0 _ (by simp) (by simp) (by omega)
theorem laws_eqIntS_self (l : List Int) (hl : l.length ≤ 9223372036854775807) : Ev (fun k => laws_eqIntS.f k l l) true := by
  unfold laws_eqIntS.f
  simp only [↓reduceIte]
  refine Ev.up (L := fun k i => laws_eqIntS.l0 k l l (i : Int)) (r := fun _ => true) l.length ?_ ?_ 0 (Nat.zero_le _)
  · refine Ev.succ ?_
    have h1 : ¬ ((l.length : Int) < (l.length : Int)) := by omega
    simp only [laws_eqIntS.l0, h1, ↓reduceIte]
    exact Ev.now _
  · intro i hi ih
    refine Ev.succ ?_
    have h1 : (i : Int) < (l.length : Int) := by omega
    have h2 : (0 : Int) ≤ (i : Int) := by omega
    have hw : wrap64 ((i : Int) + 1) = ((i + 1 : Nat) : Int) := by rw [w64 (by omega) (by omega)]; rfl
    simp only [laws_eqIntS.l0, h1, h2, ↓reduceIte, hw]
    exact ih
theorem laws_szCounting_eq (a b : Int) (l : List Int) (m : Int) (h0 : 0 ≤ m) (h1 : m ≤ 1048576) (hl : l.length ≤ 9223372036854775807) : laws_szCounting.f a b l m = some (if (l.length : Int) ≤ m then m - l.length else -1) := by
  simp only [laws_szCounting.f, laws_szIntS_eq l m h0 h1 hl, Option.bind_some]
  by_cases c : (l.length : Int) ≤ m
  · simp only [c, ↓reduceIte, show ¬ (m - (l.length : Int) < 0) from by omega]
  · simp only [c, ↓reduceIte, show ((-1 : Int) < 0) from by decide]
theorem laws_toCounting_ev (a b : Int) (l : List Int) (hl : l.length ≤ 1048576) : Ev (fun k => laws_toCounting.f k a b l) (a, b, l) := by
  unfold laws_toCounting.f
  exact Ev.bind (laws_toIntS_ev l (by omega)) (Ev.now _)
theorem laws_eqCounting_self (a b : Int) (l : List Int) (hl : l.length ≤ 9223372036854775807) : Ev (fun k => laws_eqCounting.f k a b l a b l) true := by
  simp only [laws_eqCounting.f, ↓reduceIte]
  exact Ev.bind (laws_eqIntS_self l hl) (by simp only [↓reduceIte]; exact Ev.now _)
theorem laws_eqBloom_self (a b n : Int) (l : List Int) (hl : l.length ≤ 9223372036854775807) : Ev (fun k => laws_eqBloom.f k a b n l a b n l) true := by
  simp only [laws_eqBloom.f, laws_eqBits.f, ↓reduceIte]
  refine Ev.bind (a := true) ?_ (by simp only [↓reduceIte]; exact Ev.now _)
  exact Ev.bind (laws_eqIntS_self l hl) (by simp only [↓reduceIte]; exact Ev.now _)
theorem laws_markIntS_l0 (m : Int) (n : Nat) (h0 : 0 ≤ m) (hm : m + n ≤ 4611686018427387904) (d : Nat) : ∀ (i : Nat) (l : List Int), l.length = n → l.take i = marks m i → i + d = n → Ev (fun k => laws_markIntS.l0 k l (m + i) (i : Int)) (m + n, marks m n) := by
  induction d with
  | zero =>
    intro i l hl ht hi
    obtain rfl : i = n := by omega
    refine Ev.succ ?_
    have h1 : ¬ ((i : Int) < (l.length : Int)) := by omega
    simp only [laws_markIntS.l0, h1, ↓reduceIte]
    rw [List.take_of_length_le (by omega)] at ht
    exact Ev.some_ (by rw [ht])
  | succ d ih =>
    intro i l hl ht hi
    refine Ev.succ ?_
    have h1 : (i : Int) < (l.length : Int) := by omega
    have h2 : (0 : Int) ≤ (i : Int) := by omega
    have hw : wrap64 ((i : Int) + 1) = ((i + 1 : Nat) : Int) := by rw [w64 (by omega) (by omega)]; rfl
    have hw2 : wrap64 (m + (i : Int) + 1) = m + ((i + 1 : Nat) : Int) := by rw [w64 (by omega) (by omega)]; omega
    simp only [laws_markIntS.l0, h1, h2, ↓reduceIte, hw, hw2, Int.toNat_natCast]
    exact ih (i + 1) (l.set i (m + i)) (by simp [hl]) (by rw [take_set_succ _ _ _ (by omega), ht, marks_succ]) (by omega)
theorem laws_markIntS_ev (l : List Int) (m : Int) (h0 : 0 ≤ m) (hm : m + l.length ≤ 4611686018427387904) : Ev (fun k => laws_markIntS.f k l m) (m + l.length, marks m l.length) := by
  have h := laws_markIntS_l0 m l.length h0 hm l.length 0 l rfl (by simp [marks]) (by omega)
  simpa [laws_markIntS.f] using h
theorem laws_heldIntS_ev (m : Int) (n : Nat) (h0 : 0 ≤ m) (hm : m + n ≤ 4611686018427387904) : Ev (fun k => laws_heldIntS.f k (marks m n) m) (m + n) := by
  have h := Ev.up (L := fun k i => laws_heldIntS.l0 k (marks m n) (m + (i : Int)) (i : Int)) (r := fun _ => m + n) n ?_ ?_ 0 (Nat.zero_le _)
  · simpa [laws_heldIntS.f] using h
  · refine Ev.succ ?_
    have h1 : ¬ ((n : Int) < ((marks m n).length : Int)) := by rw [marks_length]; omega
    simp only [laws_heldIntS.l0, h1, ↓reduceIte]
    exact Ev.now _
  · intro i hi ih
    refine Ev.succ ?_
    have h1 : (i : Int) < ((marks m n).length : Int) := by rw [marks_length]; omega
    have h2 : (0 : Int) ≤ (i : Int) := by omega
    have h3 : rd (marks m n) (i : Int) = m + i := by rw [rd_nat _ _ (by rw [marks_length]; exact hi)]; simp [marks]
    have hw : wrap64 ((i : Int) + 1) = ((i + 1 : Nat) : Int) := by rw [w64 (by omega) (by omega)]; rfl
    have hw2 : wrap64 (m + (i : Int) + 1) = m + ((i + 1 : Nat) : Int) := by rw [w64 (by omega) (by omega)]; omega
    simp only [laws_heldIntS.l0, h1, h2, h3, ↓reduceIte, hw, hw2]
    exact ih
theorem laws_markBloom_ev (a b n : Int) (l : List Int) (hl : l.length ≤ 1048576) : Ev (fun k => laws_markBloom.f k a b n l 1) (1 + l.length, marks 1 l.length) := by
  unfold laws_markBloom.f laws_markBits.f
  refine Ev.bind (a := (1 + (l.length : Int), marks 1 l.length)) ?_ (Ev.now _)
  exact Ev.bind (laws_markIntS_ev l 1 (by decide) (by omega)) (Ev.now _)
theorem laws_heldBloom_ev (a b n : Int) (m : Nat) (hm : m ≤ 1048576) : Ev (fun k => laws_heldBloom.f k a b n (marks 1 m) 1) (1 + m) := by
  have c : ¬ ((1 : Int) + (m : Int) < 0) := by omega
  unfold laws_heldBloom.f laws_heldBits.f
  refine Ev.bind (a := (1 + (m : Int))) ?_ (by simp only [c, ↓reduceIte]; exact Ev.now _)
  exact Ev.bind (laws_heldIntS_ev 1 m (by decide) (by omega)) (by simp only [c, ↓reduceIte]; exact Ev.now _)
theorem spec_biNew_eq (n : Int) (h0 : 0 ≤ n) (h1 : n ≤ 1000000) : spec_biNew.f n = some (n, List.replicate ((n + 15) / 16).toNat 0) := by
  unfold spec_biNew.f
  rw [w64 (n := n + 15) (by omega) (by omega), tdiv_pos (by omega), w64 (by omega) (by omega), if_pos (by omega), if_pos (by omega)]
theorem impl_words_eq (n : Int) (h0 : 0 ≤ n) (h1 : n ≤ 1000000) : impl_words.f n = some ((n + 15) / 16) := by
  unfold impl_words.f
  rw [w64 (n := n + 16) (by omega) (by omega), w64 (n := n + 16 - 1) (by omega) (by omega), tdiv_pos (by omega), w64 (by omega) (by omega), show n + 16 - 1 = n + 15 from by omega]
theorem impl_blank_eq (n : Int) (h0 : 0 ≤ n) (h1 : n ≤ 1000000) : impl_blank.f n = some (n, List.replicate ((n + 15) / 16).toNat 0) := by
  unfold impl_blank.f
  rw [impl_words_eq n h0 h1]
  simp only [Option.bind_some]
  rw [if_pos (by omega), if_pos (by omega)]

theorem pow15 {t : Nat} (ht : t ≤ 15) : (2 : Nat) ^ t ≤ 32768 := Nat.le_trans (Nat.pow_le_pow_right (by decide) ht) (by decide)
theorem pow_cast (t : Nat) : (2 : Int) ^ t = ((2 ^ t : Nat) : Int) := by
  rw [Int.natCast_pow]
  rfl
theorem not_bits (b : Nat) (hb : b ≤ 32768) (j : Nat) : (18446744073709551615 - b).testBit j = (decide (j < 64) && !b.testBit j) := by
  have h := Nat.testBit_two_pow_sub_succ (x := b) (n := 64) (by omega) j
  rw [show 2 ^ 64 - (b + 1) = 18446744073709551615 - b from by omega] at h
  exact h
theorem andNot_off {x : Int} {t : Nat} (x0 : 0 ≤ x) (x1 : x ≤ 65535) (ht : t ≤ 15) (h : bitI x t = false) : Go.bits .andNot .i64 x (2 ^ t) = x := by
  obtain ⟨a, rfl⟩ := Int.eq_ofNat_of_zero_le x0
  have p := pow15 ht
  rw [pow_cast, (bits_nat64 a (2 ^ t) (by omega) (by omega)).2.2.2]
  have e : a &&& (18446744073709551615 - 2 ^ t) = a := by
    apply Nat.eq_of_testBit_eq
    intro j
    rw [Nat.testBit_and, not_bits (2 ^ t) p, Nat.testBit_two_pow]
    unfold bitI at h
    rw [Int.toNat_natCast] at h
    by_cases c : t = j
    · subst c
      rw [h]
      rfl
    · by_cases c2 : j < 64
      · simp [c, c2]
      · have h3 : a.testBit j = false := Nat.testBit_lt_two_pow (Nat.lt_of_lt_of_le (show a < 2 ^ 64 by omega) (Nat.pow_le_pow_right (by decide) (by omega)))
        rw [h3]
        rfl
  rw [e]
theorem and_le16 (a b : Nat) (ha : a ≤ 65535) (hb : b ≤ 32768) : a ||| b < 65536 := Nat.or_lt_two_pow (n := 16) (by omega) (by omega)
theorem or_bit {x : Int} {t : Nat} (x0 : 0 ≤ x) (x1 : x ≤ 65535) (ht : t ≤ 15) : 0 ≤ Go.bits .or .i64 x (2 ^ t) ∧ Go.bits .or .i64 x (2 ^ t) ≤ 65535 ∧ ∀ j, bitI (Go.bits .or .i64 x (2 ^ t)) j = (bitI x j || decide (t = j)) := by
  obtain ⟨a, rfl⟩ := Int.eq_ofNat_of_zero_le x0
  have p := pow15 ht
  rw [pow_cast, (bits_nat64 a (2 ^ t) (by omega) (by omega)).2.1]
  have hlt : a ||| 2 ^ t < 65536 := and_le16 a (2 ^ t) (by omega) p
  refine ⟨Int.natCast_nonneg _, Int.ofNat_le.2 (Nat.le_of_lt_succ hlt), fun j => ?_⟩
  unfold bitI
  rw [Int.toNat_natCast, Int.toNat_natCast, Nat.testBit_or, Nat.testBit_two_pow]
theorem rd_set_nat (ws : List Int) (k j : Nat) (y : Int) (hk : k < ws.length) : rd (ws.set k y) (j : Int) = if k = j then y else rd ws (j : Int) := by
  unfold rd
  rw [Int.toNat_natCast, List.getD_eq_getElem?_getD, List.getD_eq_getElem?_getD, List.getElem?_set]
  by_cases c : k = j
  · subst c
    simp [hk]
  · simp [c]
theorem set_rd (ws : List Int) (k : Nat) (hk : k < ws.length) : ws.set k (rd ws (k : Int)) = ws := by
  rw [rd_nat ws k hk]
  exact List.set_getElem_self hk
def setW (ws : List Int) (i : Nat) : List Int := ws.set (i / 16) (Go.bits .or .i64 (rd ws ((i / 16 : Nat) : Int)) (2 ^ (i % 16)))
def Low (ws : List Int) (i : Nat) : Prop := (∀ x ∈ ws, 0 ≤ x ∧ x ≤ 65535) ∧ ∀ p, i ≤ p → bitV ws p = false
theorem Low.next {ws : List Int} {i : Nat} (h : Low ws i) : Low ws (i + 1) := ⟨h.1, fun p hp => h.2 p (by omega)⟩
theorem Low.set {ws : List Int} {i : Nat} (h : Low ws i) (hi : i / 16 < ws.length) : Low (setW ws i) (i + 1) := by
  have r := rd_range h.1 ((i / 16 : Nat) : Int)
  have o := or_bit (t := i % 16) r.1 r.2 (by omega)
  refine ⟨fun x hx => ?_, fun p hp => ?_⟩
  · rcases List.mem_or_eq_of_mem_set hx with h1 | rfl
    · exact h.1 x h1
    · exact ⟨o.1, o.2.1⟩
  · unfold bitV setW
    rw [rd_set_nat _ _ _ _ hi]
    by_cases c : i / 16 = p / 16
    · have h2 := h.2 p (by omega)
      unfold bitV at h2
      rw [if_pos c, o.2.2, c, h2, Bool.false_or, decide_eq_false_iff_not]
      omega
    · rw [if_neg c]
      exact h.2 p (by omega)
theorem shl_bit (i : Nat) : shl .i64 1 ((i % 16 : Nat) : Int) = 2 ^ (i % 16) := by
  rw [shl_one (by omega) (by omega), Int.toNat_natCast]
theorem impl_Bits_set_in38_0_eq (n : Int) (ws : List Int) (i : Nat) (v : Bool) (h : Low ws i) (hi : i / 16 < ws.length) (hi2 : i ≤ 1000000) : impl_Bits_set_in38_0.f n ws (i : Int) v = some (if v = true then setW ws i else ws) := by
  unfold impl_Bits_set_in38_0.f
  have e1 : Int.tdiv (i : Int) 16 = ((i / 16 : Nat) : Int) := by rw [tdiv_pos (by omega)]; rfl
  have e2 : Int.tmod (i : Int) 16 = ((i % 16 : Nat) : Int) := by rw [tmod_pos (by omega)]; rfl
  have r := rd_range h.1 ((i / 16 : Nat) : Int)
  have hb : bitI (rd ws ((i / 16 : Nat) : Int)) (i % 16) = false := h.2 i (Nat.le_refl _)
  rw [e1, e2, w64 (n := ((i / 16 : Nat) : Int)) (by omega) (by omega), if_pos (by omega), if_pos (by omega), if_pos (by omega), shl_bit, andNot_off r.1 r.2 (by omega) hb, Int.toNat_natCast, set_rd ws _ hi]
  simp only [Option.bind_some]
  cases v <;> rfl
theorem spec_biSet_eq (n : Int) (ws : List Int) (i : Nat) (hi : i / 16 < ws.length) (hi2 : i ≤ 1000000) : spec_biSet.f n ws (i : Int) = some (setW ws i) := by
  unfold spec_biSet.f
  have e1 : Int.tdiv (i : Int) 16 = ((i / 16 : Nat) : Int) := by rw [tdiv_pos (by omega)]; rfl
  have e2 : Int.tmod (i : Int) 16 = ((i % 16 : Nat) : Int) := by rw [tmod_pos (by omega)]; rfl
  rw [e1, e2, w64 (n := ((i / 16 : Nat) : Int)) (by omega) (by omega), if_pos (by omega), if_pos (by omega), if_pos (by omega), shl_bit, Int.toNat_natCast]
  rfl
theorem sixteen {i q m : Nat} (h : i < q) (h2 : q ≤ 16 * m) : i / 16 < m := by omega
theorem wrap_succ {i q : Nat} (h : i < q) (h2 : q ≤ 5000) : wrap64 ((i : Int) + 1) = ((i + 1 : Nat) : Int) := by rw [w64 (by omega) (by omega)]; rfl
theorem low_zero (m : Nat) : Low (List.replicate m 0) 0 := by
  refine ⟨fun x hx => ?_, fun p _ => ?_⟩
  · have := List.eq_of_mem_replicate hx
    omega
  · unfold bitV
    have e : rd (List.replicate m 0) ((p / 16 : Nat) : Int) = 0 := by
      unfold rd
      rw [List.getD_eq_getElem?_getD, List.getElem?_replicate]
      split <;> rfl
    rw [e, bitI_zero]
def blankW (n : Int) : List Int := List.replicate ((n + 15) / 16).toNat 0
theorem goodCounting_of {a b : Int} {l : List Int} (h : goodCounting a b l = true) : (0 ≤ a ∧ a ≤ 9999) ∧ (1 ≤ b ∧ b ≤ 8) ∧ (1 ≤ (l.length : Int) ∧ (l.length : Int) ≤ 512) ∧ ∀ x ∈ l, 0 ≤ x ∧ x ≤ 15 := by
  unfold goodCounting inB at h
  simp only [Bool.and_eq_true, decide_eq_true_eq, List.all_eq_true] at h
  exact ⟨h.1.1, h.1.2.1, h.1.2.2, h.2⟩
theorem laws_markCounting_ev (a b : Int) (l : List Int) (hl : l.length ≤ 1048576) : Ev (fun k => laws_markCounting.f k a b l 1) (1 + l.length, marks 1 l.length) := by
  unfold laws_markCounting.f
  exact Ev.bind (laws_markIntS_ev l 1 (by omega) (by omega)) (Ev.now _)

/-- The vector whose ones are the places from i on where p holds. -/
def fromW (p : Nat → Bool) : Nat → Nat → List Int → List Int
  | _, 0, ws => ws
  | i, d + 1, ws => fromW p (i + 1) d (if p i = true then setW ws i else ws)
theorem if_length (p : Nat → Bool) (ws : List Int) (i : Nat) : (if p i = true then setW ws i else ws).length = ws.length := by
  by_cases c : p i = true
  · rw [if_pos c, setW, List.length_set]
  · rw [if_neg c]
theorem if_low (p : Nat → Bool) (ws : List Int) (i : Nat) (h : Low ws i) (hi : i / 16 < ws.length) : Low (if p i = true then setW ws i else ws) (i + 1) := by
  by_cases c : p i = true
  · rw [if_pos c]; exact h.set hi
  · rw [if_neg c]; exact h.next
theorem fromW_length (p : Nat → Bool) (d : Nat) : ∀ i ws, (fromW p i d ws).length = ws.length := by
  induction d with
  | zero => intro i ws; rfl
  | succ d ih => intro i ws; rw [fromW, ih, if_length]
def onV (cs : List Int) (i : Nat) : Bool := rd cs (i : Int) != 0
theorem bits_on (k : Nat) (cs ws us : List Int) (x y y2 a b z : Int) (c1 : y < x) (h0 : 0 ≤ y) (h1 : y < (cs.length : Int)) (c2 : rd cs y > 0) (e : spec_biSet.f z ws y = some us) (hw : wrap64 (y + 1) = y2) : spec_fiBits.l0 (k + 1) cs x y a b z ws = spec_fiBits.l0 k cs x y2 a b z us := by
  rw [spec_fiBits.l0, if_pos c1, if_pos h0, if_pos h1, if_pos c2, e, Option.bind_some, hw]
theorem bits_off (k : Nat) (cs ws : List Int) (x y y2 a b z : Int) (c1 : y < x) (h0 : 0 ≤ y) (h1 : y < (cs.length : Int)) (c2 : ¬ (rd cs y > 0)) (hw : wrap64 (y + 1) = y2) : spec_fiBits.l0 (k + 1) cs x y a b z ws = spec_fiBits.l0 k cs x y2 a b z ws := by
  rw [spec_fiBits.l0, if_pos c1, if_pos h0, if_pos h1, if_neg c2, hw]
theorem rd_count (cs : List Int) (h : ∀ x ∈ cs, 0 ≤ x ∧ x ≤ 15) (i : Nat) : 0 ≤ rd cs (i : Int) := by
  unfold rd
  rw [List.getD_eq_getElem?_getD]
  cases e : cs[(i : Int).toNat]? with
  | none => simp
  | some x => simpa using (h x (List.mem_of_getElem? e)).1
theorem spec_fiBits_l0 (cs : List Int) (a b z : Int) (hc : ∀ x ∈ cs, 0 ≤ x ∧ x ≤ 15) (hq : cs.length ≤ 5000) (d : Nat) : ∀ (i : Nat) (ws : List Int), i + d = cs.length → cs.length ≤ 16 * ws.length → Ev (fun k => spec_fiBits.l0 k cs (cs.length : Int) (i : Int) a b z ws) (a, b, z, fromW (onV cs) i d ws) := by
  induction d with
  | zero =>
    intro i ws hi hw
    refine Ev.succ ?_
    have c1 : ¬ ((i : Int) < (cs.length : Int)) := by omega
    simp only [spec_fiBits.l0, c1, ↓reduceIte, fromW]
    exact Ev.now _
  | succ d ih =>
    intro i ws hi hw
    have hiq : i < cs.length := by omega
    have c1 : (i : Int) < (cs.length : Int) := by omega
    have h0 : (0 : Int) ≤ (i : Int) := by omega
    have hwr := wrap_succ hiq hq
    have hx := rd_count cs hc i
    have h := ih (i + 1) (if onV cs i = true then setW ws i else ws) (by omega) (by rw [if_length]; exact hw)
    rw [fromW]
    by_cases c : onV cs i = true
    · have c2 : rd cs (i : Int) > 0 := by
        have : rd cs (i : Int) ≠ 0 := by simpa [onV] using c
        omega
      rw [if_pos c] at h ⊢
      exact Ev.step (fun k => bits_on k cs ws _ _ _ _ a b z c1 h0 c1 c2 (spec_biSet_eq z ws i (sixteen hiq hw) (by omega)) hwr) h
    · have c2 : ¬ (rd cs (i : Int) > 0) := by
        have : rd cs (i : Int) = 0 := by simpa [onV] using c
        omega
      rw [if_neg c] at h ⊢
      exact Ev.step (fun k => bits_off k cs ws _ _ _ a b z c1 h0 c1 c2 hwr) h
theorem made_step (cs ws us : List Int) (z x y y2 : Int) (v : Bool) (k : Nat) (c1 : y < x) (e4 : impl_Countingbloomc1.f y cs = some v) (e5 : impl_Bits_set_in38_0.f z ws y v = some us) (hw : wrap64 (y + 1) = y2) :
    impl_madeBits_impl_Countingbloomc1.l0 (k + 1) x y cs z ws = impl_madeBits_impl_Countingbloomc1.l0 k x y2 cs z us := by
  rw [impl_madeBits_impl_Countingbloomc1.l0, if_pos c1, e4, Option.bind_some, e5, Option.bind_some, hw]
theorem impl_made_l0 (cs : List Int) (z : Int) (hq : cs.length ≤ 5000) (d : Nat) : ∀ (i : Nat) (ws : List Int), i + d = cs.length → cs.length ≤ 16 * ws.length → Low ws i → Ev (fun k => impl_madeBits_impl_Countingbloomc1.l0 k (cs.length : Int) (i : Int) cs z ws) (z, fromW (onV cs) i d ws) := by
  induction d with
  | zero =>
    intro i ws hi hw hl
    refine Ev.succ ?_
    have c1 : ¬ ((i : Int) < (cs.length : Int)) := by omega
    simp only [impl_madeBits_impl_Countingbloomc1.l0, c1, ↓reduceIte, fromW]
    exact Ev.now _
  | succ d ih =>
    intro i ws hi hw hl
    have hiq : i < cs.length := by omega
    have c1 : (i : Int) < (cs.length : Int) := by omega
    have h0 : (0 : Int) ≤ (i : Int) := by omega
    have h3 : i ≤ 1000000 := by omega
    have hwr := wrap_succ hiq hq
    have e4 : impl_Countingbloomc1.f (i : Int) cs = some (onV cs i) := by
      unfold impl_Countingbloomc1.f onV
      rw [if_pos h0, if_pos c1]
    have e5 := impl_Bits_set_in38_0_eq z ws i (onV cs i) hl (sixteen hiq hw) h3
    have h := ih (i + 1) (if onV cs i = true then setW ws i else ws) (by omega) (by rw [if_length]; exact hw) (if_low _ ws i hl (sixteen hiq hw))
    rw [fromW]
    generalize (if onV cs i = true then setW ws i else ws) = us at h e5 ⊢
    exact Ev.step (fun k => made_step cs ws us z _ _ _ _ k c1 e4 e5 hwr) h
def bloomV (a b : Int) (cs : List Int) : Int × Int × Int × List Int × Bool := if goodCounting a b cs = true then (a, b, (cs.length : Int), fromW (onV cs) 0 cs.length (blankW (cs.length : Int)), true) else (0, 0, 0, [], false)
theorem bloomV_length (a b : Int) (cs : List Int) : (bloomV a b cs).2.2.2.1.length ≤ 1048576 := by
  unfold bloomV
  by_cases c : goodCounting a b cs = true
  · have g := (goodCounting_of c).2.2.1
    rw [if_pos c]
    simp only [fromW_length, blankW, List.length_replicate]
    omega
  · rw [if_neg c]
    simp
theorem spec_BloomOfCounting_ev (a b : Int) (cs : List Int) (hl : cs.length ≤ 9223372036854775807) : Ev (fun k => spec_BloomOfCounting.f k a b cs) (bloomV a b cs) := by
  unfold spec_BloomOfCounting.f bloomV
  refine Ev.bind (spec_fiCounting_ev a b cs hl) ?_
  by_cases c : goodCounting a b cs = true
  · obtain ⟨_, _, hn, hc⟩ := goodCounting_of c
    simp only [c, ↓reduceIte]
    refine Ev.bind (a := (a, b, (cs.length : Int), fromW (onV cs) 0 cs.length (blankW (cs.length : Int)))) ?_ (Ev.now _)
    simp only [spec_fiBits.f, spec_fiNew.f, spec_biNew_eq (cs.length : Int) (by omega) (by omega), Option.bind_some]
    exact spec_fiBits_l0 cs a b (cs.length : Int) hc (by omega) cs.length 0 (blankW (cs.length : Int)) (by omega) (by rw [blankW, List.length_replicate]; omega)
  · simp only [c, Bool.false_eq_true, ↓reduceIte]
    exact Ev.now _
theorem impl_BloomOfCounting_ev (a b : Int) (cs : List Int) (hl : cs.length ≤ 9223372036854775807) : Ev (fun k => impl_BloomOfCounting.f k a b cs) (bloomV a b cs) := by
  unfold impl_BloomOfCounting.f bloomV
  refine Ev.bind (impl_IsCounting_ev a b cs hl) ?_
  by_cases c : goodCounting a b cs = true
  · obtain ⟨_, _, hn, hc⟩ := goodCounting_of c
    simp only [c, ↓reduceIte]
    refine Ev.bind (a := (a, b, (cs.length : Int), fromW (onV cs) 0 cs.length (blankW (cs.length : Int)))) ?_ (Ev.now _)
    simp only [impl_Countingbloom.f, impl_madeBits_impl_Countingbloomc1.f, impl_blank_eq (cs.length : Int) (by omega) (by omega), Option.bind_some]
    exact Ev.bind (impl_made_l0 cs (cs.length : Int) (by omega) cs.length 0 (blankW (cs.length : Int)) (by omega) (by rw [blankW, List.length_replicate]; omega) (low_zero _)) (Ev.now _)
  · simp only [c, Bool.false_eq_true, ↓reduceIte]
    exact Ev.now _
theorem FnExactBloomOfCounting : ∀ (a0_0 : Int) (a0_1 : Int) (l0_2 : List Int), ((Lit.int .i64 a0_0).wf = true) → ((Lit.int .i64 a0_1).wf = true) → (l0_2.length ≤ maxLen ∧ ∀ l0_2' ∈ l0_2, (Lit.int .i64 l0_2').wf = true) → ∃ k, laws_FnExactBloomOfCounting.f k a0_0 a0_1 l0_2 = some true := by
  intro a b l h0 h1 hl
  refine Ev.rounds ?_
  have hl1 : l.length ≤ 9223372036854775807 := by have := hl.1; unfold maxLen at this; exact this
  unfold laws_FnExactBloomOfCounting.f
  simp only [laws_szCounting_eq a b l 1048576 (by decide) (by decide) hl1, Option.bind_some]
  by_cases e : (l.length : Int) ≤ 1048576
  · simp only [e, ↓reduceIte, show ¬ (1048576 - (l.length : Int) < 0) from by omega]
    have hl2 : l.length ≤ 1048576 := by omega
    have hg := bloomV_length a b l
    have hi := impl_BloomOfCounting_ev a b l hl1
    refine Ev.bind (laws_toCounting_ev a b l hl2) ?_
    refine Ev.bind (spec_BloomOfCounting_ev a b l hl1) ?_
    refine Ev.bind (laws_toCounting_ev a b l hl2) ?_
    refine Ev.bind hi ?_
    generalize bloomV a b l = v at *
    obtain ⟨x, y, z, ws, o⟩ := v
    simp only at hg
    refine Ev.bind (laws_eqBloom_self x y z ws (by omega)) ?_
    simp only [↓reduceIte, bne_self_eq_false]
    refine Ev.succ ?_
    simp only [laws_FnExactBloomOfCounting.j0, Bool.false_eq_true, ↓reduceIte]
    refine Ev.bind (laws_toCounting_ev a b l hl2) ?_
    refine Ev.bind (laws_eqCounting_self a b l hl1) ?_
    simp only [↓reduceIte]
    refine Ev.bind (laws_markCounting_ev a b l hl2) ?_
    simp only [show ¬ ((1 : Int) + (l.length : Int) < 0) from by omega, ↓reduceIte]
    refine Ev.bind (laws_eqBloom_self x y z ws (by omega)) ?_
    simp only [↓reduceIte, bne_self_eq_false]
    refine Ev.succ ?_
    simp only [laws_FnExactBloomOfCounting.j1, Bool.false_eq_true, ↓reduceIte]
    refine Ev.bind (laws_markBloom_ev x y z ws (by omega)) ?_
    refine Ev.bind (laws_heldBloom_ev x y z ws.length (by omega)) ?_
    simp only [show ¬ ((1 : Int) + (ws.length : Int) < 0) from by omega, ↓reduceIte]
    refine Ev.bind (laws_toCounting_ev a b l hl2) ?_
    refine Ev.bind hi ?_
    refine Ev.bind (laws_eqBloom_self x y z ws (by omega)) ?_
    simp only [↓reduceIte, bne_self_eq_false]
    refine Ev.succ ?_
    simp only [laws_FnExactBloomOfCounting.j2, Bool.false_eq_true, ↓reduceIte]
    refine Ev.bind (laws_heldBloom_ev x y z ws.length (by omega)) ?_
    simp only [show ¬ ((1 : Int) + (ws.length : Int) < 0) from by omega, ↓reduceIte]
    exact Ev.now _
  · simp only [e, ↓reduceIte, show ((-1 : Int) < 0) from by decide]
    exact Ev.now _

end Go.Proofs.Ytgnpledbeohjgaa.Pure
