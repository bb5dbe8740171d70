/- The program's BloomHas returns what the reference's returns, for all arguments. -/
import Derived.Test.YtmiekfffaaagpaaPFnExactBloomHasx5
import Derived.Test.YtmiekfffaaagpaaBase
namespace Go.Proofs.Ytmiekfffaaagpaa.Pure
open Go.RowKit Go.Proofs.Ytmiekfffaaagpaa.PFnExactBloomHas Go.Proofs.YtmiekfffaaagpaaW.PrintWords Go.Proofs.YtmiekfffaaagpaaW.PrintLast Go.Proofs.Ytmiekfffaaagpaa.Base
set_option linter.unusedVariables false
set_option linter.unusedSimpArgs false

theorem laws_szIntS_eq (l : List Int) (a : Int) (h0 : 0 ≤ a) (h1 : a ≤ 1048576) (hl : l.length ≤ 9223372036854775807) : laws_szIntS.f l a = some (if (l.length : Int) ≤ a then a - l.length else -1) := by
  unfold laws_szIntS.f
  rw [w64 (by omega) (by omega)]
  by_cases c : (l.length : Int) ≤ a
  · rw [if_neg (by omega), if_pos c]
  · rw [if_pos (by omega), if_neg c]
theorem laws_toIntS_l0 (l : List Int) (hl : l.length ≤ 9223372036854775807) (d : Nat) : ∀ (i : Nat) (o : List Int), o.length = l.length → o.take i = l.take i → i + d = l.length → Ev (fun k => laws_toIntS.l0 k l o (i : Int)) l := by
  induction d with
  | zero =>
    intro i o ho ht hi
    refine Ev.succ ?_
    have h1 : ¬ ((i : Int) < (l.length : Int)) := by omega
    simp only [laws_toIntS.l0, h1, ↓reduceIte]
    rw [List.take_of_length_le (by omega), List.take_of_length_le (by omega)] at ht
    exact Ev.some_ ht
  | succ d ih =>
    intro i o ho ht hi
    refine Ev.succ ?_
    have h1 : (i : Int) < (l.length : Int) := by omega
    have h2 : (0 : Int) ≤ (i : Int) := by omega
    have h3 : (i : Int) < (o.length : Int) := by omega
    have hw : wrap64 ((i : Int) + 1) = ((i + 1 : Nat) : Int) := by rw [w64 (by omega) (by omega)]; rfl
    simp only [laws_toIntS.l0, h1, h2, h3, ↓reduceIte, hw, Int.toNat_natCast]
    exact ih (i + 1) _ (by simp [ho]) (by rw [take_set_succ _ _ _ (by omega), ht, rd_nat _ _ (by omega), List.take_succ_eq_append_getElem (by omega)]) (by omega)
theorem laws_toIntS_ev (l : List Int) (hl : l.length ≤ 35184372088832) : Ev (fun k => laws_toIntS.f k l) l := by
  have h1 : 0 ≤ (l.length : Int) := by omega
  have h2 : ((l.length : Int)).toNat ≤ 35184372088832 := by omega
  simp only [laws_toIntS.f, h1, h2, ↓reduceIte]
  exact laws_toIntS_l0 l (by omega) l.length 0 _ (by simp) (by simp) (by omega)
theorem laws_eqIntS_self (l : List Int) (hl : l.length ≤ 9223372036854775807) : Ev (fun k => laws_eqIntS.f k l l) true := by
  unfold laws_eqIntS.f
  simp only [↓reduceIte]
  refine Ev.up (L := fun k i => laws_eqIntS.l0 k l l (i : Int)) (r := fun _ => true) l.length ?_ ?_ 0 (Nat.zero_le _)
  · refine Ev.succ ?_
    have h1 : ¬ ((l.length : Int) < (l.length : Int)) := by omega
    simp only [laws_eqIntS.l0, h1, ↓reduceIte]
    exact Ev.now _
  · intro i hi ih
    refine Ev.succ ?_
    have h1 : (i : Int) < (l.length : Int) := by omega
    have h2 : (0 : Int) ≤ (i : Int) := by omega
    have hw : wrap64 ((i : Int) + 1) = ((i + 1 : Nat) : Int) := by rw [w64 (by omega) (by omega)]; rfl
    simp only [laws_eqIntS.l0, h1, h2, ↓reduceIte, hw]
    exact ih
theorem laws_szBloom_eq (a b n : Int) (l : List Int) (m : Int) (h0 : 0 ≤ m) (h1 : m ≤ 1048576) (hl : l.length ≤ 9223372036854775807) : laws_szBloom.f a b n l m = some (if (l.length : Int) ≤ m then m - l.length else -1) := by
  simp only [laws_szBloom.f, laws_szBits.f, laws_szIntS_eq l m h0 h1 hl, Option.bind_some]
  by_cases c : (l.length : Int) ≤ m
  · simp only [c, ↓reduceIte, show ¬ (m - (l.length : Int) < 0) from by omega, Option.bind_some]
  · simp only [c, ↓reduceIte, show ((-1 : Int) < 0) from by decide, Option.bind_some]
theorem laws_toBloom_ev (a b n : Int) (l : List Int) (hl : l.length ≤ 1048576) : Ev (fun k => laws_toBloom.f k a b n l) (a, b, n, l) := by
  unfold laws_toBloom.f laws_toBits.f
  refine Ev.bind (a := (n, l)) ?_ (Ev.now _)
  exact Ev.bind (laws_toIntS_ev l (by omega)) (Ev.now _)
theorem laws_eqBloom_self (a b n : Int) (l : List Int) (hl : l.length ≤ 9223372036854775807) : Ev (fun k => laws_eqBloom.f k a b n l a b n l) true := by
  simp only [laws_eqBloom.f, laws_eqBits.f, ↓reduceIte]
  refine Ev.bind (a := true) ?_ (by simp only [↓reduceIte]; exact Ev.now _)
  exact Ev.bind (laws_eqIntS_self l hl) (by simp only [↓reduceIte]; exact Ev.now _)
theorem spec_l1In_eq (a b c : Int) : spec_l1In.f a b c = some (decide (b ≤ a ∧ a ≤ c)) := by
  unfold spec_l1In.f
  by_cases h : b ≤ a <;> simp [h]
theorem spec_l1All_ev (l : List Int) (a b : Int) (hl : l.length ≤ 9223372036854775807) : Ev (fun k => spec_l1All.f k l a b) (l.all (inB a b)) := by
  have h := Ev.up (L := fun k i => spec_l1All.l0 k a b l (l.length : Int) (i : Int)) (r := fun i => (l.drop i).all (inB a b)) l.length ?_ ?_ 0 (Nat.zero_le _)
  · exact h
  · refine Ev.succ ?_
    have h1 : ¬ ((l.length : Int) < (l.length : Int)) := by omega
    simp only [spec_l1All.l0, h1, ↓reduceIte]
    exact Ev.some_ (by simp)
  · intro i hi ih
    refine Ev.succ ?_
    have h1 : (i : Int) < (l.length : Int) := by omega
    have h2 : (0 : Int) ≤ (i : Int) := by omega
    have hw : wrap64 ((i : Int) + 1) = ((i + 1 : Nat) : Int) := by rw [w64 (by omega) (by omega)]; rfl
    simp only [spec_l1All.l0, h1, h2, ↓reduceIte, hw, spec_l1In_eq, Option.bind_some]
    rw [drop_cons _ _ hi, List.all_cons, ← rd_nat _ _ hi]
    by_cases c : a ≤ rd l (i : Int) ∧ rd l (i : Int) ≤ b
    · have c2 : inB a b (rd l (i : Int)) = true := by simp [inB, c]
      simp only [c, and_self, decide_true, ↓reduceIte, c2, Bool.true_and]
      exact ih
    · have c2 : inB a b (rd l (i : Int)) = false := by simp [inB]; omega
      simp only [c, decide_false, Bool.false_eq_true, ↓reduceIte, c2, Bool.false_and]
      exact Ev.now _
theorem spec_biGood_ev (n : Int) (l : List Int) (hl : l.length ≤ 9223372036854775807) : Ev (fun k => spec_biGood.f k n l) (goodBits n l) := by
  unfold goodBits
  by_cases h0 : 0 ≤ n ∧ n ≤ 4096
  · have e0 : inB 0 4096 n = true := by simp [inB, h0]
    have e1 : wrap64 (Int.tdiv (wrap64 (n + 15)) 16) = (n + 15) / 16 := by rw [w64 (n := n + 15) (by omega) (by omega), tdiv_pos (by omega), w64 (by omega) (by omega)]
    simp only [spec_biGood.f, spec_l1In_eq, h0, and_self, decide_true, Option.bind_some, ↓reduceIte, e0, e1, Bool.true_and]
    by_cases h1 : (l.length : Int) = (n + 15) / 16
    · simp only [h1, ↓reduceIte, decide_true, Bool.true_and]
      refine Ev.bind (spec_l1All_ev l 0 65535 hl) ?_
      cases l.all (inB 0 65535) with
      | false =>
        simp only [Bool.false_eq_true, ↓reduceIte, Bool.false_and]
        exact Ev.now _
      | true =>
        simp only [↓reduceIte, Bool.true_and, lastOk, tmod_pos h0.1, h1]
        by_cases h2 : n % 16 = 0
        · simp only [h2, ↓reduceIte, decide_true, Bool.true_or]
          exact Ev.now _
        · have e2 : wrap64 ((n + 15) / 16 - 1) = (n + 15) / 16 - 1 := w64 (by omega) (by omega)
          simp only [h2, ↓reduceIte, decide_false, Bool.false_or, e2, show 0 ≤ (n + 15) / 16 - 1 from by omega, show (n + 15) / 16 - 1 < (n + 15) / 16 from by omega, show 0 ≤ n % 16 from by omega]
          exact Ev.now _
    · simp only [h1, ↓reduceIte, decide_false, Bool.false_and]
      exact Ev.now _
  · have e0 : inB 0 4096 n = false := by simp [inB]; omega
    simp only [spec_biGood.f, spec_l1In_eq, h0, decide_false, Option.bind_some, ↓reduceIte, e0, Bool.false_and, Bool.false_eq_true]
    exact Ev.now _
theorem impl_in_eq (a b c : Int) : impl_in.f a b c = some (decide (b ≤ a ∧ a ≤ c)) := by
  unfold impl_in.f
  by_cases h : b ≤ a <;> simp [h]
theorem impl_words_eq (n : Int) (h0 : 0 ≤ n) (h1 : n ≤ 1000000) : impl_words.f n = some ((n + 15) / 16) := by
  unfold impl_words.f
  rw [w64 (n := n + 16) (by omega) (by omega), w64 (n := n + 16 - 1) (by omega) (by omega), tdiv_pos (by omega), w64 (by omega) (by omega), show n + 16 - 1 = n + 15 from by omega]
theorem impl_IsBits_l0 (n : Int) (l : List Int) (hn0 : 0 ≤ n) (hn1 : n ≤ 4096) (hl : (l.length : Int) = (n + 15) / 16) : Ev (fun k => impl_IsBits.l0 k l (l.length : Int) 0 n l) (l.all (inB 0 65535) && lastOk n l) := by
  have h := Ev.up (L := fun k i => impl_IsBits.l0 k l (l.length : Int) (i : Int) n l) (r := fun i => (l.drop i).all (inB 0 65535) && lastOk n l) l.length ?_ ?_ 0 (Nat.zero_le _)
  · exact h
  · refine Ev.succ ?_
    have h1 : ¬ ((l.length : Int) < (l.length : Int)) := by omega
    simp only [impl_IsBits.l0, h1, ↓reduceIte, List.drop_length, List.all_nil, Bool.true_and, lastOk, tmod_pos hn0]
    by_cases h2 : n % 16 = 0
    · simp only [h2, ↓reduceIte, decide_true, Bool.true_or]
      exact Ev.now _
    · have e2 : wrap64 ((l.length : Int) - 1) = (l.length : Int) - 1 := w64 (by omega) (by omega)
      simp only [h2, ↓reduceIte, decide_false, Bool.false_or, e2, show 0 ≤ (l.length : Int) - 1 from by omega, show (l.length : Int) - 1 < (l.length : Int) from by omega, show 0 ≤ n % 16 from by omega]
      exact Ev.now _
  · intro i hi ih
    refine Ev.succ ?_
    have h1 : (i : Int) < (l.length : Int) := by omega
    have h2 : (0 : Int) ≤ (i : Int) := by omega
    have hw : wrap64 ((i : Int) + 1) = ((i + 1 : Nat) : Int) := by rw [w64 (by omega) (by omega)]; rfl
    simp only [impl_IsBits.l0, h1, h2, ↓reduceIte, hw, impl_in_eq, Option.bind_some]
    rw [drop_cons _ _ hi, List.all_cons, ← rd_nat _ _ hi]
    by_cases c : 0 ≤ rd l (i : Int) ∧ rd l (i : Int) ≤ 65535
    · have c2 : inB 0 65535 (rd l (i : Int)) = true := by simp [inB, c]
      simp only [c, and_self, decide_true, ↓reduceIte, c2, Bool.true_and]
      exact ih
    · have c2 : inB 0 65535 (rd l (i : Int)) = false := by simp [inB]; omega
      simp only [c, decide_false, Bool.false_eq_true, ↓reduceIte, c2, Bool.false_and]
      exact Ev.now _
theorem impl_IsBits_ev (n : Int) (l : List Int) (hl : l.length ≤ 9223372036854775807) : Ev (fun k => impl_IsBits.f k n l) (goodBits n l) := by
  unfold goodBits
  by_cases h0 : 0 ≤ n ∧ n ≤ 4096
  · have e0 : inB 0 4096 n = true := by simp [inB, h0]
    simp only [impl_IsBits.f, impl_in_eq, h0, and_self, decide_true, Option.bind_some, ↓reduceIte, e0, Bool.true_and, impl_words_eq n h0.1 (by omega)]
    refine Ev.succ ?_
    by_cases h1 : (l.length : Int) = (n + 15) / 16
    · simp only [impl_IsBits.j0, h1, bne_self_eq_false, Bool.false_eq_true, ↓reduceIte, decide_true, Bool.true_and]
      rw [← h1]
      exact impl_IsBits_l0 n l h0.1 h0.2 h1
    · have e2 : ((l.length : Int) != (n + 15) / 16) = true := by simp [h1]
      simp only [impl_IsBits.j0, e2, ↓reduceIte, h1, decide_false, Bool.false_and]
      exact Ev.now _
  · have e0 : inB 0 4096 n = false := by simp [inB]; omega
    simp only [impl_IsBits.f, impl_in_eq, h0, decide_false, Option.bind_some, ↓reduceIte, e0, Bool.false_and, Bool.false_eq_true]
    refine Ev.succ ?_
    simp only [impl_IsBits.j0, ↓reduceIte]
    exact Ev.now _
theorem spec_fiSize_eq (a b c : Int) : spec_fiSize.f a b c = some (decide ((0 ≤ a ∧ a ≤ 9999) ∧ (1 ≤ b ∧ b ≤ 8) ∧ 1 ≤ c ∧ c ≤ 512)) := by
  by_cases h : 0 ≤ a ∧ a ≤ 9999 <;> by_cases h2 : 1 ≤ b ∧ b ≤ 8 <;> simp [spec_fiSize.f, spec_l1In_eq, h, h2]
theorem impl_isSeed_eq (a : Int) : impl_isSeed.f a = some (decide (0 ≤ a ∧ a ≤ 9999)) := by
  simp only [impl_isSeed.f, impl_in_eq, Option.bind_some]
theorem impl_sizesOk_eq (a b c : Int) : impl_sizesOk.f a b c = some (decide ((0 ≤ a ∧ a ≤ 9999) ∧ (1 ≤ b ∧ b ≤ 8) ∧ 1 ≤ c ∧ c ≤ 512)) := by
  by_cases h : 0 ≤ a ∧ a ≤ 9999 <;> by_cases h2 : 1 ≤ b ∧ b ≤ 8 <;> simp [impl_sizesOk.f, impl_isSeed_eq, impl_in_eq, h, h2]
def goodSizes (a b n : Int) : Bool := decide ((0 ≤ a ∧ a ≤ 9999) ∧ (1 ≤ b ∧ b ≤ 8) ∧ 1 ≤ n ∧ n ≤ 512)
def goodBloom (a b n : Int) (l : List Int) : Bool := goodBits n l && goodSizes a b n
theorem spec_fiGood_ev (a b n : Int) (l : List Int) (hl : l.length ≤ 9223372036854775807) : Ev (fun k => spec_fiGood.f k a b n l) (goodBloom a b n l) := by
  unfold spec_fiGood.f goodBloom
  refine Ev.bind (spec_biGood_ev n l hl) ?_
  cases goodBits n l with
  | false => simp only [Bool.false_eq_true, ↓reduceIte, Bool.false_and]; exact Ev.now _
  | true => simp only [↓reduceIte, spec_fiSize_eq, Option.bind_some, Bool.true_and]; exact Ev.now _
theorem impl_IsBloom_ev (a b n : Int) (l : List Int) (hl : l.length ≤ 9223372036854775807) : Ev (fun k => impl_IsBloom.f k a b n l) (goodBloom a b n l) := by
  unfold impl_IsBloom.f goodBloom
  simp only [impl_sizesOk_eq, Option.bind_some]
  by_cases h : goodSizes a b n = true
  · have h' : decide ((0 ≤ a ∧ a ≤ 9999) ∧ (1 ≤ b ∧ b ≤ 8) ∧ 1 ≤ n ∧ n ≤ 512) = true := h
    simp only [h', h, ↓reduceIte, Bool.and_true]
    exact Ev.bind (impl_IsBits_ev n l hl) (Ev.now _)
  · have h2 : goodSizes a b n = false := by simpa using h
    have h' : decide ((0 ≤ a ∧ a ≤ 9999) ∧ (1 ≤ b ∧ b ≤ 8) ∧ 1 ≤ n ∧ n ≤ 512) = false := h2
    simp only [h', h2, Bool.false_eq_true, ↓reduceIte, Bool.and_false]
    exact Ev.now _
theorem spec_biAt_eq (n : Int) (l : List Int) (hl : ∀ x ∈ l, 0 ≤ x ∧ x ≤ 65535) (i : Nat) (hi : i / 16 < l.length) (hi2 : i ≤ 1000000) : spec_biAt.f n l (i : Int) = some (bitV l i) := by
  unfold spec_biAt.f
  have e1 : Int.tdiv (i : Int) 16 = ((i / 16 : Nat) : Int) := by rw [tdiv_pos (by omega)]; rfl
  have e2 : Int.tmod (i : Int) 16 = ((i % 16 : Nat) : Int) := by rw [tmod_pos (by omega)]; rfl
  rw [e1, e2, w64 (n := ((i / 16 : Nat) : Int)) (by omega) (by omega), if_pos (by omega), if_pos (by omega), if_pos (by omega)]
  have hr := rd_range hl ((i / 16 : Nat) : Int)
  rw [and_one_bit hr.1 hr.2 (by omega) (by omega), Int.toNat_natCast]
  rfl
theorem impl_Bits_at_in32_2_eq (a b n : Int) (l : List Int) (hl : ∀ x ∈ l, 0 ≤ x ∧ x ≤ 65535) (i : Nat) (hi : i / 16 < l.length) (hi2 : i ≤ 1000000) : impl_Bits_at_in32_2.f a b n l (i : Int) = some (bitV l i) := by
  unfold impl_Bits_at_in32_2.f
  have e1 : Int.tdiv (i : Int) 16 = ((i / 16 : Nat) : Int) := by rw [tdiv_pos (by omega)]; rfl
  have e2 : Int.tmod (i : Int) 16 = ((i % 16 : Nat) : Int) := by rw [tmod_pos (by omega)]; rfl
  rw [e1, e2, w64 (n := ((i / 16 : Nat) : Int)) (by omega) (by omega), if_pos (by omega), if_pos (by omega), if_pos (by omega)]
  have hr := rd_range hl ((i / 16 : Nat) : Int)
  rw [and_one_bit hr.1 hr.2 (by omega) (by omega), Int.toNat_natCast]
  rfl
theorem spec_IsKey_ev (s : ByteArray) (hs : s.size ≤ 9223372036854775807) : Ev (fun k => spec_IsKey.f k s) (isKey s) := by
  have h := Ev.up (L := fun k i => spec_IsKey.l0 k s (i : Int)) (r := fun i => ((bytesOf s).drop i).all okByte && decide (1 ≤ (s.size : Int) ∧ (s.size : Int) ≤ 12)) s.size ?_ ?_ 0 (Nat.zero_le _)
  · exact h
  · refine Ev.succ ?_
    have h1 : ¬ ((s.size : Int) < (s.size : Int)) := by omega
    simp only [spec_IsKey.l0, h1, ↓reduceIte, spec_l1In_eq, Option.bind_some]
    exact Ev.some_ (by rw [List.drop_of_length_le (by rw [bytesOf_length]; exact Nat.le_refl _)]; simp)
  · intro i hi ih
    refine Ev.succ ?_
    have h1 : (i : Int) < (s.size : Int) := by omega
    have h2 : (0 : Int) ≤ (i : Int) := by omega
    have hw : wrap64 ((i : Int) + 1) = ((i + 1 : Nat) : Int) := by rw [w64 (by omega) (by omega)]; rfl
    have hb := bt_nat s i hi
    simp only [spec_IsKey.l0, h1, h2, ↓reduceIte, hw]
    rw [drop_cons _ _ (by rw [bytesOf_length]; exact hi), List.all_cons, ← hb]
    by_cases c1 : bt s i < 33
    · simp only [c1, ↓reduceIte]
      exact Ev.some_ (by simp [okByte]; omega)
    · by_cases c2 : bt s i > 125
      · simp only [c1, c2, ↓reduceIte]
        exact Ev.some_ (by simp [okByte]; omega)
      · simp only [c1, c2, ↓reduceIte]
        have c3 : okByte (bt s i) = true := by simp [okByte]; omega
        rw [c3, Bool.true_and]
        exact ih
theorem impl_IsKey_ev (s : ByteArray) (hs : s.size ≤ 9223372036854775807) : Ev (fun k => impl_IsKey.f k s) (isKey s) := by
  have h := Ev.up (L := fun k i => impl_IsKey.l0 k s (s.size : Int) (i : Int)) (r := fun i => ((bytesOf s).drop i).all okByte && decide (1 ≤ (s.size : Int) ∧ (s.size : Int) ≤ 12)) s.size ?_ ?_ 0 (Nat.zero_le _)
  · exact h
  · refine Ev.succ ?_
    have h1 : ¬ ((s.size : Int) < (s.size : Int)) := by omega
    simp only [impl_IsKey.l0, h1, ↓reduceIte, impl_in_eq, Option.bind_some]
    exact Ev.some_ (by rw [List.drop_of_length_le (by rw [bytesOf_length]; exact Nat.le_refl _)]; simp)
  · intro i hi ih
    refine Ev.succ ?_
    have h1 : (i : Int) < (s.size : Int) := by omega
    have h2 : (0 : Int) ≤ (i : Int) := by omega
    have hw : wrap64 ((i : Int) + 1) = ((i + 1 : Nat) : Int) := by rw [w64 (by omega) (by omega)]; rfl
    have hb := bt_nat s i hi
    simp only [impl_IsKey.l0, h1, h2, ↓reduceIte, hw]
    rw [drop_cons _ _ (by rw [bytesOf_length]; exact hi), List.all_cons, ← hb]
    by_cases c1 : bt s i < 33
    · simp only [c1, ↓reduceIte]
      exact Ev.some_ (by simp [okByte]; omega)
    · by_cases c2 : bt s i > 125
      · simp only [c1, c2, ↓reduceIte]
        exact Ev.some_ (by simp [okByte]; omega)
      · simp only [c1, c2, ↓reduceIte]
        have c3 : okByte (bt s i) = true := by simp [okByte]; omega
        rw [c3, Bool.true_and]
        exact ih
theorem spec_pow (h : Int) (h0 : 0 ≤ h) (h1 : h < 65521) : Int.tmod (wrap64 ((Int.tmod (wrap64 ((Int.tmod (wrap64 ((Int.tmod (wrap64 ((Int.tmod (wrap64 (h * h)) 65521) * (Int.tmod (wrap64 (h * h)) 65521))) 65521) * h)) 65521) * (Int.tmod (wrap64 ((Int.tmod (wrap64 ((Int.tmod (wrap64 (h * h)) 65521) * (Int.tmod (wrap64 (h * h)) 65521))) 65521) * h)) 65521))) 65521) * h)) 65521 = h ^ 11 % 65521 := by
  have step : ∀ a b : Int, 0 ≤ a → a < 65521 → 0 ≤ b → b < 65521 → Int.tmod (wrap64 (a * b)) 65521 = a * b % 65521 := by
    intro a b ha ha' hb hb'
    obtain ⟨p0, p1⟩ := prod_range ha ha' hb hb'
    rw [w64 (by omega) (by omega), tmod_pos p0]
  have rng : ∀ x : Int, 0 ≤ x % 65521 ∧ x % 65521 < 65521 := fun x => ⟨Int.emod_nonneg _ (by decide), Int.emod_lt_of_pos _ (by decide)⟩
  rw [step h h h0 h1 h0 h1]
  rw [step _ _ (rng _).1 (rng _).2 (rng _).1 (rng _).2]
  rw [step _ _ (rng _).1 (rng _).2 h0 h1]
  rw [step _ _ (rng _).1 (rng _).2 (rng _).1 (rng _).2]
  rw [step _ _ (rng _).1 (rng _).2 h0 h1]
  simp only [mul_mod_l, mul_mod_r]
  congr 1
  simp only [Int.pow_succ, Int.pow_zero, Int.one_mul, Int.mul_assoc]
theorem spec_biHash_l0 (s : ByteArray) (hs : s.size ≤ 9223372036854775807) (d : Nat) : ∀ (i : Nat) (h : Int), i + d = s.size → 0 ≤ h → h < 65521 → Ev (fun k => spec_biHash.l0 k s h (i : Int)) (hashFrom h ((bytesOf s).drop i)) := by
  induction d with
  | zero =>
    intro i h hi h0 h1
    refine Ev.succ ?_
    have c1 : ¬ ((i : Int) < (s.size : Int)) := by omega
    simp only [spec_biHash.l0, c1, ↓reduceIte]
    rw [spec_pow h h0 h1]
    exact Ev.some_ (by rw [List.drop_of_length_le (by rw [bytesOf_length]; omega)]; rfl)
  | succ d ih =>
    intro i h hi h0 h1
    refine Ev.succ ?_
    have c1 : (i : Int) < (s.size : Int) := by omega
    have c2 : (0 : Int) ≤ (i : Int) := by omega
    have hw : wrap64 ((i : Int) + 1) = ((i + 1 : Nat) : Int) := by rw [w64 (by omega) (by omega)]; rfl
    have hb := bt_nat s i (by omega)
    have hr := bt_range s i
    have e : Int.tmod (wrap64 ((wrap64 (263 * h)) + (wrap64 (bt s i)))) 65521 = hstep h (bt s i) := by
      rw [w64 (n := 263 * h) (by omega) (by omega), w64 (n := bt s i) (by omega) (by omega), w64 (by omega) (by omega), tmod_pos (by omega)]
      rfl
    simp only [spec_biHash.l0, c1, c2, ↓reduceIte, hw, e]
    rw [drop_cons _ _ (by rw [bytesOf_length]; omega), ← hb]
    exact ih (i + 1) (hstep h (bt s i)) (by omega) (Int.emod_nonneg _ (by decide)) (Int.emod_lt_of_pos _ (by decide))
theorem spec_biHash_ev (a b : Int) (s : ByteArray) (hs : s.size ≤ 9223372036854775807) (ha0 : 0 ≤ a) (ha1 : a ≤ 9999) (hb0 : 0 ≤ b) (hb1 : b ≤ 9) : Ev (fun k => spec_biHash.f k a b s) (hashV a b s) := by
  have e : Int.tmod (wrap64 ((wrap64 ((wrap64 (31 * a)) + (wrap64 (977 * b)))) + 7)) 65521 = hash0 a b := by
    rw [w64 (n := 31 * a) (by omega) (by omega), w64 (n := 977 * b) (by omega) (by omega), w64 (n := 31 * a + 977 * b) (by omega) (by omega), w64 (by omega) (by omega), tmod_pos (by omega)]
    rfl
  unfold spec_biHash.f
  simp only [e]
  exact spec_biHash_l0 s hs s.size 0 (hash0 a b) (by omega) (Int.emod_nonneg _ (by decide)) (Int.emod_lt_of_pos _ (by decide))
theorem spec_biPlace_ev (a b : Int) (s : ByteArray) (n : Int) (hs : s.size ≤ 9223372036854775807) (ha0 : 0 ≤ a) (ha1 : a ≤ 9999) (hb0 : 0 ≤ b) (hb1 : b ≤ 9) (hn0 : 0 ≤ n) (hn1 : n ≤ 65521) : Ev (fun k => spec_biPlace.f k a b s n) (placeV a b s n) := by
  have hr := hash_range a b s
  have p0 : 0 ≤ hashV a b s * n := Int.mul_nonneg hr.1 hn0
  have p1 : hashV a b s * n ≤ 4293001441 := by
    have h1 : hashV a b s * n ≤ hashV a b s * 65521 := Int.mul_le_mul_of_nonneg_left (by omega) hr.1
    omega
  unfold spec_biPlace.f
  refine Ev.bind (spec_biHash_ev a b s hs ha0 ha1 hb0 hb1) ?_
  refine Ev.some_ ?_
  have h2 : hashV a b s * n / 65521 ≤ hashV a b s * n := Int.ediv_le_self _ p0
  have h3 : 0 ≤ hashV a b s * n / 65521 := Int.ediv_nonneg p0 (by decide)
  rw [w64 (n := hashV a b s * n) (by omega) (by omega), tdiv_pos p0, w64 (by omega) (by omega)]
  rfl
theorem spec_fiProbes_l0 (a b c : Int) (s : ByteArray) (hs : s.size ≤ 9223372036854775807) (ha0 : 0 ≤ a) (ha1 : a ≤ 9999) (hb0 : 0 ≤ b) (hb1 : b ≤ 9) (hc0 : 0 ≤ c) (hc1 : c ≤ 65521) (d : Nat) : ∀ i : Nat, i + d = b.toNat → Ev (fun k => spec_fiProbes.l0 k a b c s (probesV a c s i) (i : Int)) (probesV a c s b.toNat) := by
  induction d with
  | zero =>
    intro i hi
    refine Ev.succ ?_
    have h1 : ¬ ((i : Int) < b) := by omega
    simp only [spec_fiProbes.l0, h1, ↓reduceIte]
    exact Ev.some_ (by rw [← hi]; rfl)
  | succ d ih =>
    intro i hi
    refine Ev.succ ?_
    have h1 : (i : Int) < b := by omega
    have hw : wrap64 ((i : Int) + 1) = ((i + 1 : Nat) : Int) := by rw [w64 (by omega) (by omega)]; rfl
    have h2 : (probesV a c s i).length < 17592186044416 := by rw [probesV_length]; omega
    simp only [spec_fiProbes.l0, h1, h2, ↓reduceIte, hw]
    refine Ev.bind (spec_biPlace_ev a i s c hs ha0 ha1 (by omega) (by omega) hc0 hc1) ?_
    rw [← probesV_succ]
    exact ih (i + 1) (by omega)
theorem spec_fiProbes_ev (a b c : Int) (s : ByteArray) (hs : s.size ≤ 9223372036854775807) (ha0 : 0 ≤ a) (ha1 : a ≤ 9999) (hb0 : 0 ≤ b) (hb1 : b ≤ 9) (hc0 : 0 ≤ c) (hc1 : c ≤ 65521) : Ev (fun k => spec_fiProbes.f k a b c s) (probesV a c s b.toNat) := spec_fiProbes_l0 a b c s hs ha0 ha1 hb0 hb1 hc0 hc1 b.toNat 0 (by omega)
theorem impl_hash_l1 (h : Int) (h0 : 0 ≤ h) (h1 : h < 65521) (d : Nat) : ∀ (i : Nat) (o : Int), i + d = 11 → o = h ^ i % 65521 → Ev (fun k => impl_hash.l1 k h o (i : Int)) (h ^ 11 % 65521) := by
  induction d with
  | zero =>
    intro i o hi ho
    obtain rfl : i = 11 := by omega
    refine Ev.succ ?_
    simp only [impl_hash.l1]
    exact Ev.some_ ho
  | succ d ih =>
    intro i o hi ho
    refine Ev.succ ?_
    have c1 : (i : Int) < 11 := by omega
    have hw : wrap64 ((i : Int) + 1) = ((i + 1 : Nat) : Int) := by rw [w64 (by omega) (by omega)]; rfl
    have r : 0 ≤ o ∧ o < 65521 := by rw [ho]; exact ⟨Int.emod_nonneg _ (by decide), Int.emod_lt_of_pos _ (by decide)⟩
    obtain ⟨p0, p1⟩ := prod_range r.1 r.2 h0 h1
    have e : Int.tmod (wrap64 (o * h)) 65521 = h ^ (i + 1) % 65521 := by
      rw [w64 (by omega) (by omega), tmod_pos p0, ho, mul_mod_l, Int.pow_succ]
    simp only [impl_hash.l1, c1, ↓reduceIte, hw]
    exact ih (i + 1) _ (by omega) e
theorem impl_hash_l0 (s : ByteArray) (hs : s.size ≤ 9223372036854775807) (d : Nat) : ∀ (i : Nat) (h : Int), i + d = s.size → 0 ≤ h → h < 65521 → Ev (fun k => impl_hash.l0 k s h (s.size : Int) (i : Int)) (hashFrom h ((bytesOf s).drop i)) := by
  induction d with
  | zero =>
    intro i h hi h0 h1
    refine Ev.succ ?_
    have c1 : ¬ ((i : Int) < (s.size : Int)) := by omega
    simp only [impl_hash.l0, c1, ↓reduceIte]
    rw [List.drop_of_length_le (by rw [bytesOf_length]; omega)]
    exact impl_hash_l1 h h0 h1 11 0 1 (by omega) (by simp)
  | succ d ih =>
    intro i h hi h0 h1
    refine Ev.succ ?_
    have c1 : (i : Int) < (s.size : Int) := by omega
    have c2 : (0 : Int) ≤ (i : Int) := by omega
    have hw : wrap64 ((i : Int) + 1) = ((i + 1 : Nat) : Int) := by rw [w64 (by omega) (by omega)]; rfl
    have hb := bt_nat s i (by omega)
    have hr := bt_range s i
    have e : Int.tmod (wrap64 ((wrap64 (263 * h)) + (wrap64 (bt s i)))) 65521 = hstep h (bt s i) := by
      rw [w64 (n := 263 * h) (by omega) (by omega), w64 (n := bt s i) (by omega) (by omega), w64 (by omega) (by omega), tmod_pos (by omega)]
      rfl
    simp only [impl_hash.l0, c1, c2, ↓reduceIte, hw, e]
    rw [drop_cons _ _ (by rw [bytesOf_length]; omega), ← hb]
    exact ih (i + 1) (hstep h (bt s i)) (by omega) (Int.emod_nonneg _ (by decide)) (Int.emod_lt_of_pos _ (by decide))
theorem impl_hash_ev (a b : Int) (s : ByteArray) (hs : s.size ≤ 9223372036854775807) (ha0 : 0 ≤ a) (ha1 : a ≤ 9999) (hb0 : 0 ≤ b) (hb1 : b ≤ 9) : Ev (fun k => impl_hash.f k a b s) (hashV a b s) := by
  have e : Int.tmod (wrap64 ((wrap64 ((wrap64 (31 * a)) + (wrap64 (977 * b)))) + 7)) 65521 = hash0 a b := by
    rw [w64 (n := 31 * a) (by omega) (by omega), w64 (n := 977 * b) (by omega) (by omega), w64 (n := 31 * a + 977 * b) (by omega) (by omega), w64 (by omega) (by omega), tmod_pos (by omega)]
    rfl
  unfold impl_hash.f
  simp only [e]
  exact impl_hash_l0 s hs s.size 0 (hash0 a b) (by omega) (Int.emod_nonneg _ (by decide)) (Int.emod_lt_of_pos _ (by decide))
theorem impl_place_ev (a b : Int) (s : ByteArray) (n : Int) (hs : s.size ≤ 9223372036854775807) (ha0 : 0 ≤ a) (ha1 : a ≤ 9999) (hb0 : 0 ≤ b) (hb1 : b ≤ 9) (hn0 : 0 ≤ n) (hn1 : n ≤ 65521) : Ev (fun k => impl_place.f k a b s n) (placeV a b s n) := by
  have hr := hash_range a b s
  have p0 : 0 ≤ hashV a b s * n := Int.mul_nonneg hr.1 hn0
  have p1 : hashV a b s * n ≤ 4293001441 := by
    have h1 : hashV a b s * n ≤ hashV a b s * 65521 := Int.mul_le_mul_of_nonneg_left (by omega) hr.1
    omega
  unfold impl_place.f
  refine Ev.bind (impl_hash_ev a b s hs ha0 ha1 hb0 hb1) ?_
  refine Ev.some_ ?_
  have h2 : hashV a b s * n / 65521 ≤ hashV a b s * n := Int.ediv_le_self _ p0
  have h3 : 0 ≤ hashV a b s * n / 65521 := Int.ediv_nonneg p0 (by decide)
  rw [w64 (n := hashV a b s * n) (by omega) (by omega), tdiv_pos p0, w64 (by omega) (by omega)]
  rfl

def allV (l xs : List Int) : Bool := xs.all fun x => bitV l x.toNat
theorem probesV_range {a c : Int} {s : ByteArray} {n : Nat} (h : 0 < c) : ∀ x ∈ probesV a c s n, 0 ≤ x ∧ x < c := by
  intro x hx
  unfold probesV at hx
  obtain ⟨i, _, rfl⟩ := List.mem_map.1 hx
  exact place_range h
theorem spec_fiHas_l0 (a b n : Int) (l xs : List Int) (hl : ∀ x ∈ l, 0 ≤ x ∧ x ≤ 65535) (h1 : n ≤ 4096) (hn : (l.length : Int) = (n + 15) / 16) (hx : ∀ x ∈ xs, 0 ≤ x ∧ x < n) (hs : xs.length ≤ 100) : Ev (fun k => spec_fiHas.l0 k xs (xs.length : Int) ((0 : Nat) : Int) a b n l) (allV l xs) := by
  refine Ev.up (L := fun k i => spec_fiHas.l0 k xs (xs.length : Int) (i : Int) a b n l) (r := fun i => allV l (xs.drop i)) xs.length ?_ ?_ 0 (Nat.zero_le _)
  · refine Ev.succ ?_
    have c1 : ¬ ((xs.length : Int) < (xs.length : Int)) := by omega
    simp only [spec_fiHas.l0, c1, ↓reduceIte]
    exact Ev.some_ (by simp [allV])
  · intro i hi ih
    refine Ev.succ ?_
    have c1 : (i : Int) < (xs.length : Int) := by omega
    have c2 : (0 : Int) ≤ (i : Int) := by omega
    have hw : wrap64 ((i : Int) + 1) = ((i + 1 : Nat) : Int) := by rw [w64 (by omega) (by omega)]; rfl
    have hr := hx _ (List.getElem_mem hi)
    obtain ⟨t, ht⟩ := Int.eq_ofNat_of_zero_le hr.1
    have e : spec_biAt.f n l (rd xs (i : Int)) = some (bitV l t) := by
      rw [rd_nat xs i hi, ht]
      exact spec_biAt_eq n l hl t (by omega) (by omega)
    have ea : allV l (xs.drop i) = (bitV l t && allV l (xs.drop (i + 1))) := by
      rw [drop_cons xs i hi, ht]
      simp [allV]
    simp only [spec_fiHas.l0, c1, c2, ↓reduceIte, e, Option.bind_some, hw, ea]
    cases bitV l t with
    | false => simp only [Bool.false_eq_true, ↓reduceIte, Bool.false_and]; exact Ev.now _
    | true => simp only [↓reduceIte, Bool.true_and]; exact ih
theorem impl_says_l0 (a b n : Int) (l : List Int) (s : ByteArray) (hs : s.size ≤ 9223372036854775807) (ha0 : 0 ≤ a) (ha1 : a ≤ 9999) (hb0 : 1 ≤ b) (hb1 : b ≤ 8) (h0 : 1 ≤ n) (hl : ∀ x ∈ l, 0 ≤ x ∧ x ≤ 65535) (h1 : n ≤ 512) (hn : (l.length : Int) = (n + 15) / 16) : Ev (fun k => impl_Bloom_says_in32_0.l0 k s b ((0 : Nat) : Int) a b n l) (allV l (probesV a n s b.toNat)) := by
  have hlen := probesV_length a n s b.toNat
  refine Ev.up (L := fun k i => impl_Bloom_says_in32_0.l0 k s b (i : Int) a b n l) (r := fun i => allV l ((probesV a n s b.toNat).drop i)) b.toNat ?_ ?_ 0 (Nat.zero_le _)
  · refine Ev.succ ?_
    have c1 : ¬ (((b.toNat : Nat) : Int) < b) := by omega
    simp only [impl_Bloom_says_in32_0.l0, c1, ↓reduceIte]
    refine Ev.some_ ?_
    rw [List.drop_eq_nil_of_le (by omega)]
    rfl
  · intro i hi ih
    refine Ev.succ ?_
    have c1 : (i : Int) < b := by omega
    have hw : wrap64 ((i : Int) + 1) = ((i + 1 : Nat) : Int) := by rw [w64 (by omega) (by omega)]; rfl
    have hr := place_range (a := a) (b := (i : Int)) (s := s) (n := n) (by omega)
    obtain ⟨t, ht⟩ := Int.eq_ofNat_of_zero_le hr.1
    have hi' : i < (probesV a n s b.toNat).length := by omega
    have eg : (probesV a n s b.toNat)[i]'hi' = placeV a (i : Int) s n := by simp [probesV]
    have ea : allV l ((probesV a n s b.toNat).drop i) = (bitV l t && allV l ((probesV a n s b.toNat).drop (i + 1))) := by
      rw [drop_cons _ i hi', eg, ht]
      simp [allV]
    simp only [impl_Bloom_says_in32_0.l0, c1, ↓reduceIte, hw, ea]
    refine Ev.bind (impl_place_ev a i s n hs ha0 ha1 (by omega) (by omega) (by omega) (by omega)) ?_
    rw [ht]
    simp only [impl_Bits_at_in32_2_eq a b n l hl t (by omega) (by omega), Option.bind_some]
    cases bitV l t with
    | false => simp only [Bool.false_eq_true, ↓reduceIte, Bool.false_and]; exact Ev.now _
    | true => simp only [↓reduceIte, Bool.true_and]; exact ih
theorem goodBloom_of {a b n : Int} {l : List Int} (h : goodBloom a b n l = true) : goodBits n l = true ∧ (0 ≤ a ∧ a ≤ 9999) ∧ (1 ≤ b ∧ b ≤ 8) ∧ 1 ≤ n ∧ n ≤ 512 := by
  unfold goodBloom goodSizes at h
  simpa only [Bool.and_eq_true, decide_eq_true_eq] using h
def hasV (a b n : Int) (l : List Int) (s : ByteArray) : Bool × Bool := if goodBloom a b n l && isKey s then (allV l (probesV a n s b.toNat), true) else (false, false)
theorem spec_BloomHas_ev (a b n : Int) (l : List Int) (s : ByteArray) (hl : l.length ≤ 9223372036854775807) (hs : s.size ≤ 9223372036854775807) : Ev (fun k => spec_BloomHas.f k a b n l s) (hasV a b n l s) := by
  unfold spec_BloomHas.f hasV
  refine Ev.bind (spec_fiGood_ev a b n l hl) ?_
  cases h : goodBloom a b n l with
  | false => simp only [Bool.false_eq_true, ↓reduceIte, Bool.false_and]; exact Ev.now _
  | true =>
    simp only [↓reduceIte, Bool.true_and]
    refine Ev.bind (spec_IsKey_ev s hs) ?_
    cases isKey s with
    | false => simp only [Bool.false_eq_true, ↓reduceIte]; exact Ev.now _
    | true =>
      simp only [↓reduceIte]
      obtain ⟨g, ⟨a0, a1⟩, ⟨b0, b1⟩, n0, n1⟩ := goodBloom_of h
      have gs := goodBits_size g
      unfold spec_fiHas.f
      refine Ev.bind (Ev.bind (spec_fiProbes_ev a b n s hs a0 a1 (by omega) (by omega) (by omega) (by omega)) (spec_fiHas_l0 a b n l _ gs.2.2.2 gs.2.1 gs.2.2.1 (probesV_range (by omega)) (by rw [probesV_length]; omega))) ?_
      exact Ev.now _
theorem impl_BloomHas_ev (a b n : Int) (l : List Int) (s : ByteArray) (hl : l.length ≤ 9223372036854775807) (hs : s.size ≤ 9223372036854775807) : Ev (fun k => impl_BloomHas.f k a b n l s) (hasV a b n l s) := by
  unfold impl_BloomHas.f hasV
  refine Ev.bind (impl_IsBloom_ev a b n l hl) ?_
  cases h : goodBloom a b n l with
  | false => simp only [Bool.false_eq_true, ↓reduceIte, Bool.false_and]; exact Ev.now _
  | true =>
    simp only [↓reduceIte, Bool.true_and]
    refine Ev.bind (impl_IsKey_ev s hs) ?_
    cases isKey s with
    | false => simp only [Bool.false_eq_true, ↓reduceIte]; exact Ev.now _
    | true =>
      simp only [↓reduceIte]
      obtain ⟨g, ⟨a0, a1⟩, ⟨b0, b1⟩, n0, n1⟩ := goodBloom_of h
      have gs := goodBits_size g
      refine Ev.bind (g := fun k => impl_Bloom_says_in32_0.f k a b n l s) (impl_says_l0 a b n l s hs a0 a1 b0 b1 n0 gs.2.2.2 n1 gs.2.2.1) ?_
      exact Ev.now _
theorem FnExactBloomHas : ∀ (a0_0 : Int) (a0_1 : Int) (a0_2 : Int) (l0_3 : List Int) (a1 : ByteArray), ((Lit.int .i64 a0_0).wf = true) → ((Lit.int .i64 a0_1).wf = true) → ((Lit.int .i64 a0_2).wf = true) → (l0_3.length ≤ maxLen ∧ ∀ l0_3' ∈ l0_3, (Lit.int .i64 l0_3').wf = true) → (a1.size ≤ maxLen) → ∃ k, laws_FnExactBloomHas.f k a0_0 a0_1 a0_2 l0_3 a1 = some true := by
  intro a b n l s h0 h1 h2 hl hs
  refine Ev.rounds ?_
  have hl1 : l.length ≤ 9223372036854775807 := by have := hl.1; unfold maxLen at this; exact this
  have hs1 : s.size ≤ 9223372036854775807 := by unfold maxLen at hs; exact hs
  unfold laws_FnExactBloomHas.f
  by_cases c0 : (s.size : Int) > 1048576
  · simp only [c0, ↓reduceIte]
    exact Ev.now _
  simp only [c0, ↓reduceIte, laws_szBloom_eq a b n l 1048576 (by decide) (by decide) hl1, Option.bind_some]
  by_cases e : (l.length : Int) ≤ 1048576
  · simp only [e, ↓reduceIte, show ¬ (1048576 - (l.length : Int) < 0) from by omega]
    refine Ev.bind (laws_toBloom_ev a b n l (by omega)) ?_
    refine Ev.bind (spec_BloomHas_ev a b n l s hl1 hs1) ?_
    refine Ev.bind (laws_toBloom_ev a b n l (by omega)) ?_
    refine Ev.bind (impl_BloomHas_ev a b n l s hl1 hs1) ?_
    simp only [bne_self_eq_false, Bool.false_eq_true, ↓reduceIte]
    refine Ev.succ ?_
    simp only [laws_FnExactBloomHas.j0, Bool.false_eq_true, ↓reduceIte]
    refine Ev.bind (laws_toBloom_ev a b n l (by omega)) ?_
    refine Ev.bind (laws_eqBloom_self a b n l hl1) ?_
    simp only [↓reduceIte]
    exact Ev.now _
  · simp only [e, ↓reduceIte, show ((-1 : Int) < 0) from by decide]
    exact Ev.now _

end Go.Proofs.Ytmiekfffaaagpaa.Pure
