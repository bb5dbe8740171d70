/- The program's BloomLoad returns what the reference's returns, for all arguments. -/
import Derived.Test.YtmiekfffaaagpaaPFnExactBloomLoadx3
import Derived.Test.YtmiekfffaaagpaaBase
namespace Go.Proofs.Ytmiekfffaaagpaa.Pure
open Go.RowKit Go.Proofs.Ytmiekfffaaagpaa.PFnExactBloomLoad Go.Proofs.YtmiekfffaaagpaaW.PrintWords Go.Proofs.YtmiekfffaaagpaaW.PrintLast Go.Proofs.Ytmiekfffaaagpaa.Base
set_option linter.unusedVariables false
set_option linter.unusedSimpArgs false

theorem laws_szIntS_eq (l : List Int) (a : Int) (h0 : 0 ≤ a) (h1 : a ≤ 1048576) (hl : l.length ≤ 9223372036854775807) : laws_szIntS.f l a = some (if (l.length : Int) ≤ a then a - l.length else -1) := by
  unfold laws_szIntS.f
  rw [w64 (by omega) (by omega)]
  by_cases c : (l.length : Int) ≤ a
  · rw [if_neg (by omega), if_pos c]
  · rw [if_pos (by omega), if_neg c]
theorem laws_toIntS_l0 (l : List Int) (hl : l.length ≤ 9223372036854775807) (d : Nat) : ∀ (i : Nat) (o : List Int), o.length = l.length → o.take i = l.take i → i + d = l.length → Ev (fun k => laws_toIntS.l0 k l o (i : Int)) l := by
  induction d with
  | zero =>
    intro i o ho ht hi
    refine Ev.succ ?_
    have h1 : ¬ ((i : Int) < (l.length : Int)) := by omega
    simp only [laws_toIntS.l0, h1, ↓reduceIte]
    rw [List.take_of_length_le (by omega), List.take_of_length_le (by omega)] at ht
    exact Ev.some_ ht
  | succ d ih =>
    intro i o ho ht hi
    refine Ev.succ ?_
    have h1 : (i : Int) < (l.length : Int) := by omega
    have h2 : (0 : Int) ≤ (i : Int) := by omega
    have h3 : (i : Int) < (o.length : Int) := by omega
    have hw : wrap64 ((i : Int) + 1) = ((i + 1 : Nat) : Int) := by rw [w64 (by omega) (by omega)]; rfl
    simp only [laws_toIntS.l0, h1, h2, h3, ↓reduceIte, hw, Int.toNat_natCast]
    exact ih (i + 1) _ (by simp [ho]) (by rw [take_set_succ _ _ _ (by omega), ht, rd_nat _ _ (by omega), List.take_succ_eq_append_getElem (by omega)]) (by omega)
theorem laws_toIntS_ev (l : List Int) (hl : l.length ≤ 35184372088832) : Ev (fun k => laws_toIntS.f k l) l := by
  have h1 : 0 ≤ (l.length : Int) := by omega
  have h2 : ((l.length : Int)).toNat ≤ 35184372088832 := by omega
  simp only [laws_toIntS.f, h1, h2, ↓reduceIte]
  exact laws_toIntS_l0 l (by omega) l.length 0 _ (by simp) (by simp) (by omega)
theorem laws_eqIntS_self (l : List Int) (hl : l.length ≤ 9223372036854775807) : Ev (fun k => laws_eqIntS.f k l l) true := by
  unfold laws_eqIntS.f
  simp only [↓reduceIte]
  refine Ev.up (L := fun k i => laws_eqIntS.l0 k l l (i : Int)) (r := fun _ => true) l.length ?_ ?_ 0 (Nat.zero_le _)
  · refine Ev.succ ?_
    have h1 : ¬ ((l.length : Int) < (l.length : Int)) := by omega
    simp only [laws_eqIntS.l0, h1, ↓reduceIte]
    exact Ev.now _
  · intro i hi ih
    refine Ev.succ ?_
    have h1 : (i : Int) < (l.length : Int) := by omega
    have h2 : (0 : Int) ≤ (i : Int) := by omega
    have hw : wrap64 ((i : Int) + 1) = ((i + 1 : Nat) : Int) := by rw [w64 (by omega) (by omega)]; rfl
    simp only [laws_eqIntS.l0, h1, h2, ↓reduceIte, hw]
    exact ih
theorem laws_szBloom_eq (a b n : Int) (l : List Int) (m : Int) (h0 : 0 ≤ m) (h1 : m ≤ 1048576) (hl : l.length ≤ 9223372036854775807) : laws_szBloom.f a b n l m = some (if (l.length : Int) ≤ m then m - l.length else -1) := by
  simp only [laws_szBloom.f, laws_szBits.f, laws_szIntS_eq l m h0 h1 hl, Option.bind_some]
  by_cases c : (l.length : Int) ≤ m
  · simp only [c, ↓reduceIte, show ¬ (m - (l.length : Int) < 0) from by omega, Option.bind_some]
  · simp only [c, ↓reduceIte, show ((-1 : Int) < 0) from by decide, Option.bind_some]
theorem laws_toBloom_ev (a b n : Int) (l : List Int) (hl : l.length ≤ 1048576) : Ev (fun k => laws_toBloom.f k a b n l) (a, b, n, l) := by
  unfold laws_toBloom.f laws_toBits.f
  refine Ev.bind (a := (n, l)) ?_ (Ev.now _)
  exact Ev.bind (laws_toIntS_ev l (by omega)) (Ev.now _)
theorem laws_eqBloom_self (a b n : Int) (l : List Int) (hl : l.length ≤ 9223372036854775807) : Ev (fun k => laws_eqBloom.f k a b n l a b n l) true := by
  simp only [laws_eqBloom.f, laws_eqBits.f, ↓reduceIte]
  refine Ev.bind (a := true) ?_ (by simp only [↓reduceIte]; exact Ev.now _)
  exact Ev.bind (laws_eqIntS_self l hl) (by simp only [↓reduceIte]; exact Ev.now _)
theorem spec_l1In_eq (a b c : Int) : spec_l1In.f a b c = some (decide (b ≤ a ∧ a ≤ c)) := by
  unfold spec_l1In.f
  by_cases h : b ≤ a <;> simp [h]
theorem spec_l1All_ev (l : List Int) (a b : Int) (hl : l.length ≤ 9223372036854775807) : Ev (fun k => spec_l1All.f k l a b) (l.all (inB a b)) := by
  have h := Ev.up (L := fun k i => spec_l1All.l0 k a b l (l.length : Int) (i : Int)) (r := fun i => (l.drop i).all (inB a b)) l.length ?_ ?_ 0 (Nat.zero_le _)
  · exact h
  · refine Ev.succ ?_
    have h1 : ¬ ((l.length : Int) < (l.length : Int)) := by omega
    simp only [spec_l1All.l0, h1, ↓reduceIte]
    exact Ev.some_ (by simp)
  · intro i hi ih
    refine Ev.succ ?_
    have h1 : (i : Int) < (l.length : Int) := by omega
    have h2 : (0 : Int) ≤ (i : Int) := by omega
    have hw : wrap64 ((i : Int) + 1) = ((i + 1 : Nat) : Int) := by rw [w64 (by omega) (by omega)]; rfl
    simp only [spec_l1All.l0, h1, h2, ↓reduceIte, hw, spec_l1In_eq, Option.bind_some]
    rw [drop_cons _ _ hi, List.all_cons, ← rd_nat _ _ hi]
    by_cases c : a ≤ rd l (i : Int) ∧ rd l (i : Int) ≤ b
    · have c2 : inB a b (rd l (i : Int)) = true := by simp [inB, c]
      simp only [c, and_self, decide_true, ↓reduceIte, c2, Bool.true_and]
      exact ih
    · have c2 : inB a b (rd l (i : Int)) = false := by simp [inB]; omega
      simp only [c, decide_false, Bool.false_eq_true, ↓reduceIte, c2, Bool.false_and]
      exact Ev.now _
theorem spec_biGood_ev (n : Int) (l : List Int) (hl : l.length ≤ 9223372036854775807) : Ev (fun k => spec_biGood.f k n l) (goodBits n l) := by
  unfold goodBits
  by_cases h0 : 0 ≤ n ∧ n ≤ 4096
  · have e0 : inB 0 4096 n = true := by simp [inB, h0]
    have e1 : wrap64 (Int.tdiv (wrap64 (n + 15)) 16) = (n + 15) / 16 := by rw [w64 (n := n + 15) (by omega) (by omega), tdiv_pos (by omega), w64 (by omega) (by omega)]
    simp only [spec_biGood.f, spec_l1In_eq, h0, and_self, decide_true, Option.bind_some, ↓reduceIte, e0, e1, Bool.true_and]
    by_cases h1 : (l.length : Int) = (n + 15) / 16
    · simp only [h1, ↓reduceIte, decide_true, Bool.true_and]
      refine Ev.bind (spec_l1All_ev l 0 65535 hl) ?_
      cases l.all (inB 0 65535) with
      | false =>
        simp only [Bool.false_eq_true, ↓reduceIte, Bool.false_and]
        exact Ev.now _
      | true =>
        simp only [↓reduceIte, Bool.true_and, lastOk, tmod_pos h0.1, h1]
        by_cases h2 : n % 16 = 0
        · simp only [h2, ↓reduceIte, decide_true, Bool.true_or]
          exact Ev.now _
        · have e2 : wrap64 ((n + 15) / 16 - 1) = (n + 15) / 16 - 1 := w64 (by omega) (by omega)
          simp only [h2, ↓reduceIte, decide_false, Bool.false_or, e2, show 0 ≤ (n + 15) / 16 - 1 from by omega, show (n + 15) / 16 - 1 < (n + 15) / 16 from by omega, show 0 ≤ n % 16 from by omega]
          exact Ev.now _
    · simp only [h1, ↓reduceIte, decide_false, Bool.false_and]
      exact Ev.now _
  · have e0 : inB 0 4096 n = false := by simp [inB]; omega
    simp only [spec_biGood.f, spec_l1In_eq, h0, decide_false, Option.bind_some, ↓reduceIte, e0, Bool.false_and, Bool.false_eq_true]
    exact Ev.now _
theorem impl_in_eq (a b c : Int) : impl_in.f a b c = some (decide (b ≤ a ∧ a ≤ c)) := by
  unfold impl_in.f
  by_cases h : b ≤ a <;> simp [h]
theorem impl_words_eq (n : Int) (h0 : 0 ≤ n) (h1 : n ≤ 1000000) : impl_words.f n = some ((n + 15) / 16) := by
  unfold impl_words.f
  rw [w64 (n := n + 16) (by omega) (by omega), w64 (n := n + 16 - 1) (by omega) (by omega), tdiv_pos (by omega), w64 (by omega) (by omega), show n + 16 - 1 = n + 15 from by omega]
theorem impl_IsBits_l0 (n : Int) (l : List Int) (hn0 : 0 ≤ n) (hn1 : n ≤ 4096) (hl : (l.length : Int) = (n + 15) / 16) : Ev (fun k => impl_IsBits.l0 k l (l.length : Int) 0 n l) (l.all (inB 0 65535) && lastOk n l) := by
  have h := Ev.up (L := fun k i => impl_IsBits.l0 k l (l.length : Int) (i : Int) n l) (r := fun i => (l.drop i).all (inB 0 65535) && lastOk n l) l.length ?_ ?_ 0 (Nat.zero_le _)
  · exact h
  · refine Ev.succ ?_
    have h1 : ¬ ((l.length : Int) < (l.length : Int)) := by omega
    simp only [impl_IsBits.l0, h1, ↓reduceIte, List.drop_length, List.all_nil, Bool.true_and, lastOk, tmod_pos hn0]
    by_cases h2 : n % 16 = 0
    · simp only [h2, ↓reduceIte, decide_true, Bool.true_or]
      exact Ev.now _
    · have e2 : wrap64 ((l.length : Int) - 1) = (l.length : Int) - 1 := w64 (by omega) (by omega)
      simp only [h2, ↓reduceIte, decide_false, Bool.false_or, e2, show 0 ≤ (l.length : Int) - 1 from by omega, show (l.length : Int) - 1 < (l.length : Int) from by omega, show 0 ≤ n % 16 from by omega]
      exact Ev.now _
  · intro i hi ih
    refine Ev.succ ?_
    have h1 : (i : Int) < (l.length : Int) := by omega
    have h2 : (0 : Int) ≤ (i : Int) := by omega
    have hw : wrap64 ((i : Int) + 1) = ((i + 1 : Nat) : Int) := by rw [w64 (by omega) (by omega)]; rfl
    simp only [impl_IsBits.l0, h1, h2, ↓reduceIte, hw, impl_in_eq, Option.bind_some]
    rw [drop_cons _ _ hi, List.all_cons, ← rd_nat _ _ hi]
    by_cases c : 0 ≤ rd l (i : Int) ∧ rd l (i : Int) ≤ 65535
    · have c2 : inB 0 65535 (rd l (i : Int)) = true := by simp [inB, c]
      simp only [c, and_self, decide_true, ↓reduceIte, c2, Bool.true_and]
      exact ih
    · have c2 : inB 0 65535 (rd l (i : Int)) = false := by simp [inB]; omega
      simp only [c, decide_false, Bool.false_eq_true, ↓reduceIte, c2, Bool.false_and]
      exact Ev.now _
theorem impl_IsBits_ev (n : Int) (l : List Int) (hl : l.length ≤ 9223372036854775807) : Ev (fun k => impl_IsBits.f k n l) (goodBits n l) := by
  unfold goodBits
  by_cases h0 : 0 ≤ n ∧ n ≤ 4096
  · have e0 : inB 0 4096 n = true := by simp [inB, h0]
    simp only [impl_IsBits.f, impl_in_eq, h0, and_self, decide_true, Option.bind_some, ↓reduceIte, e0, Bool.true_and, impl_words_eq n h0.1 (by omega)]
    refine Ev.succ ?_
    by_cases h1 : (l.length : Int) = (n + 15) / 16
    · simp only [impl_IsBits.j0, h1, bne_self_eq_false, Bool.false_eq_true, ↓reduceIte, decide_true, Bool.true_and]
      rw [← h1]
      exact impl_IsBits_l0 n l h0.1 h0.2 h1
    · have e2 : ((l.length : Int) != (n + 15) / 16) = true := by simp [h1]
      simp only [impl_IsBits.j0, e2, ↓reduceIte, h1, decide_false, Bool.false_and]
      exact Ev.now _
  · have e0 : inB 0 4096 n = false := by simp [inB]; omega
    simp only [impl_IsBits.f, impl_in_eq, h0, decide_false, Option.bind_some, ↓reduceIte, e0, Bool.false_and, Bool.false_eq_true]
    refine Ev.succ ?_
    simp only [impl_IsBits.j0, ↓reduceIte]
    exact Ev.now _
theorem spec_fiSize_eq (a b c : Int) : spec_fiSize.f a b c = some (decide ((0 ≤ a ∧ a ≤ 9999) ∧ (1 ≤ b ∧ b ≤ 8) ∧ 1 ≤ c ∧ c ≤ 512)) := by
  by_cases h : 0 ≤ a ∧ a ≤ 9999 <;> by_cases h2 : 1 ≤ b ∧ b ≤ 8 <;> simp [spec_fiSize.f, spec_l1In_eq, h, h2]
theorem impl_isSeed_eq (a : Int) : impl_isSeed.f a = some (decide (0 ≤ a ∧ a ≤ 9999)) := by
  simp only [impl_isSeed.f, impl_in_eq, Option.bind_some]
theorem impl_sizesOk_eq (a b c : Int) : impl_sizesOk.f a b c = some (decide ((0 ≤ a ∧ a ≤ 9999) ∧ (1 ≤ b ∧ b ≤ 8) ∧ 1 ≤ c ∧ c ≤ 512)) := by
  by_cases h : 0 ≤ a ∧ a ≤ 9999 <;> by_cases h2 : 1 ≤ b ∧ b ≤ 8 <;> simp [impl_sizesOk.f, impl_isSeed_eq, impl_in_eq, h, h2]
def goodSizes (a b n : Int) : Bool := decide ((0 ≤ a ∧ a ≤ 9999) ∧ (1 ≤ b ∧ b ≤ 8) ∧ 1 ≤ n ∧ n ≤ 512)
def goodBloom (a b n : Int) (l : List Int) : Bool := goodBits n l && goodSizes a b n
theorem spec_fiGood_ev (a b n : Int) (l : List Int) (hl : l.length ≤ 9223372036854775807) : Ev (fun k => spec_fiGood.f k a b n l) (goodBloom a b n l) := by
  unfold spec_fiGood.f goodBloom
  refine Ev.bind (spec_biGood_ev n l hl) ?_
  cases goodBits n l with
  | false => simp only [Bool.false_eq_true, ↓reduceIte, Bool.false_and]; exact Ev.now _
  | true => simp only [↓reduceIte, spec_fiSize_eq, Option.bind_some, Bool.true_and]; exact Ev.now _
theorem impl_IsBloom_ev (a b n : Int) (l : List Int) (hl : l.length ≤ 9223372036854775807) : Ev (fun k => impl_IsBloom.f k a b n l) (goodBloom a b n l) := by
  unfold impl_IsBloom.f goodBloom
  simp only [impl_sizesOk_eq, Option.bind_some]
  by_cases h : goodSizes a b n = true
  · have h' : decide ((0 ≤ a ∧ a ≤ 9999) ∧ (1 ≤ b ∧ b ≤ 8) ∧ 1 ≤ n ∧ n ≤ 512) = true := h
    simp only [h', h, ↓reduceIte, Bool.and_true]
    exact Ev.bind (impl_IsBits_ev n l hl) (Ev.now _)
  · have h2 : goodSizes a b n = false := by simpa using h
    have h' : decide ((0 ≤ a ∧ a ≤ 9999) ∧ (1 ≤ b ∧ b ≤ 8) ∧ 1 ≤ n ∧ n ≤ 512) = false := h2
    simp only [h', h2, Bool.false_eq_true, ↓reduceIte, Bool.and_false]
    exact Ev.now _
theorem spec_biAt_eq (n : Int) (l : List Int) (hl : ∀ x ∈ l, 0 ≤ x ∧ x ≤ 65535) (i : Nat) (hi : i / 16 < l.length) (hi2 : i ≤ 1000000) : spec_biAt.f n l (i : Int) = some (bitV l i) := by
  unfold spec_biAt.f
  have e1 : Int.tdiv (i : Int) 16 = ((i / 16 : Nat) : Int) := by rw [tdiv_pos (by omega)]; rfl
  have e2 : Int.tmod (i : Int) 16 = ((i % 16 : Nat) : Int) := by rw [tmod_pos (by omega)]; rfl
  rw [e1, e2, w64 (n := ((i / 16 : Nat) : Int)) (by omega) (by omega), if_pos (by omega), if_pos (by omega), if_pos (by omega)]
  have hr := rd_range hl ((i / 16 : Nat) : Int)
  rw [and_one_bit hr.1 hr.2 (by omega) (by omega), Int.toNat_natCast]
  rfl
theorem impl_Bits_at_in32_2_eq (a b n : Int) (l : List Int) (hl : ∀ x ∈ l, 0 ≤ x ∧ x ≤ 65535) (i : Nat) (hi : i / 16 < l.length) (hi2 : i ≤ 1000000) : impl_Bits_at_in32_2.f a b n l (i : Int) = some (bitV l i) := by
  unfold impl_Bits_at_in32_2.f
  have e1 : Int.tdiv (i : Int) 16 = ((i / 16 : Nat) : Int) := by rw [tdiv_pos (by omega)]; rfl
  have e2 : Int.tmod (i : Int) 16 = ((i % 16 : Nat) : Int) := by rw [tmod_pos (by omega)]; rfl
  rw [e1, e2, w64 (n := ((i / 16 : Nat) : Int)) (by omega) (by omega), if_pos (by omega), if_pos (by omega), if_pos (by omega)]
  have hr := rd_range hl ((i / 16 : Nat) : Int)
  rw [and_one_bit hr.1 hr.2 (by omega) (by omega), Int.toNat_natCast]
  rfl

def countV (l : List Int) (i d : Nat) : Int := ((List.range' i d).countP (bitV l) : Nat)
theorem countV_succ (l : List Int) (i d : Nat) : countV l i (d + 1) = (if bitV l i = true then 1 else 0) + countV l (i + 1) d := by
  unfold countV
  rw [List.range'_succ, List.countP_cons]
  by_cases h : bitV l i = true <;> simp [h] <;> omega
theorem countV_le (l : List Int) (i d : Nat) : 0 ≤ countV l i d ∧ countV l i d ≤ d := by
  unfold countV
  have := List.countP_le_length (p := bitV l) (l := List.range' i d)
  simp at this
  omega
theorem spec_biCount_l0 (n : Int) (l : List Int) (hl : ∀ x ∈ l, 0 ≤ x ∧ x ≤ 65535) (h0 : 0 ≤ n) (h1 : n ≤ 4096) (hn : (l.length : Int) = (n + 15) / 16) (d : Nat) : ∀ (i : Nat) (v : Int), i + d = n.toNat → 0 ≤ v → v ≤ i → Ev (fun k => spec_biCount.l0 k n v (i : Int) n l) (v + countV l i d) := by
  induction d with
  | zero =>
    intro i v hi v0 v1
    refine Ev.succ ?_
    have c1 : ¬ ((i : Int) < n) := by omega
    simp only [spec_biCount.l0, c1, ↓reduceIte]
    exact Ev.some_ (by simp [countV])
  | succ d ih =>
    intro i v hi v0 v1
    refine Ev.succ ?_
    have c1 : (i : Int) < n := by omega
    have hw : wrap64 ((i : Int) + 1) = ((i + 1 : Nat) : Int) := by rw [w64 (by omega) (by omega)]; rfl
    have hv : wrap64 (v + 1) = v + 1 := w64 (by omega) (by omega)
    simp only [spec_biCount.l0, c1, ↓reduceIte, spec_biAt_eq n l hl i (by omega) (by omega), Option.bind_some, hw, hv, countV_succ]
    by_cases hb : bitV l i = true
    · simp only [hb, ↓reduceIte]
      rw [← Int.add_assoc]
      exact ih (i + 1) (v + 1) (by omega) (by omega) (by omega)
    · simp only [hb, Bool.false_eq_true, ↓reduceIte, Int.zero_add]
      exact ih (i + 1) v (by omega) (by omega) (by omega)
theorem impl_Bits_count_in32_2_l0 (a b n : Int) (l : List Int) (hl : ∀ x ∈ l, 0 ≤ x ∧ x ≤ 65535) (h0 : 0 ≤ n) (h1 : n ≤ 4096) (hn : (l.length : Int) = (n + 15) / 16) (d : Nat) : ∀ (i : Nat) (v : Int), i + d = n.toNat → 0 ≤ v → v ≤ i → Ev (fun k => impl_Bits_count_in32_2.l0 k n v (i : Int) a b n l) (v + countV l i d) := by
  induction d with
  | zero =>
    intro i v hi v0 v1
    refine Ev.succ ?_
    have c1 : ¬ ((i : Int) < n) := by omega
    simp only [impl_Bits_count_in32_2.l0, c1, ↓reduceIte]
    exact Ev.some_ (by simp [countV])
  | succ d ih =>
    intro i v hi v0 v1
    refine Ev.succ ?_
    have c1 : (i : Int) < n := by omega
    have hw : wrap64 ((i : Int) + 1) = ((i + 1 : Nat) : Int) := by rw [w64 (by omega) (by omega)]; rfl
    have hv : wrap64 (v + 1) = v + 1 := w64 (by omega) (by omega)
    simp only [impl_Bits_count_in32_2.l0, c1, ↓reduceIte, impl_Bits_at_in32_2_eq a b n l hl i (by omega) (by omega), Option.bind_some, hw, hv, countV_succ]
    by_cases hb : bitV l i = true
    · simp only [hb, ↓reduceIte]
      rw [← Int.add_assoc]
      exact ih (i + 1) (v + 1) (by omega) (by omega) (by omega)
    · simp only [hb, Bool.false_eq_true, ↓reduceIte, Int.zero_add]
      exact ih (i + 1) v (by omega) (by omega) (by omega)
def loadV (a b n : Int) (l : List Int) : Int × Bool := if goodBloom a b n l = true then (countV l 0 n.toNat, true) else (0, false)
theorem goodBloom_bits {a b n : Int} {l : List Int} (h : goodBloom a b n l = true) : goodBits n l = true := by
  unfold goodBloom at h
  simp only [Bool.and_eq_true] at h
  exact h.1
theorem spec_BloomLoad_ev (a b n : Int) (l : List Int) (hl : l.length ≤ 9223372036854775807) : Ev (fun k => spec_BloomLoad.f k a b n l) (loadV a b n l) := by
  unfold spec_BloomLoad.f loadV
  refine Ev.bind (spec_fiGood_ev a b n l hl) ?_
  cases h : goodBloom a b n l with
  | false => simp only [Bool.false_eq_true, ↓reduceIte]; exact Ev.now _
  | true =>
    simp only [↓reduceIte]
    have g := goodBits_size (goodBloom_bits h)
    have e := spec_biCount_l0 n l g.2.2.2 g.1 g.2.1 g.2.2.1 n.toNat 0 0 (by omega) (by omega) (by omega)
    rw [Int.zero_add] at e
    refine Ev.bind (g := fun k => spec_biCount.f k n l 0 n) e ?_
    exact Ev.now _
theorem impl_BloomLoad_ev (a b n : Int) (l : List Int) (hl : l.length ≤ 9223372036854775807) : Ev (fun k => impl_BloomLoad.f k a b n l) (loadV a b n l) := by
  unfold impl_BloomLoad.f loadV
  refine Ev.bind (impl_IsBloom_ev a b n l hl) ?_
  cases h : goodBloom a b n l with
  | false => simp only [Bool.false_eq_true, ↓reduceIte]; exact Ev.now _
  | true =>
    simp only [↓reduceIte]
    have g := goodBits_size (goodBloom_bits h)
    have e := impl_Bits_count_in32_2_l0 a b n l g.2.2.2 g.1 g.2.1 g.2.2.1 n.toNat 0 0 (by omega) (by omega) (by omega)
    rw [Int.zero_add] at e
    refine Ev.bind (g := fun k => impl_Bits_count_in32_2.f k a b n l 0 n) e ?_
    exact Ev.now _
theorem FnExactBloomLoad : ∀ (a0_0 : Int) (a0_1 : Int) (a0_2 : Int) (l0_3 : List Int), ((Lit.int .i64 a0_0).wf = true) → ((Lit.int .i64 a0_1).wf = true) → ((Lit.int .i64 a0_2).wf = true) → (l0_3.length ≤ maxLen ∧ ∀ l0_3' ∈ l0_3, (Lit.int .i64 l0_3').wf = true) → ∃ k, laws_FnExactBloomLoad.f k a0_0 a0_1 a0_2 l0_3 = some true := by
  intro a b n l h0 h1 h2 hl
  refine Ev.rounds ?_
  have hl1 : l.length ≤ 9223372036854775807 := by have := hl.1; unfold maxLen at this; exact this
  unfold laws_FnExactBloomLoad.f
  simp only [laws_szBloom_eq a b n l 1048576 (by decide) (by decide) hl1, Option.bind_some]
  by_cases c : (l.length : Int) ≤ 1048576
  · simp only [c, ↓reduceIte, show ¬ (1048576 - (l.length : Int) < 0) from by omega]
    refine Ev.bind (laws_toBloom_ev a b n l (by omega)) ?_
    refine Ev.bind (spec_BloomLoad_ev a b n l hl1) ?_
    refine Ev.bind (laws_toBloom_ev a b n l (by omega)) ?_
    refine Ev.bind (impl_BloomLoad_ev a b n l hl1) ?_
    simp only [bne_self_eq_false, ↓reduceIte]
    refine Ev.succ ?_
    simp only [laws_FnExactBloomLoad.j0, Bool.false_eq_true, ↓reduceIte]
    refine Ev.bind (laws_toBloom_ev a b n l (by omega)) ?_
    refine Ev.bind (laws_eqBloom_self a b n l hl1) ?_
    simp only [↓reduceIte]
    exact Ev.now _
  · simp only [c, ↓reduceIte, show ((-1 : Int) < 0) from by decide]
    exact Ev.now _

end Go.Proofs.Ytmiekfffaaagpaa.Pure
