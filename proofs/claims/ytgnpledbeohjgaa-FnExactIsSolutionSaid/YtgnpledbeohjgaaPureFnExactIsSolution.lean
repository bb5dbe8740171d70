/- The program's IsSolution returns what the reference's returns, for all arguments. -/
import Derived.Test.YtgnpledbeohjgaaPFnExactIsSolutionx8
import Derived.Test.YtgnpledbeohjgaaBase
namespace Go.Proofs.Ytgnpledbeohjgaa.Pure
open Go.RowKit Go.Proofs.Ytgnpledbeohjgaa.PFnExactIsSolution Go.Proofs.YtgnpledbeohjgaaW.PrintWords Go.Proofs.YtgnpledbeohjgaaW.PrintLast Go.Proofs.Ytgnpledbeohjgaa.Base
set_option linter.unusedVariables false
set_option linter.unusedSimpArgs false

theorem laws_szIntS_eq (l : List Int) (a : Int) (h0 : 0 ≤ a) (h1 : a ≤ 1048576) (hl : l.length ≤ 9223372036854775807) : laws_szIntS.f l a = some (if (l.length : Int) ≤ a then a - l.length else -1) := by
  unfold laws_szIntS.f
  rw [w64 (by omega) (by omega)]
  by_cases c : (l.length : Int) ≤ a
  · rw [if_neg (by omega), if_pos c]
  · rw [if_pos (by omega), if_neg c]
theorem laws_toIntS_l0 (l : List Int) (hl : l.length ≤ 9223372036854775807) (d : Nat) : ∀ (i : Nat) (o : List Int), o.length = l.length → o.take i = l.take i → i + d = l.length → Ev (fun k => laws_toIntS.l0 k l o (i : Int)) l := by
  induction d with
  | zero =>
    intro i o ho ht hi
    refine Ev.succ ?_
    have h1 : ¬ ((i : Int) < (l.length : Int)) := by omega
    simp only [laws_toIntS.l0, h1, ↓reduceIte]
    rw [List.take_of_length_le (by omega), List.take_of_length_le (by omega)] at ht
    exact Ev.some_ ht
  | succ d ih =>
    intro i o ho ht hi
    refine Ev.succ ?_
    have h1 : (i : Int) < (l.length : Int) := by omega
    have h2 : (0 : Int) ≤ (i : Int) := by omega
    have h3 : (i : Int) < (o.length : Int) := by omega
    have hw : wrap64 ((i : Int) + 1) = ((i + 1 : Nat) : Int) := by rw [w64 (by omega) (by omega)]; rfl
    simp only [laws_toIntS.l0, h1, h2, h3, ↓reduceIte, hw, Int.toNat_natCast]
    exact ih (i + 1) _ (by simp [ho]) (by rw [take_set_succ _ _ _ (by omega), ht, rd_nat _ _ (by omega), List.take_succ_eq_append_getElem (by omega)]) (by omega)
theorem laws_toIntS_ev (l : List Int) (hl : l.length ≤ 35184372088832) : Ev (fun k => laws_toIntS.f k l) l := by
  have h1 : 0 ≤ (l.length : Int) := by omega
  have h2 : ((l.length : Int)).toNat ≤ 35184372088832 := by omega
  simp only [laws_toIntS.f, h1, h2, ↓reduceIte]
  exact laws_toIntS_l0 l (by omega) l.length 0 _ (by simp) (by simp) (by omega)
theorem laws_eqIntS_self (l : List Int) (hl : l.length ≤ 9223372036854775807) : Ev (fun k => laws_eqIntS.f k l l) true := by
  unfold laws_eqIntS.f
  simp only [↓reduceIte]
  refine Ev.up (L := fun k i => laws_eqIntS.l0 k l l (i : Int)) (r := fun _ => true) l.length ?_ ?_ 0 (Nat.zero_le _)
  · refine Ev.succ ?_
    have h1 : ¬ ((l.length : Int) < (l.length : Int)) := by omega
    simp only [laws_eqIntS.l0, h1, ↓reduceIte]
    exact Ev.now _
  · intro i hi ih
    refine Ev.succ ?_
    have h1 : (i : Int) < (l.length : Int) := by omega
    have h2 : (0 : Int) ≤ (i : Int) := by omega
    have hw : wrap64 ((i : Int) + 1) = ((i + 1 : Nat) : Int) := by rw [w64 (by omega) (by omega)]; rfl
    simp only [laws_eqIntS.l0, h1, h2, ↓reduceIte, hw]
    exact ih
theorem spec_l1In_eq (a b c : Int) : spec_l1In.f a b c = some (decide (b ≤ a ∧ a ≤ c)) := by
  unfold spec_l1In.f
  by_cases h : b ≤ a <;> simp [h]
theorem spec_l1All_ev (l : List Int) (a b : Int) (hl : l.length ≤ 9223372036854775807) : Ev (fun k => spec_l1All.f k l a b) (l.all (inB a b)) := by
  have h := Ev.up (L := fun k i => spec_l1All.l0 k a b l (l.length : Int) (i : Int)) (r := fun i => (l.drop i).all (inB a b)) l.length ?_ ?_ 0 (Nat.zero_le _)
  · exact h
  · refine Ev.succ ?_
    have h1 : ¬ ((l.length : Int) < (l.length : Int)) := by omega
    simp only [spec_l1All.l0, h1, ↓reduceIte]
    exact Ev.some_ (by simp)
  · intro i hi ih
    refine Ev.succ ?_
    have h1 : (i : Int) < (l.length : Int) := by omega
    have h2 : (0 : Int) ≤ (i : Int) := by omega
    have hw : wrap64 ((i : Int) + 1) = ((i + 1 : Nat) : Int) := by rw [w64 (by omega) (by omega)]; rfl
    simp only [spec_l1All.l0, h1, h2, ↓reduceIte, hw, spec_l1In_eq, Option.bind_some]
    rw [drop_cons _ _ hi, List.all_cons, ← rd_nat _ _ hi]
    by_cases c : a ≤ rd l (i : Int) ∧ rd l (i : Int) ≤ b
    · have c2 : inB a b (rd l (i : Int)) = true := by simp [inB, c]
      simp only [c, and_self, decide_true, ↓reduceIte, c2, Bool.true_and]
      exact ih
    · have c2 : inB a b (rd l (i : Int)) = false := by simp [inB]; omega
      simp only [c, decide_false, Bool.false_eq_true, ↓reduceIte, c2, Bool.false_and]
      exact Ev.now _
theorem spec_biGood_ev (n : Int) (l : List Int) (hl : l.length ≤ 9223372036854775807) : Ev (fun k => spec_biGood.f k n l) (goodBits n l) := by
  unfold goodBits
  by_cases h0 : 0 ≤ n ∧ n ≤ 4096
  · have e0 : inB 0 4096 n = true := by simp [inB, h0]
    have e1 : wrap64 (Int.tdiv (wrap64 (n + 15)) 16) = (n + 15) / 16 := by rw [w64 (n := n + 15) (by omega) (by omega), tdiv_pos (by omega), w64 (by omega) (by omega)]
    simp only [spec_biGood.f, spec_l1In_eq, h0, and_self, decide_true, Option.bind_some, ↓reduceIte, e0, e1, Bool.true_and]
    by_cases h1 : (l.length : Int) = (n + 15) / 16
    · simp only [h1, ↓reduceIte, decide_true, Bool.true_and]
      refine Ev.bind (spec_l1All_ev l 0 65535 hl) ?_
      cases l.all (inB 0 65535) with
      | false =>
        simp only [Bool.false_eq_true, ↓reduceIte, Bool.false_and]
        exact Ev.now _
      | true =>
        simp only [↓reduceIte, Bool.true_and, lastOk, tmod_pos h0.1, h1]
        by_cases h2 : n % 16 = 0
        · simp only [h2, ↓reduceIte, decide_true, Bool.true_or]
          exact Ev.now _
        · have e2 : wrap64 ((n + 15) / 16 - 1) = (n + 15) / 16 - 1 := w64 (by omega) (by omega)
          simp only [h2, ↓reduceIte, decide_false, Bool.false_or, e2, show 0 ≤ (n + 15) / 16 - 1 from by omega, show (n + 15) / 16 - 1 < (n + 15) / 16 from by omega, show 0 ≤ n % 16 from by omega]
          exact Ev.now _
    · simp only [h1, ↓reduceIte, decide_false, Bool.false_and]
      exact Ev.now _
  · have e0 : inB 0 4096 n = false := by simp [inB]; omega
    simp only [spec_biGood.f, spec_l1In_eq, h0, decide_false, Option.bind_some, ↓reduceIte, e0, Bool.false_and, Bool.false_eq_true]
    exact Ev.now _
theorem impl_in_eq (a b c : Int) : impl_in.f a b c = some (decide (b ≤ a ∧ a ≤ c)) := by
  unfold impl_in.f
  by_cases h : b ≤ a <;> simp [h]
theorem impl_words_eq (n : Int) (h0 : 0 ≤ n) (h1 : n ≤ 1000000) : impl_words.f n = some ((n + 15) / 16) := by
  unfold impl_words.f
  rw [w64 (n := n + 16) (by omega) (by omega), w64 (n := n + 16 - 1) (by omega) (by omega), tdiv_pos (by omega), w64 (by omega) (by omega), show n + 16 - 1 = n + 15 from by omega]
theorem impl_IsBits_l0 (n : Int) (l : List Int) (hn0 : 0 ≤ n) (hn1 : n ≤ 4096) (hl : (l.length : Int) = (n + 15) / 16) : Ev (fun k => impl_IsBits.l0 k l (l.length : Int) 0 n l) (l.all (inB 0 65535) && lastOk n l) := by
  have h := Ev.up (L := fun k i => impl_IsBits.l0 k l (l.length : Int) (i : Int) n l) (r := fun i => (l.drop i).all (inB 0 65535) && lastOk n l) l.length ?_ ?_ 0 (Nat.zero_le _)
  · exact h
  · refine Ev.succ ?_
    have h1 : ¬ ((l.length : Int) < (l.length : Int)) := by omega
    simp only [impl_IsBits.l0, h1, ↓reduceIte, List.drop_length, List.all_nil, Bool.true_and, lastOk, tmod_pos hn0]
    by_cases h2 : n % 16 = 0
    · simp only [h2, ↓reduceIte, decide_true, Bool.true_or]
      exact Ev.now _
    · have e2 : wrap64 ((l.length : Int) - 1) = (l.length : Int) - 1 := w64 (by omega) (by omega)
      simp only [h2, ↓reduceIte, decide_false, Bool.false_or, e2, show 0 ≤ (l.length : Int) - 1 from by omega, show (l.length : Int) - 1 < (l.length : Int) from by omega, show 0 ≤ n % 16 from by omega]
      exact Ev.now _
  · intro i hi ih
    refine Ev.succ ?_
    have h1 : (i : Int) < (l.length : Int) := by omega
    have h2 : (0 : Int) ≤ (i : Int) := by omega
    have hw : wrap64 ((i : Int) + 1) = ((i + 1 : Nat) : Int) := by rw [w64 (by omega) (by omega)]; rfl
    simp only [impl_IsBits.l0, h1, h2, ↓reduceIte, hw, impl_in_eq, Option.bind_some]
    rw [drop_cons _ _ hi, List.all_cons, ← rd_nat _ _ hi]
    by_cases c : 0 ≤ rd l (i : Int) ∧ rd l (i : Int) ≤ 65535
    · have c2 : inB 0 65535 (rd l (i : Int)) = true := by simp [inB, c]
      simp only [c, and_self, decide_true, ↓reduceIte, c2, Bool.true_and]
      exact ih
    · have c2 : inB 0 65535 (rd l (i : Int)) = false := by simp [inB]; omega
      simp only [c, decide_false, Bool.false_eq_true, ↓reduceIte, c2, Bool.false_and]
      exact Ev.now _
theorem impl_IsBits_ev (n : Int) (l : List Int) (hl : l.length ≤ 9223372036854775807) : Ev (fun k => impl_IsBits.f k n l) (goodBits n l) := by
  unfold goodBits
  by_cases h0 : 0 ≤ n ∧ n ≤ 4096
  · have e0 : inB 0 4096 n = true := by simp [inB, h0]
    simp only [impl_IsBits.f, impl_in_eq, h0, and_self, decide_true, Option.bind_some, ↓reduceIte, e0, Bool.true_and, impl_words_eq n h0.1 (by omega)]
    refine Ev.succ ?_
    by_cases h1 : (l.length : Int) = (n + 15) / 16
    · simp only [impl_IsBits.j0, h1, bne_self_eq_false, Bool.false_eq_true, ↓reduceIte, decide_true, Bool.true_and]
      rw [← h1]
      exact impl_IsBits_l0 n l h0.1 h0.2 h1
    · have e2 : ((l.length : Int) != (n + 15) / 16) = true := by simp [h1]
      simp only [impl_IsBits.j0, e2, ↓reduceIte, h1, decide_false, Bool.false_and]
      exact Ev.now _
  · have e0 : inB 0 4096 n = false := by simp [inB]; omega
    simp only [impl_IsBits.f, impl_in_eq, h0, decide_false, Option.bind_some, ↓reduceIte, e0, Bool.false_and, Bool.false_eq_true]
    refine Ev.succ ?_
    simp only [impl_IsBits.j0, ↓reduceIte]
    exact Ev.now _
theorem laws_toBoolS_l0 (l : List Bool) (hl : l.length ≤ 9223372036854775807) (d : Nat) : ∀ (i : Nat) (o : List Bool), o.length = l.length → o.take i = l.take i → i + d = l.length → Ev (fun k => laws_toBoolS.l0 k l o (i : Int)) l := by
  induction d with
  | zero =>
    intro i o ho ht hi
    refine Ev.succ ?_
    have h1 : ¬ ((i : Int) < (l.length : Int)) := by omega
    simp only [laws_toBoolS.l0, h1, ↓reduceIte]
    rw [List.take_of_length_le (by omega), List.take_of_length_le (by omega)] at ht
    exact Ev.some_ ht
  | succ d ih =>
    intro i o ho ht hi
    refine Ev.succ ?_
    have h1 : (i : Int) < (l.length : Int) := by omega
    have h2 : (0 : Int) ≤ (i : Int) := by omega
    have h3 : (i : Int) < (o.length : Int) := by omega
    have hw : wrap64 ((i : Int) + 1) = ((i + 1 : Nat) : Int) := by rw [w64 (by omega) (by omega)]; rfl
    simp only [laws_toBoolS.l0, h1, h2, h3, ↓reduceIte, hw, Int.toNat_natCast]
    exact ih (i + 1) _ (by simp [ho]) (by rw [take_set_succ _ _ _ (by omega), ht, rdOf_nat _ _ _ (by omega), List.take_succ_eq_append_getElem (by omega)]) (by omega)
theorem laws_toBoolS_ev (l : List Bool) (hl : l.length ≤ 17592186044416) : Ev (fun k => laws_toBoolS.f k l) l := by
  have h1 : 0 ≤ (l.length : Int) := by omega
  have h2 : ((l.length : Int)).toNat ≤ 281474976710656 := by omega
  simp only [laws_toBoolS.f, h1, h2, ↓reduceIte]
  exact laws_toBoolS_l0 l (by omega) l.length 0 _ (by simp) (by simp) (by omega)
theorem laws_eqBoolS_self (l : List Bool) (hl : l.length ≤ 9223372036854775807) : Ev (fun k => laws_eqBoolS.f k l l) true := by
  unfold laws_eqBoolS.f
  simp only [↓reduceIte]
  refine Ev.up (L := fun k i => laws_eqBoolS.l0 k l l (i : Int)) (r := fun _ => true) l.length ?_ ?_ 0 (Nat.zero_le _)
  · refine Ev.succ ?_
    have h1 : ¬ ((l.length : Int) < (l.length : Int)) := by omega
    simp only [laws_eqBoolS.l0, h1, ↓reduceIte]
    exact Ev.now _
  · intro i hi ih
    refine Ev.succ ?_
    have h1 : (i : Int) < (l.length : Int) := by omega
    have h2 : (0 : Int) ≤ (i : Int) := by omega
    have hw : wrap64 ((i : Int) + 1) = ((i + 1 : Nat) : Int) := by rw [w64 (by omega) (by omega)]; rfl
    simp only [laws_eqBoolS.l0, h1, h2, ↓reduceIte, hw, bne_self_eq_false, Bool.false_eq_true]
    exact ih
theorem laws_szBits_eq (n : Int) (l : List Int) (m : Int) (h0 : 0 ≤ m) (h1 : m ≤ 1048576) (hl : l.length ≤ 9223372036854775807) : laws_szBits.f n l m = some (if (l.length : Int) ≤ m then m - l.length else -1) := by
  unfold laws_szBits.f
  rw [laws_szIntS_eq l m h0 h1 hl, Option.bind_some]
  by_cases c : (l.length : Int) ≤ m
  · simp only [c, ↓reduceIte, show ¬ (m - (l.length : Int) < 0) from by omega]
  · simp only [c, ↓reduceIte, show ((-1 : Int) < 0) from by decide]
def szB : List S34 → Int → Int
  | [], m => m
  | b :: r, m => if (b.f1.length : Int) ≤ m then szB r (m - (b.f1.length : Int)) else -1
theorem szB_le (l : List S34) : ∀ m : Int, 0 ≤ m → szB l m ≤ m := by
  induction l with
  | nil => intro m h; exact Int.le_refl m
  | cons b r ih =>
    intro m h
    unfold szB
    by_cases c : (b.f1.length : Int) ≤ m
    · rw [if_pos c]
      have := ih (m - (b.f1.length : Int)) (by omega)
      omega
    · rw [if_neg c]; omega
theorem szB_sizes (l : List S34) : ∀ m : Int, 0 ≤ szB l m → ∀ b ∈ l, (b.f1.length : Int) ≤ m := by
  induction l with
  | nil => intro m h s hs; cases hs
  | cons x r ih =>
    intro m h s hs
    unfold szB at h
    by_cases c : (x.f1.length : Int) ≤ m
    · rw [if_pos c] at h
      rcases List.mem_cons.1 hs with rfl | hs
      · omega
      · have := ih _ h s hs
        omega
    · rw [if_neg c] at h; omega
theorem rd_T34_nat (l : List S34) (i : Nat) (h : i < l.length) : rd_T34 l (i : Int) = l[i] := by
  unfold rd_T34
  rw [Int.toNat_natCast, List.getD_eq_getElem?_getD, List.getElem?_eq_getElem h]
  rfl
theorem rd_T38_nat (l : List S38) (i : Nat) (h : i < l.length) : rd_T38 l (i : Int) = l[i] := by
  unfold rd_T38
  rw [Int.toNat_natCast, List.getD_eq_getElem?_getD, List.getElem?_eq_getElem h]
  rfl
theorem laws_szBitsS_l0 (l : List S34) (hl : l.length ≤ 9223372036854775807) (hs : ∀ b ∈ l, b.f1.length ≤ 9223372036854775807) (d : Nat) : ∀ (i : Nat) (m : Int), i + d = l.length → 0 ≤ m → m ≤ 1048576 → Ev (fun k => laws_szBitsS.l0 k l m (i : Int)) (szB (l.drop i) m) := by
  induction d with
  | zero =>
    intro i m hi m0 m1
    refine Ev.succ ?_
    have h1 : ¬ ((i : Int) < (l.length : Int)) := by omega
    simp only [laws_szBitsS.l0, h1, ↓reduceIte]
    exact Ev.some_ (by rw [List.drop_eq_nil_of_le (by omega)]; rfl)
  | succ d ih =>
    intro i m hi m0 m1
    refine Ev.succ ?_
    have h0 : i < l.length := by omega
    have h1 : (i : Int) < (l.length : Int) := by omega
    have h2 : (0 : Int) ≤ (i : Int) := by omega
    have hw : wrap64 ((i : Int) + 1) = ((i + 1 : Nat) : Int) := by rw [w64 (by omega) (by omega)]; rfl
    have hz := hs _ (List.getElem_mem h0)
    rw [drop_cons l i h0]
    simp only [laws_szBitsS.l0, h1, h2, ↓reduceIte, hw, rd_T34_nat l i h0, laws_szBits_eq _ _ m m0 m1 hz, Option.bind_some, szB]
    by_cases c : ((l[i]).f1.length : Int) ≤ m
    · simp only [c, ↓reduceIte, show ¬ (m - ((l[i]).f1.length : Int) < 0) from by omega]
      exact ih (i + 1) _ (by omega) (by omega) (by omega)
    · simp only [c, ↓reduceIte, show ((-1 : Int) < 0) from by decide]; exact Ev.now _
def szSys (bs : List S34) (rs : List Bool) (m : Int) : Int := if m - (bs.length : Int) < 0 then -1 else if szB bs (m - (bs.length : Int)) < 0 then -1 else if szB bs (m - (bs.length : Int)) - (rs.length : Int) < 0 then -1 else szB bs (m - (bs.length : Int)) - (rs.length : Int)
theorem szSys_of {bs : List S34} {rs : List Bool} {m : Int} (m0 : 0 ≤ m) (h : ¬ szSys bs rs m < 0) : (bs.length : Int) ≤ m ∧ (rs.length : Int) ≤ m ∧ (∀ b ∈ bs, (b.f1.length : Int) ≤ m) ∧ szSys bs rs m ≤ m := by
  have e : szSys bs rs m = if m - (bs.length : Int) < 0 then -1 else if szB bs (m - (bs.length : Int)) < 0 then -1 else if szB bs (m - (bs.length : Int)) - (rs.length : Int) < 0 then -1 else szB bs (m - (bs.length : Int)) - (rs.length : Int) := rfl
  by_cases c : m - (bs.length : Int) < 0
  · rw [if_pos c] at e; omega
  · have hle := szB_le bs (m - (bs.length : Int)) (by omega)
    rw [if_neg c] at e
    by_cases c' : szB bs (m - (bs.length : Int)) < 0
    · rw [if_pos c'] at e; omega
    · have hz := szB_sizes bs (m - (bs.length : Int)) (by omega)
      rw [if_neg c'] at e
      by_cases c2 : szB bs (m - (bs.length : Int)) - (rs.length : Int) < 0
      · rw [if_pos c2] at e; omega
      · rw [if_neg c2] at e
        refine ⟨by omega, by omega, fun b hb => ?_, by omega⟩
        have := hz b hb
        omega
theorem laws_szSystem_ev (a : Int) (bs : List S34) (rs : List Bool) (m : Int) (m0 : 0 ≤ m) (m1 : m ≤ 1048576) (hb : bs.length ≤ 9223372036854775807) (hs : ∀ b ∈ bs, b.f1.length ≤ 9223372036854775807) (hr : rs.length ≤ 9223372036854775807) : Ev (fun k => laws_szSystem.f k a bs rs m) (szSys bs rs m) := by
  have hB : Ev (fun k => laws_szBitsS.f k bs m) (if m - (bs.length : Int) < 0 then -1 else szB bs (m - (bs.length : Int))) := by
    unfold laws_szBitsS.f
    rw [w64 (n := m - (bs.length : Int)) (by omega) (by omega)]
    by_cases c : m - (bs.length : Int) < 0
    · simp only [c, ↓reduceIte]; exact Ev.now _
    · simp only [c, ↓reduceIte]
      exact laws_szBitsS_l0 bs hb hs bs.length 0 _ (by omega) (by omega) (by omega)
  unfold laws_szSystem.f szSys
  refine Ev.bind hB ?_
  by_cases c : m - (bs.length : Int) < 0
  · simp only [c, ↓reduceIte, show ((-1 : Int) < 0) from by decide]; exact Ev.now _
  · simp only [c, ↓reduceIte]
    by_cases c' : szB bs (m - (bs.length : Int)) < 0
    · simp only [c', ↓reduceIte]; exact Ev.now _
    · have hle := szB_le bs (m - (bs.length : Int)) (by omega)
      simp only [c', ↓reduceIte, laws_szBoolS.f, w64 (n := szB bs (m - (bs.length : Int)) - (rs.length : Int)) (by omega) (by omega)]
      by_cases c2 : szB bs (m - (bs.length : Int)) - (rs.length : Int) < 0
      · simp only [c2, ↓reduceIte, Option.bind_some, show ((-1 : Int) < 0) from by decide]; exact Ev.now _
      · simp only [c2, ↓reduceIte, Option.bind_some]; exact Ev.now _
def toB (x : S34) : S38 := ⟨x.f0, x.f1⟩
theorem laws_toBitsS_l0 (l : List S34) (hl : l.length ≤ 1048576) (hs : ∀ b ∈ l, b.f1.length ≤ 1048576) (d : Nat) : ∀ (i : Nat) (o : List S38), o.length = l.length → o.take i = (l.map toB).take i → i + d = l.length → Ev (fun k => laws_toBitsS.l0 k l o (i : Int)) (l.map toB) := by
  induction d with
  | zero =>
    intro i o ho ht hi
    refine Ev.succ ?_
    have h1 : ¬ ((i : Int) < (l.length : Int)) := by omega
    simp only [laws_toBitsS.l0, h1, ↓reduceIte]
    rw [List.take_of_length_le (by omega), List.take_of_length_le (by simp; omega)] at ht
    exact Ev.some_ ht
  | succ d ih =>
    intro i o ho ht hi
    refine Ev.succ ?_
    have h0 : i < l.length := by omega
    have h1 : (i : Int) < (l.length : Int) := by omega
    have h2 : (0 : Int) ≤ (i : Int) := by omega
    have h3 : (i : Int) < (o.length : Int) := by omega
    have hw : wrap64 ((i : Int) + 1) = ((i + 1 : Nat) : Int) := by rw [w64 (by omega) (by omega)]; rfl
    have hz := hs _ (List.getElem_mem h0)
    simp only [laws_toBitsS.l0, h1, h2, ↓reduceIte, rd_T34_nat l i h0, laws_toBits.f]
    refine Ev.bind (Ev.bind (laws_toIntS_ev _ (by omega)) (Ev.now _)) ?_
    simp only [h3, ↓reduceIte, hw, Int.toNat_natCast]
    refine ih (i + 1) _ (by simp [ho]) ?_ (by omega)
    rw [take_set_succ _ _ _ (by omega), ht, List.take_succ_eq_append_getElem (by simp; omega)]
    simp [toB]
theorem laws_toSystem_ev (a : Int) (bs : List S34) (rs : List Bool) (hb : bs.length ≤ 1048576) (hs : ∀ b ∈ bs, b.f1.length ≤ 1048576) (hr : rs.length ≤ 1048576) : Ev (fun k => laws_toSystem.f k a bs rs) (a, bs.map toB, rs) := by
  have hB : Ev (fun k => laws_toBitsS.f k bs) (bs.map toB) := by
    have h1 : 0 ≤ (bs.length : Int) := by omega
    have h2 : ((bs.length : Int)).toNat ≤ 8796093022208 := by omega
    simp only [laws_toBitsS.f, h1, h2, ↓reduceIte]
    exact laws_toBitsS_l0 bs hb hs bs.length 0 _ (by simp) (by simp) (by omega)
  unfold laws_toSystem.f
  exact Ev.bind hB (Ev.bind (laws_toBoolS_ev rs (by omega)) (Ev.now _))
theorem laws_eqBitsS_self (l : List S38) (hl : l.length ≤ 9223372036854775807) (hs : ∀ b ∈ l, b.f1.length ≤ 9223372036854775807) : Ev (fun k => laws_eqBitsS.f k l l) true := by
  unfold laws_eqBitsS.f
  simp only [↓reduceIte]
  refine Ev.up (L := fun k i => laws_eqBitsS.l0 k l l (i : Int)) (r := fun _ => true) l.length ?_ ?_ 0 (Nat.zero_le _)
  · refine Ev.succ ?_
    have h1 : ¬ ((l.length : Int) < (l.length : Int)) := by omega
    simp only [laws_eqBitsS.l0, h1, ↓reduceIte]
    exact Ev.now _
  · intro i hi ih
    refine Ev.succ ?_
    have h1 : (i : Int) < (l.length : Int) := by omega
    have h2 : (0 : Int) ≤ (i : Int) := by omega
    have hw : wrap64 ((i : Int) + 1) = ((i + 1 : Nat) : Int) := by rw [w64 (by omega) (by omega)]; rfl
    have hz := hs _ (List.getElem_mem hi)
    simp only [laws_eqBitsS.l0, h1, h2, ↓reduceIte, hw, rd_T38_nat l i hi, laws_eqBits.f]
    refine Ev.bind (a := true) (Ev.bind (laws_eqIntS_self _ hz) (by simp only [↓reduceIte]; exact Ev.now _)) ?_
    simp only [↓reduceIte]
    exact ih
theorem laws_eqSystem_self (a : Int) (bs : List S38) (rs : List Bool) (hl : bs.length ≤ 9223372036854775807) (hs : ∀ b ∈ bs, b.f1.length ≤ 9223372036854775807) (hr : rs.length ≤ 9223372036854775807) : Ev (fun k => laws_eqSystem.f k a bs rs a bs rs) true := by
  unfold laws_eqSystem.f
  simp only [↓reduceIte]
  refine Ev.bind (laws_eqBitsS_self bs hl hs) ?_
  simp only [↓reduceIte]
  refine Ev.bind (laws_eqBoolS_self rs hr) ?_
  simp only [↓reduceIte]
  exact Ev.now _
def rowOk (a : Int) (b : S38) : Bool := goodBits b.f0 b.f1 && decide (b.f0 = a)
def goodSystem (a : Int) (bs : List S38) (rs : List Bool) : Bool := inB 1 72 a && (decide ((bs.length : Int) ≤ 40) && (decide ((rs.length : Int) = (bs.length : Int)) && bs.all (rowOk a)))
theorem any_not_rows (a : Int) (bs : List S38) : bs.any (fun b => !rowOk a b) = !bs.all (rowOk a) := by
  induction bs with
  | nil => rfl
  | cons x r ih => rw [List.any_cons, List.all_cons, ih, Bool.not_and]
theorem spec_reGood_ev (a : Int) (bs : List S38) (rs : List Bool) (hl : bs.length ≤ 9223372036854775807) (hs : ∀ b ∈ bs, b.f1.length ≤ 9223372036854775807) : Ev (fun k => spec_reGood.f k a bs rs) (goodSystem a bs rs) := by
  have L : Ev (fun k => spec_reGood.l0 k bs (bs.length : Int) ((0 : Nat) : Int) a bs rs) (bs.all (rowOk a)) := by
    refine Ev.up (L := fun k i => spec_reGood.l0 k bs (bs.length : Int) (i : Int) a bs rs) (r := fun i => (bs.drop i).all (rowOk a)) bs.length ?_ ?_ 0 (Nat.zero_le _)
    · refine Ev.succ ?_
      have h1 : ¬ ((bs.length : Int) < (bs.length : Int)) := by omega
      simp only [spec_reGood.l0, h1, ↓reduceIte]
      exact Ev.some_ (by simp)
    · intro i hi ih
      refine Ev.succ ?_
      have h1 : (i : Int) < (bs.length : Int) := by omega
      have h2 : (0 : Int) ≤ (i : Int) := by omega
      have hw : wrap64 ((i : Int) + 1) = ((i + 1 : Nat) : Int) := by rw [w64 (by omega) (by omega)]; rfl
      have hz := hs _ (List.getElem_mem hi)
      simp only [spec_reGood.l0, h1, h2, ↓reduceIte, hw, rd_T38_nat bs i hi]
      refine Ev.bind (spec_biGood_ev _ _ hz) ?_
      rw [drop_cons bs i hi, List.all_cons]
      unfold rowOk
      cases goodBits bs[i].f0 bs[i].f1 with
      | false => simp only [Bool.false_eq_true, ↓reduceIte, Bool.false_and]; exact Ev.now _
      | true =>
        by_cases c : bs[i].f0 = a
        · simp only [c, ↓reduceIte, decide_true, Bool.true_and]; exact ih
        · simp only [c, ↓reduceIte, decide_false, Bool.true_and, Bool.false_and]; exact Ev.now _
  unfold spec_reGood.f goodSystem inB
  simp only [spec_l1In_eq, Option.bind_some]
  by_cases c : 1 ≤ a ∧ a ≤ 72
  · simp only [c, and_self, decide_true, ↓reduceIte, Bool.true_and]
    by_cases c1 : (bs.length : Int) ≤ 40
    · have c1' : ¬ ((bs.length : Int) > 40) := by omega
      simp only [c1, c1', ↓reduceIte, decide_true, Bool.true_and]
      refine Ev.succ ?_
      by_cases c2 : (rs.length : Int) = (bs.length : Int)
      · simp only [spec_reGood.j0, c2, bne_self_eq_false, Bool.false_eq_true, ↓reduceIte, decide_true, Bool.true_and]
        exact L
      · have c3 : ((rs.length : Int) != (bs.length : Int)) = true := by simpa using c2
        simp only [spec_reGood.j0, c2, c3, ↓reduceIte, decide_false, Bool.false_and]
        exact Ev.now _
    · have c1' : (bs.length : Int) > 40 := by omega
      simp only [c1, c1', ↓reduceIte, decide_false, Bool.false_and]
      refine Ev.succ ?_
      simp only [spec_reGood.j0, ↓reduceIte]
      exact Ev.now _
  · simp only [c, decide_false, Bool.false_eq_true, ↓reduceIte, Bool.false_and]
    refine Ev.succ ?_
    simp only [spec_reGood.j0, ↓reduceIte]
    exact Ev.now _
theorem impl_IsSystemc1_ev (n : Int) (l : List Int) (a : Int) (bs : List S38) (rs : List Bool) (hl : l.length ≤ 9223372036854775807) : Ev (fun k => impl_IsSystemc1.f k n l a bs rs) (!rowOk a ⟨n, l⟩) := by
  unfold impl_IsSystemc1.f rowOk
  refine Ev.bind (impl_IsBits_ev n l hl) ?_
  cases goodBits n l with
  | false => simp only [Bool.false_eq_true, ↓reduceIte, Bool.false_and, Bool.not_false]; exact Ev.now _
  | true =>
    simp only [↓reduceIte, Bool.true_and]
    by_cases c : n = a
    · subst c
      exact Ev.some_ (by simp)
    · exact Ev.some_ (by simp [c])
theorem impl_IsSystem_ev (a : Int) (bs : List S38) (rs : List Bool) (hl : bs.length ≤ 9223372036854775807) (hs : ∀ b ∈ bs, b.f1.length ≤ 9223372036854775807) : Ev (fun k => impl_IsSystem.f k a bs rs) (goodSystem a bs rs) := by
  have L : Ev (fun k => impl_Bits_impl_IsSystemc1_130.f k bs a bs rs) (idxV (fun b => !rowOk a b) bs 0) := by
    refine Ev.up (L := fun k i => impl_Bits_impl_IsSystemc1_130.l0 k bs (bs.length : Int) (i : Int) a bs rs) (r := fun i => idxV (fun b => !rowOk a b) bs i) bs.length ?_ ?_ 0 (Nat.zero_le _)
    · refine Ev.succ ?_
      have h1 : ¬ ((bs.length : Int) < (bs.length : Int)) := by omega
      simp only [impl_Bits_impl_IsSystemc1_130.l0, h1, ↓reduceIte]
      exact Ev.some_ (idxV_end _ _).symm
    · intro i hi ih
      refine Ev.succ ?_
      have h1 : (i : Int) < (bs.length : Int) := by omega
      have h2 : (0 : Int) ≤ (i : Int) := by omega
      have hw : wrap64 ((i : Int) + 1) = ((i + 1 : Nat) : Int) := by rw [w64 (by omega) (by omega)]; rfl
      have hz := hs _ (List.getElem_mem hi)
      simp only [impl_Bits_impl_IsSystemc1_130.l0, h1, h2, ↓reduceIte, hw, rd_T38_nat bs i hi]
      refine Ev.bind (impl_IsSystemc1_ev _ _ a bs rs hz) ?_
      cases hp : rowOk a bs[i] with
      | false =>
        have hp' : rowOk a ⟨bs[i].f0, bs[i].f1⟩ = false := hp
        simp only [hp', Bool.not_false, ↓reduceIte]
        exact Ev.some_ (idxV_hit hi (by simp [hp])).symm
      | true =>
        have hp' : rowOk a ⟨bs[i].f0, bs[i].f1⟩ = true := hp
        simp only [hp', Bool.not_true, Bool.false_eq_true, ↓reduceIte]
        rw [idxV_miss hi (by simp [hp])]
        exact ih
  have C : Ev (fun k => impl_Bits_impl_IsSystemc1_116.f k bs a bs rs) (!bs.all (rowOk a)) := by
    unfold impl_Bits_impl_IsSystemc1_116.f
    refine Ev.bind L ?_
    rw [idxV_ge, any_not_rows]
    exact Ev.now _
  unfold impl_IsSystem.f goodSystem inB
  refine Ev.bind C ?_
  simp only [impl_in_eq, Option.bind_some]
  cases bs.all (rowOk a) with
  | false =>
    simp only [Bool.not_false, ↓reduceIte, Bool.and_false]
    exact Ev.now _
  | true =>
    simp only [Bool.not_true, Bool.false_eq_true, ↓reduceIte, Bool.and_true]
    by_cases c : 1 ≤ a ∧ a ≤ 72
    · simp only [c, and_self, decide_true, ↓reduceIte, Bool.true_and]
      by_cases c1 : (bs.length : Int) ≤ 40
      · simp only [c1, ↓reduceIte, decide_true, Bool.true_and]
        exact Ev.some_ rfl
      · simp only [c1, ↓reduceIte, decide_false, Bool.false_and]
        exact Ev.now _
    · simp only [c, decide_false, Bool.false_eq_true, ↓reduceIte, Bool.false_and]
      exact Ev.now _
theorem spec_biAt_eq (n : Int) (l : List Int) (hl : ∀ x ∈ l, 0 ≤ x ∧ x ≤ 65535) (i : Nat) (hi : i / 16 < l.length) (hi2 : i ≤ 1000000) : spec_biAt.f n l (i : Int) = some (bitV l i) := by
  unfold spec_biAt.f
  have e1 : Int.tdiv (i : Int) 16 = ((i / 16 : Nat) : Int) := by rw [tdiv_pos (by omega)]; rfl
  have e2 : Int.tmod (i : Int) 16 = ((i % 16 : Nat) : Int) := by rw [tmod_pos (by omega)]; rfl
  rw [e1, e2, w64 (n := ((i / 16 : Nat) : Int)) (by omega) (by omega), if_pos (by omega), if_pos (by omega), if_pos (by omega)]
  have hr := rd_range hl ((i / 16 : Nat) : Int)
  rw [and_one_bit hr.1 hr.2 (by omega) (by omega), Int.toNat_natCast]
  rfl
theorem impl_Bits_at_in38_0_eq (n : Int) (l : List Int) (hl : ∀ x ∈ l, 0 ≤ x ∧ x ≤ 65535) (i : Nat) (hi : i / 16 < l.length) (hi2 : i ≤ 1000000) : impl_Bits_at_in38_0.f n l (i : Int) = some (bitV l i) := by
  unfold impl_Bits_at_in38_0.f
  have e1 : Int.tdiv (i : Int) 16 = ((i / 16 : Nat) : Int) := by rw [tdiv_pos (by omega)]; rfl
  have e2 : Int.tmod (i : Int) 16 = ((i % 16 : Nat) : Int) := by rw [tmod_pos (by omega)]; rfl
  rw [e1, e2, w64 (n := ((i / 16 : Nat) : Int)) (by omega) (by omega), if_pos (by omega), if_pos (by omega), if_pos (by omega)]
  have hr := rd_range hl ((i / 16 : Nat) : Int)
  rw [and_one_bit hr.1 hr.2 (by omega) (by omega), Int.toNat_natCast]
  rfl

def oddFrom (l x : List Int) (n i : Nat) (b : Bool) : Bool := (List.range' i (n - i)).foldl (fun b j => b != (bitV l j && bitV x j)) b
theorem oddFrom_end (l x : List Int) (n : Nat) (b : Bool) : oddFrom l x n n b = b := by simp [oddFrom]
theorem oddFrom_step (l x : List Int) (n i : Nat) (b : Bool) (h : i < n) : oddFrom l x n i b = oddFrom l x n (i + 1) (b != (bitV l i && bitV x i)) := by
  unfold oddFrom
  rw [show n - i = (n - (i + 1)) + 1 from by omega, List.range'_succ, List.foldl_cons]
theorem spec_reOdd_ev (n : Int) (l : List Int) (x : List Int) (hl : goodBits n l = true) (hx : goodBits n x = true) : Ev (fun k => spec_reOdd.f k n l n x) (oddFrom l x n.toNat 0 false) := by
  have gl := goodBits_size hl
  have gx := goodBits_size hx
  suffices H : ∀ (d i : Nat) (b : Bool), i + d = n.toNat → Ev (fun k => spec_reOdd.l0 k b (i : Int) n l n x) (oddFrom l x n.toNat i b) from H n.toNat 0 false (by omega)
  intro d
  induction d with
  | zero =>
    intro i b hi
    refine Ev.succ ?_
    obtain rfl : i = n.toNat := by omega
    have h1 : ¬ (((n.toNat : Nat) : Int) < n) := by omega
    simp only [spec_reOdd.l0, h1, ↓reduceIte, oddFrom_end]
    exact Ev.now _
  | succ d ih =>
    intro i b hi
    refine Ev.succ ?_
    have h1 : (i : Int) < n := by omega
    have hw : wrap64 ((i : Int) + 1) = ((i + 1 : Nat) : Int) := by rw [w64 (by omega) (by omega)]; rfl
    rw [oddFrom_step l x n.toNat i b (by omega)]
    simp only [spec_reOdd.l0, h1, ↓reduceIte, hw, spec_biAt_eq n l gl.2.2.2 i (by omega) (by omega), spec_biAt_eq n x gx.2.2.2 i (by omega) (by omega), Option.bind_some]
    cases bitV l i with
    | true =>
      simp only [↓reduceIte, Bool.true_and]
      exact ih (i + 1) _ (by omega)
    | false =>
      simp only [Bool.false_eq_true, ↓reduceIte, Bool.false_and]
      exact ih (i + 1) _ (by omega)
theorem impl_meets_ev (n : Int) (l : List Int) (x : List Int) (hl : goodBits n l = true) (hx : goodBits n x = true) : Ev (fun k => impl_meets.f k n l n x) (oddFrom l x n.toNat 0 false) := by
  have gl := goodBits_size hl
  have gx := goodBits_size hx
  suffices H : ∀ (d i : Nat) (b : Bool), i + d = n.toNat → Ev (fun k => impl_meets.l0 k b n (i : Int) n l n x) (oddFrom l x n.toNat i b) from H n.toNat 0 false (by omega)
  intro d
  induction d with
  | zero =>
    intro i b hi
    refine Ev.succ ?_
    obtain rfl : i = n.toNat := by omega
    have h1 : ¬ (((n.toNat : Nat) : Int) < n) := by omega
    simp only [impl_meets.l0, h1, ↓reduceIte, oddFrom_end]
    exact Ev.now _
  | succ d ih =>
    intro i b hi
    refine Ev.succ ?_
    have h1 : (i : Int) < n := by omega
    have hw : wrap64 ((i : Int) + 1) = ((i + 1 : Nat) : Int) := by rw [w64 (by omega) (by omega)]; rfl
    rw [oddFrom_step l x n.toNat i b (by omega)]
    simp only [impl_meets.l0, h1, ↓reduceIte, hw, impl_Bits_at_in38_0_eq n l gl.2.2.2 i (by omega) (by omega), impl_Bits_at_in38_0_eq n x gx.2.2.2 i (by omega) (by omega), Option.bind_some]
    cases bitV l i with
    | true =>
      simp only [↓reduceIte, Bool.true_and]
      exact ih (i + 1) _ (by omega)
    | false =>
      simp only [Bool.false_eq_true, ↓reduceIte, Bool.false_and]
      exact ih (i + 1) _ (by omega)
def solvesFrom (bs : List S38) (rs : List Bool) (x : List Int) (n : Nat) (i : Nat) : Bool := (List.range' i (bs.length - i)).all fun j => oddFrom (rd_T38 bs (j : Int)).f1 x n 0 false == rdOf false rs (j : Int)
theorem solvesFrom_end (bs : List S38) (rs : List Bool) (x : List Int) (n : Nat) : solvesFrom bs rs x n bs.length = true := by simp [solvesFrom]
theorem solvesFrom_step (bs : List S38) (rs : List Bool) (x : List Int) (n i : Nat) (h : i < bs.length) : solvesFrom bs rs x n i = ((oddFrom (rd_T38 bs (i : Int)).f1 x n 0 false == rdOf false rs (i : Int)) && solvesFrom bs rs x n (i + 1)) := by
  unfold solvesFrom
  rw [show bs.length - i = (bs.length - (i + 1)) + 1 from by omega, List.range'_succ, List.all_cons]
def solutionV (a : Int) (bs : List S38) (rs : List Bool) (n : Int) (x : List Int) : Bool × Bool := if goodSystem a bs rs = true then (if goodBits n x = true then (if n = a then (solvesFrom bs rs x n.toNat 0, true) else (false, true)) else (false, false)) else (false, false)
theorem goodSystem_of {a : Int} {bs : List S38} {rs : List Bool} (h : goodSystem a bs rs = true) : bs.length ≤ 40 ∧ rs.length = bs.length ∧ ∀ b ∈ bs, goodBits b.f0 b.f1 = true ∧ b.f0 = a := by
  unfold goodSystem rowOk at h
  simp only [Bool.and_eq_true, decide_eq_true_eq, List.all_eq_true] at h
  refine ⟨by omega, by omega, ?_⟩
  intro b hb
  exact h.2.2.2 b hb
theorem spec_sol_l0 (a : Int) (bs : List S38) (rs : List Bool) (x : List Int) (h : goodSystem a bs rs = true) (hx : goodBits a x = true) (d : Nat) : ∀ i : Nat, i + d = bs.length → Ev (fun k => spec_IsSolution.l0 k bs (bs.length : Int) (i : Int) a bs rs a x) (solvesFrom bs rs x a.toNat i, true) := by
  obtain ⟨g1, g2, g3⟩ := goodSystem_of h
  induction d with
  | zero =>
    intro i hi
    refine Ev.succ ?_
    obtain rfl : i = bs.length := by omega
    have h1 : ¬ ((bs.length : Int) < (bs.length : Int)) := by omega
    simp only [spec_IsSolution.l0, h1, ↓reduceIte, solvesFrom_end]
    exact Ev.now _
  | succ d ih =>
    intro i hi
    refine Ev.succ ?_
    have h0 : i < bs.length := by omega
    have h1 : (i : Int) < (bs.length : Int) := by omega
    have h2 : (0 : Int) ≤ (i : Int) := by omega
    have h3 : (i : Int) < (rs.length : Int) := by omega
    have hw : wrap64 ((i : Int) + 1) = ((i + 1 : Nat) : Int) := by rw [w64 (by omega) (by omega)]; rfl
    obtain ⟨hr1, hr2⟩ := g3 _ (List.getElem_mem h0)
    rw [hr2] at hr1
    rw [solvesFrom_step bs rs x _ i h0]
    simp only [spec_IsSolution.l0, h1, h2, h3, ↓reduceIte, hw, rd_T38_nat bs i h0]
    simp only [hr2]
    refine Ev.bind (spec_reOdd_ev a _ x hr1 hx) ?_
    cases oddFrom bs[i].f1 x a.toNat 0 false <;> cases rdOf false rs (i : Int)
    · simp only [bne_self_eq_false, Bool.false_eq_true, ↓reduceIte, beq_self_eq_true, Bool.true_and]; exact ih (i + 1) (by omega)
    · exact Ev.now _
    · exact Ev.now _
    · simp only [bne_self_eq_false, Bool.false_eq_true, ↓reduceIte, beq_self_eq_true, Bool.true_and]; exact ih (i + 1) (by omega)
theorem impl_sol_l0 (a : Int) (bs : List S38) (rs : List Bool) (x : List Int) (h : goodSystem a bs rs = true) (hx : goodBits a x = true) (d : Nat) : ∀ i : Nat, i + d = bs.length → Ev (fun k => impl_IsSolution.l0 k bs (bs.length : Int) (i : Int) a bs rs a x) (solvesFrom bs rs x a.toNat i, true) := by
  obtain ⟨g1, g2, g3⟩ := goodSystem_of h
  induction d with
  | zero =>
    intro i hi
    refine Ev.succ ?_
    obtain rfl : i = bs.length := by omega
    have h1 : ¬ ((bs.length : Int) < (bs.length : Int)) := by omega
    simp only [impl_IsSolution.l0, h1, ↓reduceIte, solvesFrom_end]
    exact Ev.now _
  | succ d ih =>
    intro i hi
    refine Ev.succ ?_
    have h0 : i < bs.length := by omega
    have h1 : (i : Int) < (bs.length : Int) := by omega
    have h2 : (0 : Int) ≤ (i : Int) := by omega
    have h3 : (i : Int) < (rs.length : Int) := by omega
    have hw : wrap64 ((i : Int) + 1) = ((i + 1 : Nat) : Int) := by rw [w64 (by omega) (by omega)]; rfl
    obtain ⟨hr1, hr2⟩ := g3 _ (List.getElem_mem h0)
    rw [hr2] at hr1
    rw [solvesFrom_step bs rs x _ i h0]
    simp only [impl_IsSolution.l0, h1, h2, h3, ↓reduceIte, hw, rd_T38_nat bs i h0]
    simp only [hr2]
    refine Ev.bind (impl_meets_ev a _ x hr1 hx) ?_
    cases oddFrom bs[i].f1 x a.toNat 0 false <;> cases rdOf false rs (i : Int)
    · simp only [bne_self_eq_false, Bool.false_eq_true, ↓reduceIte, beq_self_eq_true, Bool.true_and]; exact ih (i + 1) (by omega)
    · exact Ev.now _
    · exact Ev.now _
    · simp only [bne_self_eq_false, Bool.false_eq_true, ↓reduceIte, beq_self_eq_true, Bool.true_and]; exact ih (i + 1) (by omega)
theorem spec_IsSolution_ev (a : Int) (bs : List S38) (rs : List Bool) (n : Int) (x : List Int) (hl : bs.length ≤ 9223372036854775807) (hs : ∀ b ∈ bs, b.f1.length ≤ 9223372036854775807) (hx : x.length ≤ 9223372036854775807) : Ev (fun k => spec_IsSolution.f k a bs rs n x) (solutionV a bs rs n x) := by
  unfold spec_IsSolution.f solutionV
  refine Ev.bind (spec_reGood_ev a bs rs hl hs) ?_
  cases h : goodSystem a bs rs with
  | false => simp only [Bool.false_eq_true, ↓reduceIte]; refine Ev.succ ?_; simp only [spec_IsSolution.j0, ↓reduceIte]; exact Ev.now _
  | true =>
    simp only [↓reduceIte]
    refine Ev.bind (spec_biGood_ev n x hx) ?_
    refine Ev.succ ?_
    cases h2 : goodBits n x with
    | false => simp only [spec_IsSolution.j0, Bool.not_false, Bool.false_eq_true, ↓reduceIte]; exact Ev.now _
    | true =>
      simp only [spec_IsSolution.j0, Bool.not_true, Bool.false_eq_true, ↓reduceIte]
      by_cases c : n = a
      · subst c
        simp only [↓reduceIte]
        exact spec_sol_l0 n bs rs x h h2 bs.length 0 (by omega)
      · simp only [c, ↓reduceIte]
        exact Ev.now _
theorem impl_IsSolution_ev (a : Int) (bs : List S38) (rs : List Bool) (n : Int) (x : List Int) (hl : bs.length ≤ 9223372036854775807) (hs : ∀ b ∈ bs, b.f1.length ≤ 9223372036854775807) (hx : x.length ≤ 9223372036854775807) : Ev (fun k => impl_IsSolution.f k a bs rs n x) (solutionV a bs rs n x) := by
  unfold impl_IsSolution.f solutionV
  refine Ev.bind (impl_IsSystem_ev a bs rs hl hs) ?_
  cases h : goodSystem a bs rs with
  | false => simp only [Bool.false_eq_true, ↓reduceIte]; refine Ev.succ ?_; simp only [impl_IsSolution.j0, ↓reduceIte]; exact Ev.now _
  | true =>
    simp only [↓reduceIte]
    refine Ev.bind (impl_IsBits_ev n x hx) ?_
    refine Ev.succ ?_
    cases h2 : goodBits n x with
    | false => simp only [impl_IsSolution.j0, Bool.not_false, Bool.false_eq_true, ↓reduceIte]; exact Ev.now _
    | true =>
      simp only [impl_IsSolution.j0, Bool.not_true, Bool.false_eq_true, ↓reduceIte]
      by_cases c : n = a
      · subst c
        simp only [↓reduceIte]
        exact impl_sol_l0 n bs rs x h h2 bs.length 0 (by omega)
      · simp only [c, ↓reduceIte]
        exact Ev.now _
theorem toBits_ev (n : Int) (l : List Int) (hl : l.length ≤ 1048576) : Ev (fun k => laws_toBits.f k n l) (n, l) := by
  unfold laws_toBits.f
  exact Ev.bind (laws_toIntS_ev l (by omega)) (Ev.now _)
theorem eqBits_ev (n : Int) (l : List Int) (hl : l.length ≤ 9223372036854775807) : Ev (fun k => laws_eqBits.f k n l n l) true := by
  simp only [laws_eqBits.f, ↓reduceIte]
  exact Ev.bind (laws_eqIntS_self l hl) (by simp only [↓reduceIte]; exact Ev.now _)
theorem FnExactIsSolution : ∀ (a0_0 : Int) (l0_1 : List (S34)) (l0_2 : List Bool) (a1_0 : Int) (l1_1 : List Int), ((Lit.int .i64 a0_0).wf = true) → (l0_1.length ≤ maxLen ∧ ∀ l0_1' ∈ l0_1, (((Lit.int .i64 l0_1'.f0).wf = true) ∧ (l0_1'.f1.length ≤ maxLen ∧ ∀ l0_1__f1' ∈ l0_1'.f1, (Lit.int .i64 l0_1__f1').wf = true))) → (l0_2.length ≤ maxLen ∧ ∀ l0_2' ∈ l0_2, True) → ((Lit.int .i64 a1_0).wf = true) → (l1_1.length ≤ maxLen ∧ ∀ l1_1' ∈ l1_1, (Lit.int .i64 l1_1').wf = true) → ∃ k, laws_FnExactIsSolution.f k a0_0 l0_1 l0_2 a1_0 l1_1 = some true := by
  intro a bs rs n x h0 hb hr hn hx
  refine Ev.rounds ?_
  have hb1 : bs.length ≤ 9223372036854775807 := by have := hb.1; unfold maxLen at this; exact this
  have hb2 : ∀ b ∈ bs, b.f1.length ≤ 9223372036854775807 := by intro b h; have := (hb.2 b h).2.1; unfold maxLen at this; exact this
  have hr1 : rs.length ≤ 9223372036854775807 := by have := hr.1; unfold maxLen at this; exact this
  have hx1 : x.length ≤ 9223372036854775807 := by have := hx.1; unfold maxLen at this; exact this
  unfold laws_FnExactIsSolution.f
  refine Ev.bind (laws_szSystem_ev a bs rs 1048576 (by decide) (by decide) hb1 hb2 hr1) ?_
  by_cases z : szSys bs rs 1048576 < 0
  · simp only [z, ↓reduceIte]; exact Ev.now _
  · obtain ⟨z1, z2, z3, z4⟩ := szSys_of (by decide) z
    have g1 : bs.length ≤ 1048576 := by omega
    have g2 : ∀ b ∈ bs, b.f1.length ≤ 1048576 := fun b h => by have := z3 b h; omega
    have g3 : rs.length ≤ 1048576 := by omega
    have k1 : (bs.map toB).length ≤ 9223372036854775807 := by simp; omega
    have k2 : ∀ b ∈ bs.map toB, b.f1.length ≤ 9223372036854775807 := by
      intro b h
      obtain ⟨x, hx, rfl⟩ := List.mem_map.1 h
      exact hb2 x hx
    simp only [z, ↓reduceIte, laws_szBits_eq n x _ (show 0 ≤ szSys bs rs 1048576 by omega) z4 hx1, Option.bind_some]
    by_cases e : (x.length : Int) ≤ szSys bs rs 1048576
    · simp only [e, ↓reduceIte, show ¬ (szSys bs rs 1048576 - (x.length : Int) < 0) from by omega]
      have g4 : x.length ≤ 1048576 := by omega
      refine Ev.bind (laws_toSystem_ev a bs rs g1 g2 g3) ?_
      refine Ev.bind (toBits_ev n x g4) ?_
      refine Ev.bind (spec_IsSolution_ev a _ rs n x k1 k2 hx1) ?_
      refine Ev.bind (laws_toSystem_ev a bs rs g1 g2 g3) ?_
      refine Ev.bind (toBits_ev n x g4) ?_
      refine Ev.bind (impl_IsSolution_ev a _ rs n x k1 k2 hx1) ?_
      simp only [bne_self_eq_false, Bool.false_eq_true, ↓reduceIte]
      refine Ev.succ ?_
      simp only [laws_FnExactIsSolution.j0, Bool.false_eq_true, ↓reduceIte]
      refine Ev.bind (laws_toSystem_ev a bs rs g1 g2 g3) ?_
      refine Ev.bind (laws_eqSystem_self a _ rs k1 k2 hr1) ?_
      simp only [↓reduceIte]
      refine Ev.bind (toBits_ev n x g4) ?_
      refine Ev.bind (eqBits_ev n x hx1) ?_
      simp only [↓reduceIte]
      exact Ev.now _
    · simp only [e, ↓reduceIte, show ((-1 : Int) < 0) from by decide]
      exact Ev.now _

end Go.Proofs.Ytgnpledbeohjgaa.Pure
