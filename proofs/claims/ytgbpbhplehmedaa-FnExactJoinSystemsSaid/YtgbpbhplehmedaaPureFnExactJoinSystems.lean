/- The program's JoinSystems returns what the reference's returns, for all arguments. -/
import Derived.Test.YtgbpbhplehmedaaPFnExactJoinSystemsx11
import Derived.Test.YtgbpbhplehmedaaTBase
namespace Go.Proofs.Ytgbpbhplehmedaa.Pure
open Go.RowKit Go.Proofs.Ytgbpbhplehmedaa.PFnExactJoinSystems Go.Proofs.YtgbpbhplehmedaaW.PrintWords Go.Proofs.YtgbpbhplehmedaaW.PrintLast Go.Proofs.Ytgbpbhplehmedaa.Base
set_option linter.unusedVariables false
set_option linter.unusedSimpArgs false

theorem Yq1 {p : Prop} (h : p := by omega) : p := h
theorem Yq2 {p : Prop} (h : p := by decide) : p := h
theorem Yq3 {p : Prop} (h : p := by simp) : p := h
theorem Yq4 {p : Prop} (h : p := by rw [List.length_append]; omega) : p := h
theorem Yq5 {p : Prop} (h : p := by rw [List.length_append, List.length_singleton]; omega) : p := h
theorem Fea (l : List Int) (a : Int) (h0 : 0 ≤ a) (h1 : a ≤ 1048576) (hl : l.length ≤ 9223372036854775807) : FL.f l a = some (if (l.length : Int) ≤ a then a - l.length else -1) := by
 unfold FL.f
 rw [w64 Yq1 Yq1]
 by_cases c : (l.length : Int) ≤ a
 ·
  rw [if_neg Yq1, if_pos c]
 ·
  rw [if_pos Yq1, if_neg c]
theorem Ffa (l : List Int) (hl : l.length ≤ 9223372036854775807) (d : Nat) : ∀ (i : Nat) (o : List Int), o.length = l.length → o.take i = l.take i → i + d = l.length → Ev (fun k => Fm.l0 k l o (i : Int)) l := by
 induction d with
 | zero =>
  intro i o ho ht hi
  refine Ev.succ ?_
  have h1 : ¬ ((i : Int) < (l.length : Int)) := by omega
  simp only [Fm.l0, h1, ↓reduceIte]
  rw [List.take_of_length_le Yq1, List.take_of_length_le Yq1] at ht
  exact Ev.some_ ht
 | succ d ih =>
  intro i o ho ht hi
  refine Ev.succ ?_
  have h1 : (i : Int) < (l.length : Int) := by omega
  have h2 : (0 : Int) ≤ (i : Int) := by omega
  have h3 : (i : Int) < (o.length : Int) := by omega
  have hw : wrap64 ((i : Int) + 1) = ((i + 1 : Nat) : Int) := by rw [w64 Yq1 Yq1]; rfl
  simp only [Fm.l0, h1, h2, h3, ↓reduceIte, hw, Int.toNat_natCast]
  exact ih (i + 1) _ (by simp [ho]) (by rw [take_set_succ _ _ _ Yq1, ht, rd_nat _ _ Yq1, List.take_succ_eq_append_getElem Yq1]) Yq1
theorem Fga (l : List Int) (hl : l.length ≤ 35184372088832) : Ev (fun k => Fm.f k l) l := by
 have h1 : 0 ≤ (l.length : Int) := by omega
 have h2 : ((l.length : Int)).toNat ≤ 35184372088832 := by omega
 simp only [Fm.f, h1, h2, ↓reduceIte]
 exact Ffa l Yq1 l.length 0 _ Yq3 Yq3 Yq1
theorem Fha (l : List Int) (hl : l.length ≤ 9223372036854775807) : Ev (fun k => Fq.f k l l) true := by
 unfold Fq.f
 simp only [↓reduceIte]
 refine Ev.up (L := fun k i => Fq.l0 k l l (i : Int)) (r := fun _ => true) l.length ?_ ?_ 0 (Nat.zero_le _)
 ·
  refine Ev.succ ?_
  have h1 : ¬ ((l.length : Int) < (l.length : Int)) := by omega
  simp only [Fq.l0, h1, ↓reduceIte]
  exact Ev.now _
 ·
  intro i hi ih
  refine Ev.succ ?_
  have h1 : (i : Int) < (l.length : Int) := by omega
  have h2 : (0 : Int) ≤ (i : Int) := by omega
  have hw : wrap64 ((i : Int) + 1) = ((i + 1 : Nat) : Int) := by rw [w64 Yq1 Yq1]; rfl
  simp only [Fq.l0, h1, h2, ↓reduceIte, hw]
  exact ih
theorem FT (a b c : Int) : Fw.f a b c = some (decide (b ≤ a ∧ a ≤ c)) := by
 unfold Fw.f
 by_cases h : b ≤ a <;> simp [h]
theorem Fia (l : List Int) (a b : Int) (hl : l.length ≤ 9223372036854775807) : Ev (fun k => Fi.f k l a b) (l.all (inB a b)) := by
 have h := Ev.up (L := fun k i => Fi.l0 k a b l (l.length : Int) (i : Int)) (r := fun i => (l.drop i).all (inB a b)) l.length ?_ ?_ 0 (Nat.zero_le _)
 ·
  exact h
 ·
  refine Ev.succ ?_
  have h1 : ¬ ((l.length : Int) < (l.length : Int)) := by omega
  simp only [Fi.l0, h1, ↓reduceIte]
  exact Ev.some_ Yq3
 ·
  intro i hi ih
  refine Ev.succ ?_
  have h1 : (i : Int) < (l.length : Int) := by omega
  have h2 : (0 : Int) ≤ (i : Int) := by omega
  have hw : wrap64 ((i : Int) + 1) = ((i + 1 : Nat) : Int) := by rw [w64 Yq1 Yq1]; rfl
  simp only [Fi.l0, h1, h2, ↓reduceIte, hw, FT, Option.bind_some]
  rw [drop_cons _ _ hi, List.all_cons, ← rd_nat _ _ hi]
  by_cases c : a ≤ rd l (i : Int) ∧ rd l (i : Int) ≤ b
  ·
   have c2 : inB a b (rd l (i : Int)) = true := by simp [inB, c]
   simp only [c, and_self, decide_true, ↓reduceIte, c2, Bool.true_and]
   exact ih
  ·
   have c2 : inB a b (rd l (i : Int)) = false := by simp [inB]; omega
   simp only [c, decide_false, Bool.false_eq_true, ↓reduceIte, c2, Bool.false_and]
   exact Ev.now _
theorem Fja (n : Int) (l : List Int) (hl : l.length ≤ 9223372036854775807) : Ev (fun k => FE.f k n l) (goodBits n l) := by
 unfold goodBits
 by_cases h0 : 0 ≤ n ∧ n ≤ 4096
 ·
  have e0 : inB 0 4096 n = true := by simp [inB, h0]
  have e1 : wrap64 (Int.tdiv (wrap64 (n + 15)) 16) = (n + 15) / 16 := by rw [w64 (n := n + 15) Yq1 Yq1, tdiv_pos Yq1, w64 Yq1 Yq1]
  simp only [FE.f, FT, h0, and_self, decide_true, Option.bind_some, ↓reduceIte, e0, e1, Bool.true_and]
  by_cases h1 : (l.length : Int) = (n + 15) / 16
  ·
   simp only [h1, ↓reduceIte, decide_true, Bool.true_and]
   refine Ev.bind (Fia l 0 65535 hl) ?_
   cases l.all (inB 0 65535) with
   | false =>
    simp only [Bool.false_eq_true, ↓reduceIte, Bool.false_and]
    exact Ev.now _
   | true =>
    simp only [↓reduceIte, Bool.true_and, lastOk, tmod_pos h0.1, h1]
    by_cases h2 : n % 16 = 0
    ·
     simp only [h2, ↓reduceIte, decide_true, Bool.true_or]
     exact Ev.now _
    ·
     have e2 : wrap64 ((n + 15) / 16 - 1) = (n + 15) / 16 - 1 := w64 Yq1 Yq1
     simp only [h2, ↓reduceIte, decide_false, Bool.false_or, e2, show 0 ≤ (n + 15) / 16 - 1 from Yq1, show (n + 15) / 16 - 1 < (n + 15) / 16 from Yq1, show 0 ≤ n % 16 from by omega]
     exact Ev.now _
  ·
   simp only [h1, ↓reduceIte, decide_false, Bool.false_and]
   exact Ev.now _
 ·
  have e0 : inB 0 4096 n = false := by simp [inB]; omega
  simp only [FE.f, FT, h0, decide_false, Option.bind_some, ↓reduceIte, e0, Bool.false_and, Bool.false_eq_true]
  exact Ev.now _
theorem FU (a b c : Int) : FA.f a b c = some (decide (b ≤ a ∧ a ≤ c)) := by
 unfold FA.f
 by_cases h : b ≤ a <;> simp [h]
theorem Fka (n : Int) (h0 : 0 ≤ n) (h1 : n ≤ 1000000) : FI.f n = some ((n + 15) / 16) := by
 unfold FI.f
 rw [w64 (n := n + 16) Yq1 Yq1, w64 (n := n + 16 - 1) Yq1 Yq1, tdiv_pos Yq1, w64 Yq1 Yq1, show n + 16 - 1 = n + 15 from by omega]
theorem Fla (n : Int) (l : List Int) (hn0 : 0 ≤ n) (hn1 : n ≤ 4096) (hl : (l.length : Int) = (n + 15) / 16) : Ev (fun k => Fe.l0 k l (l.length : Int) 0 n l) (l.all (inB 0 65535) && lastOk n l) := by
 have h := Ev.up (L := fun k i => Fe.l0 k l (l.length : Int) (i : Int) n l) (r := fun i => (l.drop i).all (inB 0 65535) && lastOk n l) l.length ?_ ?_ 0 (Nat.zero_le _)
 ·
  exact h
 ·
  refine Ev.succ ?_
  have h1 : ¬ ((l.length : Int) < (l.length : Int)) := by omega
  simp only [Fe.l0, h1, ↓reduceIte, List.drop_length, List.all_nil, Bool.true_and, lastOk, tmod_pos hn0]
  by_cases h2 : n % 16 = 0
  ·
   simp only [h2, ↓reduceIte, decide_true, Bool.true_or]
   exact Ev.now _
  ·
   have e2 : wrap64 ((l.length : Int) - 1) = (l.length : Int) - 1 := w64 Yq1 Yq1
   simp only [h2, ↓reduceIte, decide_false, Bool.false_or, e2, show 0 ≤ (l.length : Int) - 1 from Yq1, show (l.length : Int) - 1 < (l.length : Int) from Yq1, show 0 ≤ n % 16 from by omega]
   exact Ev.now _
 ·
  intro i hi ih
  refine Ev.succ ?_
  have h1 : (i : Int) < (l.length : Int) := by omega
  have h2 : (0 : Int) ≤ (i : Int) := by omega
  have hw : wrap64 ((i : Int) + 1) = ((i + 1 : Nat) : Int) := by rw [w64 Yq1 Yq1]; rfl
  simp only [Fe.l0, h1, h2, ↓reduceIte, hw, FU, Option.bind_some]
  rw [drop_cons _ _ hi, List.all_cons, ← rd_nat _ _ hi]
  by_cases c : 0 ≤ rd l (i : Int) ∧ rd l (i : Int) ≤ 65535
  ·
   have c2 : inB 0 65535 (rd l (i : Int)) = true := by simp [inB, c]
   simp only [c, and_self, decide_true, ↓reduceIte, c2, Bool.true_and]
   exact ih
  ·
   have c2 : inB 0 65535 (rd l (i : Int)) = false := by simp [inB]; omega
   simp only [c, decide_false, Bool.false_eq_true, ↓reduceIte, c2, Bool.false_and]
   exact Ev.now _
theorem Fma (n : Int) (l : List Int) (hl : l.length ≤ 9223372036854775807) : Ev (fun k => Fe.f k n l) (goodBits n l) := by
 unfold goodBits
 by_cases h0 : 0 ≤ n ∧ n ≤ 4096
 ·
  have e0 : inB 0 4096 n = true := by simp [inB, h0]
  simp only [Fe.f, FU, h0, and_self, decide_true, Option.bind_some, ↓reduceIte, e0, Bool.true_and, Fka n h0.1 Yq1]
  refine Ev.succ ?_
  by_cases h1 : (l.length : Int) = (n + 15) / 16
  ·
   simp only [Fe.j0, h1, bne_self_eq_false, Bool.false_eq_true, ↓reduceIte, decide_true, Bool.true_and]
   rw [← h1]
   exact Fla n l h0.1 h0.2 h1
  ·
   have e2 : ((l.length : Int) != (n + 15) / 16) = true := by simp [h1]
   simp only [Fe.j0, e2, ↓reduceIte, h1, decide_false, Bool.false_and]
   exact Ev.now _
 ·
  have e0 : inB 0 4096 n = false := by simp [inB]; omega
  simp only [Fe.f, FU, h0, decide_false, Option.bind_some, ↓reduceIte, e0, Bool.false_and, Bool.false_eq_true]
  refine Ev.succ ?_
  simp only [Fe.j0, ↓reduceIte]
  exact Ev.now _
theorem Fna (l : List Bool) (hl : l.length ≤ 9223372036854775807) (d : Nat) : ∀ (i : Nat) (o : List Bool), o.length = l.length → o.take i = l.take i → i + d = l.length → Ev (fun k => Fl.l0 k l o (i : Int)) l := by
 induction d with
 | zero =>
  intro i o ho ht hi
  refine Ev.succ ?_
  have h1 : ¬ ((i : Int) < (l.length : Int)) := by omega
  simp only [Fl.l0, h1, ↓reduceIte]
  rw [List.take_of_length_le Yq1, List.take_of_length_le Yq1] at ht
  exact Ev.some_ ht
 | succ d ih =>
  intro i o ho ht hi
  refine Ev.succ ?_
  have h1 : (i : Int) < (l.length : Int) := by omega
  have h2 : (0 : Int) ≤ (i : Int) := by omega
  have h3 : (i : Int) < (o.length : Int) := by omega
  have hw : wrap64 ((i : Int) + 1) = ((i + 1 : Nat) : Int) := by rw [w64 Yq1 Yq1]; rfl
  simp only [Fl.l0, h1, h2, h3, ↓reduceIte, hw, Int.toNat_natCast]
  exact ih (i + 1) _ (by simp [ho]) (by rw [take_set_succ _ _ _ Yq1, ht, rdOf_nat _ _ _ Yq1, List.take_succ_eq_append_getElem Yq1]) Yq1
theorem Foa (l : List Bool) (hl : l.length ≤ 17592186044416) : Ev (fun k => Fl.f k l) l := by
 have h1 : 0 ≤ (l.length : Int) := by omega
 have h2 : ((l.length : Int)).toNat ≤ 281474976710656 := by omega
 simp only [Fl.f, h1, h2, ↓reduceIte]
 exact Fna l Yq1 l.length 0 _ Yq3 Yq3 Yq1
theorem Fpa (l : List Bool) (hl : l.length ≤ 9223372036854775807) : Ev (fun k => Fp.f k l l) true := by
 unfold Fp.f
 simp only [↓reduceIte]
 refine Ev.up (L := fun k i => Fp.l0 k l l (i : Int)) (r := fun _ => true) l.length ?_ ?_ 0 (Nat.zero_le _)
 ·
  refine Ev.succ ?_
  have h1 : ¬ ((l.length : Int) < (l.length : Int)) := by omega
  simp only [Fp.l0, h1, ↓reduceIte]
  exact Ev.now _
 ·
  intro i hi ih
  refine Ev.succ ?_
  have h1 : (i : Int) < (l.length : Int) := by omega
  have h2 : (0 : Int) ≤ (i : Int) := by omega
  have hw : wrap64 ((i : Int) + 1) = ((i + 1 : Nat) : Int) := by rw [w64 Yq1 Yq1]; rfl
  simp only [Fp.l0, h1, h2, ↓reduceIte, hw, bne_self_eq_false, Bool.false_eq_true]
  exact ih
theorem Fqa (n : Int) (l : List Int) (m : Int) (h0 : 0 ≤ m) (h1 : m ≤ 1048576) (hl : l.length ≤ 9223372036854775807) : FO.f n l m = some (if (l.length : Int) ≤ m then m - l.length else -1) := by
 unfold FO.f
 rw [Fea l m h0 h1 hl, Option.bind_some]
 by_cases c : (l.length : Int) ≤ m
 ·
  simp only [c, ↓reduceIte, show ¬ (m - (l.length : Int) < 0) from by omega]
 ·
  simp only [c, ↓reduceIte, show ((-1 : Int) < 0) from by decide]
def szB : List S66 → Int → Int
 | [], m => m
 | b :: r, m => if (b.f1.length : Int) ≤ m then szB r (m - (b.f1.length : Int)) else -1
theorem szB_le (l : List S66) : ∀ m : Int, 0 ≤ m → szB l m ≤ m := by
 induction l with
 | nil => intro m h; exact Int.le_refl m
 | cons b r ih =>
  intro m h
  unfold szB
  by_cases c : (b.f1.length : Int) ≤ m
  ·
   rw [if_pos c]
   have := ih (m - (b.f1.length : Int)) Yq1
   omega
  ·
   rw [if_neg c]; omega
theorem szB_sizes (l : List S66) : ∀ m : Int, 0 ≤ szB l m → ∀ b ∈ l, (b.f1.length : Int) ≤ m := by
 induction l with
 | nil => intro m h s hs; cases hs
 | cons x r ih =>
  intro m h s hs
  unfold szB at h
  by_cases c : (x.f1.length : Int) ≤ m
  ·
   rw [if_pos c] at h
   rcases List.mem_cons.1 hs with rfl | hs
   ·
    omega
   ·
    have := ih _ h s hs
    omega
  ·
   rw [if_neg c] at h; omega
theorem rd_T66_nat (l : List S66) (i : Nat) (h : i < l.length) : rd_T66 l (i : Int) = l[i] := by
 unfold rd_T66
 rw [Int.toNat_natCast, List.getD_eq_getElem?_getD, List.getElem?_eq_getElem h]
 rfl
theorem rd_T53_nat (l : List S53) (i : Nat) (h : i < l.length) : rd_T53 l (i : Int) = l[i] := by
 unfold rd_T53
 rw [Int.toNat_natCast, List.getD_eq_getElem?_getD, List.getElem?_eq_getElem h]
 rfl
theorem Fra (l : List S66) (hl : l.length ≤ 9223372036854775807) (hs : ∀ b ∈ l, b.f1.length ≤ 9223372036854775807) (d : Nat) : ∀ (i : Nat) (m : Int), i + d = l.length → 0 ≤ m → m ≤ 1048576 → Ev (fun k => Fk.l0 k l m (i : Int)) (szB (l.drop i) m) := by
 induction d with
 | zero =>
  intro i m hi m0 m1
  refine Ev.succ ?_
  have h1 : ¬ ((i : Int) < (l.length : Int)) := by omega
  simp only [Fk.l0, h1, ↓reduceIte]
  exact Ev.some_ (by rw [List.drop_eq_nil_of_le Yq1]; rfl)
 | succ d ih =>
  intro i m hi m0 m1
  refine Ev.succ ?_
  have h0 : i < l.length := by omega
  have h1 : (i : Int) < (l.length : Int) := by omega
  have h2 : (0 : Int) ≤ (i : Int) := by omega
  have hw : wrap64 ((i : Int) + 1) = ((i + 1 : Nat) : Int) := by rw [w64 Yq1 Yq1]; rfl
  have hz := hs _ (List.getElem_mem h0)
  rw [drop_cons l i h0]
  simp only [Fk.l0, h1, h2, ↓reduceIte, hw, rd_T66_nat l i h0, Fqa _ _ m m0 m1 hz, Option.bind_some, szB]
  by_cases c : ((l[i]).f1.length : Int) ≤ m
  ·
   simp only [c, ↓reduceIte, show ¬ (m - ((l[i]).f1.length : Int) < 0) from by omega]
   exact ih (i + 1) _ Yq1 Yq1 Yq1
  ·
   simp only [c, ↓reduceIte, show ((-1 : Int) < 0) from by decide]; exact Ev.now _
def szSys (bs : List S66) (rs : List Bool) (m : Int) : Int := if m - (bs.length : Int) < 0 then -1 else if szB bs (m - (bs.length : Int)) < 0 then -1 else if szB bs (m - (bs.length : Int)) - (rs.length : Int) < 0 then -1 else szB bs (m - (bs.length : Int)) - (rs.length : Int)
theorem szSys_of {bs : List S66} {rs : List Bool} {m : Int} (m0 : 0 ≤ m) (h : ¬ szSys bs rs m < 0) : (bs.length : Int) ≤ m ∧ (rs.length : Int) ≤ m ∧ (∀ b ∈ bs, (b.f1.length : Int) ≤ m) ∧ szSys bs rs m ≤ m := by
 have e : szSys bs rs m = if m - (bs.length : Int) < 0 then -1 else if szB bs (m - (bs.length : Int)) < 0 then -1 else if szB bs (m - (bs.length : Int)) - (rs.length : Int) < 0 then -1 else szB bs (m - (bs.length : Int)) - (rs.length : Int) := rfl
 by_cases c : m - (bs.length : Int) < 0
 ·
  rw [if_pos c] at e; omega
 ·
  have hle := szB_le bs (m - (bs.length : Int)) Yq1
  rw [if_neg c] at e
  by_cases c' : szB bs (m - (bs.length : Int)) < 0
  ·
   rw [if_pos c'] at e; omega
  ·
   have hz := szB_sizes bs (m - (bs.length : Int)) Yq1
   rw [if_neg c'] at e
   by_cases c2 : szB bs (m - (bs.length : Int)) - (rs.length : Int) < 0
   ·
    rw [if_pos c2] at e; omega
   ·
    rw [if_neg c2] at e
    refine ⟨Yq1, Yq1, fun b hb => ?_, Yq1⟩
    have := hz b hb
    omega
theorem FX (a : Int) (bs : List S66) (rs : List Bool) (m : Int) (m0 : 0 ≤ m) (m1 : m ≤ 1048576) (hb : bs.length ≤ 9223372036854775807) (hs : ∀ b ∈ bs, b.f1.length ≤ 9223372036854775807) (hr : rs.length ≤ 9223372036854775807) : Ev (fun k => Fz.f k a bs rs m) (szSys bs rs m) := by
 have hB : Ev (fun k => Fk.f k bs m) (if m - (bs.length : Int) < 0 then -1 else szB bs (m - (bs.length : Int))) := by
  unfold Fk.f
  rw [w64 (n := m - (bs.length : Int)) Yq1 Yq1]
  by_cases c : m - (bs.length : Int) < 0
  ·
   simp only [c, ↓reduceIte]; exact Ev.now _
  ·
   simp only [c, ↓reduceIte]
   exact Fra bs hb hs bs.length 0 _ Yq1 Yq1 Yq1
 unfold Fz.f szSys
 refine Ev.bind hB ?_
 by_cases c : m - (bs.length : Int) < 0
 ·
  simp only [c, ↓reduceIte, show ((-1 : Int) < 0) from by decide]; exact Ev.now _
 ·
  simp only [c, ↓reduceIte]
  by_cases c' : szB bs (m - (bs.length : Int)) < 0
  ·
   simp only [c', ↓reduceIte]; exact Ev.now _
  ·
   have hle := szB_le bs (m - (bs.length : Int)) Yq1
   simp only [c', ↓reduceIte, FP.f, w64 (n := szB bs (m - (bs.length : Int)) - (rs.length : Int)) Yq1 Yq1]
   by_cases c2 : szB bs (m - (bs.length : Int)) - (rs.length : Int) < 0
   ·
    simp only [c2, ↓reduceIte, Option.bind_some, show ((-1 : Int) < 0) from by decide]; exact Ev.now _
   ·
    simp only [c2, ↓reduceIte, Option.bind_some]; exact Ev.now _
def toB (x : S66) : S53 := ⟨x.f0, x.f1⟩
theorem Fsa (l : List S66) (hl : l.length ≤ 1048576) (hs : ∀ b ∈ l, b.f1.length ≤ 1048576) (d : Nat) : ∀ (i : Nat) (o : List S53), o.length = l.length → o.take i = (l.map toB).take i → i + d = l.length → Ev (fun k => Fo.l0 k l o (i : Int)) (l.map toB) := by
 induction d with
 | zero =>
  intro i o ho ht hi
  refine Ev.succ ?_
  have h1 : ¬ ((i : Int) < (l.length : Int)) := by omega
  simp only [Fo.l0, h1, ↓reduceIte]
  rw [List.take_of_length_le Yq1, List.take_of_length_le (by simp; omega)] at ht
  exact Ev.some_ ht
 | succ d ih =>
  intro i o ho ht hi
  refine Ev.succ ?_
  have h0 : i < l.length := by omega
  have h1 : (i : Int) < (l.length : Int) := by omega
  have h2 : (0 : Int) ≤ (i : Int) := by omega
  have h3 : (i : Int) < (o.length : Int) := by omega
  have hw : wrap64 ((i : Int) + 1) = ((i + 1 : Nat) : Int) := by rw [w64 Yq1 Yq1]; rfl
  have hz := hs _ (List.getElem_mem h0)
  simp only [Fo.l0, h1, h2, ↓reduceIte, rd_T66_nat l i h0, FH.f]
  refine Ev.bind (Ev.bind (Fga _ Yq1) (Ev.now _)) ?_
  simp only [h3, ↓reduceIte, hw, Int.toNat_natCast]
  refine ih (i + 1) _ (by simp [ho]) ?_ Yq1
  rw [take_set_succ _ _ _ Yq1, ht, List.take_succ_eq_append_getElem (by simp; omega)]
  simp [toB]
theorem FY (a : Int) (bs : List S66) (rs : List Bool) (hb : bs.length ≤ 1048576) (hs : ∀ b ∈ bs, b.f1.length ≤ 1048576) (hr : rs.length ≤ 1048576) : Ev (fun k => Ff.f k a bs rs) (a, bs.map toB, rs) := by
 have hB : Ev (fun k => Fo.f k bs) (bs.map toB) := by
  have h1 : 0 ≤ (bs.length : Int) := by omega
  have h2 : ((bs.length : Int)).toNat ≤ 8796093022208 := by omega
  simp only [Fo.f, h1, h2, ↓reduceIte]
  exact Fsa bs hb hs bs.length 0 _ Yq3 Yq3 Yq1
 unfold Ff.f
 exact Ev.bind hB (Ev.bind (Foa rs Yq1) (Ev.now _))
theorem Fta (l : List S53) (hl : l.length ≤ 9223372036854775807) (hs : ∀ b ∈ l, b.f1.length ≤ 9223372036854775807) : Ev (fun k => Fg.f k l l) true := by
 unfold Fg.f
 simp only [↓reduceIte]
 refine Ev.up (L := fun k i => Fg.l0 k l l (i : Int)) (r := fun _ => true) l.length ?_ ?_ 0 (Nat.zero_le _)
 ·
  refine Ev.succ ?_
  have h1 : ¬ ((l.length : Int) < (l.length : Int)) := by omega
  simp only [Fg.l0, h1, ↓reduceIte]
  exact Ev.now _
 ·
  intro i hi ih
  refine Ev.succ ?_
  have h1 : (i : Int) < (l.length : Int) := by omega
  have h2 : (0 : Int) ≤ (i : Int) := by omega
  have hw : wrap64 ((i : Int) + 1) = ((i + 1 : Nat) : Int) := by rw [w64 Yq1 Yq1]; rfl
  have hz := hs _ (List.getElem_mem hi)
  simp only [Fg.l0, h1, h2, ↓reduceIte, hw, rd_T53_nat l i hi, FG.f]
  refine Ev.bind (a := true) (Ev.bind (Fha _ hz) (by simp only [↓reduceIte]; exact Ev.now _)) ?_
  simp only [↓reduceIte]
  exact ih
theorem FV (a : Int) (bs : List S53) (rs : List Bool) (hl : bs.length ≤ 9223372036854775807) (hs : ∀ b ∈ bs, b.f1.length ≤ 9223372036854775807) (hr : rs.length ≤ 9223372036854775807) : Ev (fun k => Fj.f k a bs rs a bs rs) true := by
 unfold Fj.f
 simp only [↓reduceIte]
 refine Ev.bind (Fta bs hl hs) ?_
 simp only [↓reduceIte]
 refine Ev.bind (Fpa rs hr) ?_
 simp only [↓reduceIte]
 exact Ev.now _
def rowOk (a : Int) (b : S53) : Bool := goodBits b.f0 b.f1 && decide (b.f0 = a)
def goodSystem (a : Int) (bs : List S53) (rs : List Bool) : Bool := inB 1 72 a && (decide ((bs.length : Int) ≤ 40) && (decide ((rs.length : Int) = (bs.length : Int)) && bs.all (rowOk a)))
theorem any_not_rows (a : Int) (bs : List S53) : bs.any (fun b => !rowOk a b) = !bs.all (rowOk a) := by
 induction bs with
 | nil => rfl
 | cons x r ih => rw [List.any_cons, List.all_cons, ih, Bool.not_and]
theorem FZ (a : Int) (bs : List S53) (rs : List Bool) (hl : bs.length ≤ 9223372036854775807) (hs : ∀ b ∈ bs, b.f1.length ≤ 9223372036854775807) : Ev (fun k => Fd.f k a bs rs) (goodSystem a bs rs) := by
 have L : Ev (fun k => Fd.l0 k bs (bs.length : Int) ((0 : Nat) : Int) a bs rs) (bs.all (rowOk a)) := by
  refine Ev.up (L := fun k i => Fd.l0 k bs (bs.length : Int) (i : Int) a bs rs) (r := fun i => (bs.drop i).all (rowOk a)) bs.length ?_ ?_ 0 (Nat.zero_le _)
  ·
   refine Ev.succ ?_
   have h1 : ¬ ((bs.length : Int) < (bs.length : Int)) := by omega
   simp only [Fd.l0, h1, ↓reduceIte]
   exact Ev.some_ Yq3
  ·
   intro i hi ih
   refine Ev.succ ?_
   have h1 : (i : Int) < (bs.length : Int) := by omega
   have h2 : (0 : Int) ≤ (i : Int) := by omega
   have hw : wrap64 ((i : Int) + 1) = ((i + 1 : Nat) : Int) := by rw [w64 Yq1 Yq1]; rfl
   have hz := hs _ (List.getElem_mem hi)
   simp only [Fd.l0, h1, h2, ↓reduceIte, hw, rd_T53_nat bs i hi]
   refine Ev.bind (Fja _ _ hz) ?_
   rw [drop_cons bs i hi, List.all_cons]
   unfold rowOk
   cases goodBits bs[i].f0 bs[i].f1 with
   | false => simp only [Bool.false_eq_true, ↓reduceIte, Bool.false_and]; exact Ev.now _
   | true =>
    by_cases c : bs[i].f0 = a
    ·
     simp only [c, ↓reduceIte, decide_true, Bool.true_and]; exact ih
    ·
     simp only [c, ↓reduceIte, decide_false, Bool.true_and, Bool.false_and]; exact Ev.now _
 unfold Fd.f goodSystem inB
 simp only [FT, Option.bind_some]
 by_cases c : 1 ≤ a ∧ a ≤ 72
 ·
  simp only [c, and_self, decide_true, ↓reduceIte, Bool.true_and]
  by_cases c1 : (bs.length : Int) ≤ 40
  ·
   have c1' : ¬ ((bs.length : Int) > 40) := by omega
   simp only [c1, c1', ↓reduceIte, decide_true, Bool.true_and]
   refine Ev.succ ?_
   by_cases c2 : (rs.length : Int) = (bs.length : Int)
   ·
    simp only [Fd.j0, c2, bne_self_eq_false, Bool.false_eq_true, ↓reduceIte, decide_true, Bool.true_and]
    exact L
   ·
    have c3 : ((rs.length : Int) != (bs.length : Int)) = true := by simpa using c2
    simp only [Fd.j0, c2, c3, ↓reduceIte, decide_false, Bool.false_and]
    exact Ev.now _
  ·
   have c1' : (bs.length : Int) > 40 := by omega
   simp only [c1, c1', ↓reduceIte, decide_false, Bool.false_and]
   refine Ev.succ ?_
   simp only [Fd.j0, ↓reduceIte]
   exact Ev.now _
 ·
  simp only [c, decide_false, Bool.false_eq_true, ↓reduceIte, Bool.false_and]
  refine Ev.succ ?_
  simp only [Fd.j0, ↓reduceIte]
  exact Ev.now _
theorem Fua (n : Int) (l : List Int) (a : Int) (bs : List S53) (rs : List Bool) (hl : l.length ≤ 9223372036854775807) : Ev (fun k => FF.f k n l a bs rs) (!rowOk a ⟨n, l⟩) := by
 unfold FF.f rowOk
 refine Ev.bind (Fma n l hl) ?_
 cases goodBits n l with
 | false => simp only [Bool.false_eq_true, ↓reduceIte, Bool.false_and, Bool.not_false]; exact Ev.now _
 | true =>
  simp only [↓reduceIte, Bool.true_and]
  by_cases c : n = a
  ·
   subst c
   exact Ev.some_ Yq3
  ·
   exact Ev.some_ (by simp [c])
theorem Faa (a : Int) (bs : List S53) (rs : List Bool) (hl : bs.length ≤ 9223372036854775807) (hs : ∀ b ∈ bs, b.f1.length ≤ 9223372036854775807) : Ev (fun k => FC.f k a bs rs) (goodSystem a bs rs) := by
 have L : Ev (fun k => Fx.f k bs a bs rs) (idxV (fun b => !rowOk a b) bs 0) := by
  refine Ev.up (L := fun k i => Fx.l0 k bs (bs.length : Int) (i : Int) a bs rs) (r := fun i => idxV (fun b => !rowOk a b) bs i) bs.length ?_ ?_ 0 (Nat.zero_le _)
  ·
   refine Ev.succ ?_
   have h1 : ¬ ((bs.length : Int) < (bs.length : Int)) := by omega
   simp only [Fx.l0, h1, ↓reduceIte]
   exact Ev.some_ (idxV_end _ _).symm
  ·
   intro i hi ih
   refine Ev.succ ?_
   have h1 : (i : Int) < (bs.length : Int) := by omega
   have h2 : (0 : Int) ≤ (i : Int) := by omega
   have hw : wrap64 ((i : Int) + 1) = ((i + 1 : Nat) : Int) := by rw [w64 Yq1 Yq1]; rfl
   have hz := hs _ (List.getElem_mem hi)
   simp only [Fx.l0, h1, h2, ↓reduceIte, hw, rd_T53_nat bs i hi]
   refine Ev.bind (Fua _ _ a bs rs hz) ?_
   cases hp : rowOk a bs[i] with
   | false =>
    have hp' : rowOk a ⟨bs[i].f0, bs[i].f1⟩ = false := hp
    simp only [hp', Bool.not_false, ↓reduceIte]
    exact Ev.some_ (idxV_hit hi (by simp [hp])).symm
   | true =>
    have hp' : rowOk a ⟨bs[i].f0, bs[i].f1⟩ = true := hp
    simp only [hp', Bool.not_true, Bool.false_eq_true, ↓reduceIte]
    rw [idxV_miss hi (by simp [hp])]
    exact ih
 have C : Ev (fun k => FD.f k bs a bs rs) (!bs.all (rowOk a)) := by
  unfold FD.f
  refine Ev.bind L ?_
  rw [idxV_ge, any_not_rows]
  exact Ev.now _
 unfold FC.f goodSystem inB
 refine Ev.bind C ?_
 simp only [FU, Option.bind_some]
 cases bs.all (rowOk a) with
 | false =>
  simp only [Bool.not_false, ↓reduceIte, Bool.and_false]
  exact Ev.now _
 | true =>
  simp only [Bool.not_true, Bool.false_eq_true, ↓reduceIte, Bool.and_true]
  by_cases c : 1 ≤ a ∧ a ≤ 72
  ·
   simp only [c, and_self, decide_true, ↓reduceIte, Bool.true_and]
   by_cases c1 : (bs.length : Int) ≤ 40
   ·
    simp only [c1, ↓reduceIte, decide_true, Bool.true_and]
    exact Ev.some_ rfl
   ·
    simp only [c1, ↓reduceIte, decide_false, Bool.false_and]
    exact Ev.now _
  ·
   simp only [c, decide_false, Bool.false_eq_true, ↓reduceIte, Bool.false_and]
   exact Ev.now _
theorem Fva (m : Int) (n : Nat) (h0 : 0 ≤ m) (hm : m + n ≤ 4611686018427387904) (d : Nat) : ∀ (i : Nat) (l : List Int), l.length = n → l.take i = marks m i → i + d = n → Ev (fun k => Fv.l0 k l (m + i) (i : Int)) (m + n, marks m n) := by
 induction d with
 | zero =>
  intro i l hl ht hi
  obtain rfl : i = n := by omega
  refine Ev.succ ?_
  have h1 : ¬ ((i : Int) < (l.length : Int)) := by omega
  simp only [Fv.l0, h1, ↓reduceIte]
  rw [List.take_of_length_le Yq1] at ht
  exact Ev.some_ (by rw [ht])
 | succ d ih =>
  intro i l hl ht hi
  refine Ev.succ ?_
  have h1 : (i : Int) < (l.length : Int) := by omega
  have h2 : (0 : Int) ≤ (i : Int) := by omega
  have hw : wrap64 ((i : Int) + 1) = ((i + 1 : Nat) : Int) := by rw [w64 Yq1 Yq1]; rfl
  have hw2 : wrap64 (m + (i : Int) + 1) = m + ((i + 1 : Nat) : Int) := by rw [w64 Yq1 Yq1]; omega
  simp only [Fv.l0, h1, h2, ↓reduceIte, hw, hw2, Int.toNat_natCast]
  exact ih (i + 1) (l.set i (m + i)) (by simp [hl]) (by rw [take_set_succ _ _ _ Yq1, ht, marks_succ]) Yq1
theorem Fwa (l : List Int) (m : Int) (h0 : 0 ≤ m) (hm : m + l.length ≤ 4611686018427387904) : Ev (fun k => Fv.f k l m) (m + l.length, marks m l.length) := by
 have h := Fva m l.length h0 hm l.length 0 l rfl (by simp [marks]) Yq1
 simpa [Fv.f] using h
theorem Fxa (m : Int) (n : Nat) (h0 : 0 ≤ m) (hm : m + n ≤ 4611686018427387904) : Ev (fun k => Ft.f k (marks m n) m) (m + n) := by
 have h := Ev.up (L := fun k i => Ft.l0 k (marks m n) (m + (i : Int)) (i : Int)) (r := fun _ => m + n) n ?_ ?_ 0 (Nat.zero_le _)
 ·
  simpa [Ft.f] using h
 ·
  refine Ev.succ ?_
  have h1 : ¬ ((n : Int) < ((marks m n).length : Int)) := by rw [marks_length]; omega
  simp only [Ft.l0, h1, ↓reduceIte]
  exact Ev.now _
 ·
  intro i hi ih
  refine Ev.succ ?_
  have h1 : (i : Int) < ((marks m n).length : Int) := by rw [marks_length]; omega
  have h2 : (0 : Int) ≤ (i : Int) := by omega
  have h3 : rd (marks m n) (i : Int) = m + i := by rw [rd_nat _ _ (by rw [marks_length]; exact hi)]; simp [marks]
  have hw : wrap64 ((i : Int) + 1) = ((i + 1 : Nat) : Int) := by rw [w64 Yq1 Yq1]; rfl
  have hw2 : wrap64 (m + (i : Int) + 1) = m + ((i + 1 : Nat) : Int) := by rw [w64 Yq1 Yq1]; omega
  simp only [Ft.l0, h1, h2, h3, ↓reduceIte, hw, hw2]
  exact ih
theorem mid_set {α : Type} (pre rs : List α) (r y : α) : (pre ++ r :: rs).set ((pre.length : Nat) : Int).toNat y = (pre ++ [y]) ++ rs := by
 rw [Int.toNat_natCast, List.set_append_right (h := Nat.le_refl _), Nat.sub_self, List.set_cons_zero, List.append_assoc]
 rfl
/-! ### marks of bools, of bits -/
def m3 (v : Int) : Bool := Int.tmod v 3 == 0
theorem Fya (l : List Bool) (m : Int) (h0 : 0 ≤ m) (hm : m + l.length ≤ 4611686018427387904) : Ev (fun k => Fu.f k l m) (m + l.length, marksOf m3 m l.length) := by
 unfold Fu.f
 suffices H : ∀ d i : Nat, ∀ o : List Bool, o.length = l.length → o.take i = marksOf m3 m i → i + d = l.length → Ev (fun k => Fu.l0 k o (m + (i : Int)) (i : Int)) (m + l.length, marksOf m3 m l.length) from by
  have := H l.length 0 l rfl (by simp [marksOf]) Yq1
  simpa using this
 intro d
 induction d with
 | zero =>
  intro i o ho ht hi
  obtain rfl : i = l.length := by omega
  refine Ev.succ ?_
  have h1 : ¬ ((l.length : Int) < (o.length : Int)) := by omega
  simp only [Fu.l0, h1, ↓reduceIte]
  rw [List.take_of_length_le Yq1] at ht
  exact Ev.some_ (by rw [ht])
 | succ d ih =>
  intro i o ho ht hi
  refine Ev.succ ?_
  have h1 : (i : Int) < (o.length : Int) := by omega
  have h2 : (0 : Int) ≤ (i : Int) := by omega
  have hw : wrap64 ((i : Int) + 1) = ((i + 1 : Nat) : Int) := by rw [w64 Yq1 Yq1]; rfl
  have hw2 : wrap64 (m + (i : Int) + 1) = m + ((i + 1 : Nat) : Int) := by rw [w64 Yq1 Yq1]; omega
  simp only [Fu.l0, h1, h2, ↓reduceIte, hw, hw2, Int.toNat_natCast]
  exact ih (i + 1) (o.set i (m3 (m + i))) (by simp [ho]) (by rw [take_set_succ _ _ _ Yq1, ht, marksOf_succ]) Yq1
theorem Fza (m : Int) (n : Nat) (h0 : 0 ≤ m) (hm : m + n ≤ 4611686018427387904) : Ev (fun k => Fs.f k (marksOf m3 m n) m) (m + n) := by
 have h := Ev.up (L := fun k i => Fs.l0 k (marksOf m3 m n) (m + (i : Int)) (i : Int)) (r := fun _ => m + n) n ?_ ?_ 0 (Nat.zero_le _)
 ·
  simpa [Fs.f] using h
 ·
  refine Ev.succ ?_
  have h1 : ¬ ((n : Int) < ((marksOf m3 m n).length : Int)) := by rw [marksOf_length]; omega
  simp only [Fs.l0, h1, ↓reduceIte]
  exact Ev.now _
 ·
  intro i hi ih
  refine Ev.succ ?_
  have h1 : (i : Int) < ((marksOf m3 m n).length : Int) := by rw [marksOf_length]; omega
  have h2 : (0 : Int) ≤ (i : Int) := by omega
  have h3 : rdOf false (marksOf m3 m n) (i : Int) = (Int.tmod (m + (i : Int)) 3 == 0) := by
   unfold rdOf marksOf
   rw [Int.toNat_natCast, List.getD_eq_getElem?_getD, List.getElem?_map, List.getElem?_range hi]
   rfl
  have hw : wrap64 ((i : Int) + 1) = ((i + 1 : Nat) : Int) := by rw [w64 Yq1 Yq1]; rfl
  have hw2 : wrap64 (m + (i : Int) + 1) = m + ((i + 1 : Nat) : Int) := by rw [w64 Yq1 Yq1]; omega
  simp only [Fs.l0, h1, h2, h3, ↓reduceIte, hw, hw2, bne_self_eq_false, Bool.false_eq_true]
  exact ih
def totB (bs : List S53) : Nat := (bs.map fun b => b.f1.length + 1).sum
theorem totB_cons (b : S53) (bs : List S53) : totB (b :: bs) = b.f1.length + 1 + totB bs := by simp [totB]
def marksB : Int → List S53 → List S53
 | _, [] => []
 | m, b :: bs => ⟨m, marks (m + 1) b.f1.length⟩ :: marksB (m + 1 + (b.f1.length : Int)) bs
theorem midB (pre rs : List S53) (r : S53) : (pre ++ r :: rs).getD ((pre.length : Nat) : Int).toNat z53 = r := by
 rw [Int.toNat_natCast, List.getD_eq_getElem?_getD, List.getElem?_append_right (Nat.le_refl _), Nat.sub_self]
 rfl
theorem FAa : ∀ (rest pre : List S53) (m : Int), 0 ≤ m → m + (totB rest : Int) ≤ 4611686018427387904 → pre.length + rest.length ≤ 2000000 → Ev (fun k => Fh.l0 k (pre ++ rest) m ((pre.length : Nat) : Int)) (m + (totB rest : Int), pre ++ marksB m rest) := by
 intro rest
 induction rest with
 | nil =>
  intro pre m h0 hm hl
  refine Ev.succ ?_
  have h1 : ¬ ((pre.length : Int) < ((pre ++ ([] : List S53)).length : Int)) := by rw [List.append_nil]; omega
  simp only [Fh.l0, h1, ↓reduceIte]
  exact Ev.some_ (by simp [totB, marksB])
 | cons r rs ih =>
  intro pre m h0 hm hl
  rw [totB_cons] at hm ⊢
  rw [List.length_cons] at hl
  refine Ev.succ ?_
  have h1 : (pre.length : Int) < ((pre ++ r :: rs).length : Int) := by rw [List.length_append, List.length_cons]; omega
  have h2 : (0 : Int) ≤ (pre.length : Int) := by omega
  have hr : Fh.row (pre ++ r :: rs) ((pre.length : Nat) : Int) = r := midB pre rs r
  have hw : wrap64 (m + 1) = m + 1 := w64 Yq1 Yq1
  simp only [Fh.l0, h1, h2, ↓reduceIte, hr, hw]
  refine Ev.bind (Fwa r.f1 (m + 1) Yq1 Yq1) ?_
  rw [mid_set, show wrap64 ((pre.length : Int) + 1) = (((pre ++ [(⟨m, marks (m + 1) r.f1.length⟩ : S53)]).length : Nat) : Int) from by rw [w64 Yq1 Yq1, List.length_append]; rfl]
  have h := ih (pre ++ [(⟨m, marks (m + 1) r.f1.length⟩ : S53)]) (m + 1 + (r.f1.length : Int)) Yq1 Yq1 Yq5
  rw [marksB, show m + ((r.f1.length + 1 + totB rs : Nat) : Int) = m + 1 + (r.f1.length : Int) + (totB rs : Int) from by omega]
  rw [List.append_assoc, List.singleton_append, List.append_assoc, List.singleton_append] at h
  rw [List.append_assoc, List.singleton_append]
  exact h
theorem FBa : ∀ (rest pre : List S53) (m : Int), 0 ≤ m → m + (totB rest : Int) ≤ 4611686018427387904 → pre.length + rest.length ≤ 2000000 → Ev (fun k => Fr.l0 k (pre ++ marksB m rest) m ((pre.length : Nat) : Int)) (m + (totB rest : Int)) := by
 intro rest
 induction rest with
 | nil =>
  intro pre m h0 hm hl
  refine Ev.succ ?_
  have h1 : ¬ ((pre.length : Int) < ((pre ++ marksB m []).length : Int)) := by rw [marksB, List.append_nil]; omega
  simp only [Fr.l0, h1, ↓reduceIte]
  exact Ev.some_ (by simp [totB])
 | cons r rs ih =>
  intro pre m h0 hm hl
  rw [totB_cons] at hm ⊢
  rw [List.length_cons] at hl
  refine Ev.succ ?_
  rw [marksB]
  have h1 : (pre.length : Int) < ((pre ++ (⟨m, marks (m + 1) r.f1.length⟩ : S53) :: marksB (m + 1 + (r.f1.length : Int)) rs).length : Int) := by rw [List.length_append, List.length_cons]; omega
  have h2 : (0 : Int) ≤ (pre.length : Int) := by omega
  have hr : rd_T53 (pre ++ (⟨m, marks (m + 1) r.f1.length⟩ : S53) :: marksB (m + 1 + (r.f1.length : Int)) rs) ((pre.length : Nat) : Int) = ⟨m, marks (m + 1) r.f1.length⟩ := midB pre _ _
  have hw : wrap64 (m + 1) = m + 1 := w64 Yq1 Yq1
  simp only [Fr.l0, h1, h2, ↓reduceIte, hr, hw]
  refine Ev.bind (Fxa (m + 1) r.f1.length Yq1 Yq1) ?_
  simp only [show ¬ (m + 1 + (r.f1.length : Int) < 0) from Yq1, ↓reduceIte]
  rw [show wrap64 ((pre.length : Int) + 1) = (((pre ++ [(⟨m, marks (m + 1) r.f1.length⟩ : S53)]).length : Nat) : Int) from by rw [w64 Yq1 Yq1, List.length_append]; rfl]
  have h := ih (pre ++ [(⟨m, marks (m + 1) r.f1.length⟩ : S53)]) (m + 1 + (r.f1.length : Int)) Yq1 Yq1 Yq5
  rw [show m + ((r.f1.length + 1 + totB rs : Nat) : Int) = m + 1 + (r.f1.length : Int) + (totB rs : Int) from by omega]
  rw [List.append_assoc, List.singleton_append] at h
  exact h
theorem FW (a : Int) (bs : List S53) (rs : List Bool) (m : Int) (m0 : 0 ≤ m) (m1 : m ≤ 4000000) (h1 : totB bs ≤ 3000000) (h2 : bs.length ≤ 1048576) (h3 : rs.length ≤ 1048576) : Ev (fun k => Fy.f k a bs rs m) (m + (totB bs : Int) + rs.length, marksB m bs, marksOf m3 (m + (totB bs : Int)) rs.length) := by
 unfold Fy.f Fh.f
 refine Ev.bind (FAa bs [] m Yq1 Yq1 (by rw [List.length_nil]; omega)) ?_
 exact Ev.bind (Fya rs _ Yq1 Yq1) (Ev.now _)
theorem Fba (a : Int) (bs : List S53) (rs : List Bool) (h1 : totB bs ≤ 3000000) (h2 : bs.length ≤ 1048576) (h3 : rs.length ≤ 1048576) : Ev (fun k => FB.f k a (marksB 1 bs) (marksOf m3 (1 + (totB bs : Int)) rs.length) 1) (1 + (totB bs : Int) + rs.length) := by
 unfold FB.f Fr.f
 refine Ev.bind (FBa bs [] 1 Yq1 Yq1 (by rw [List.length_nil]; omega)) ?_
 simp only [show ¬ (1 + (totB bs : Int) < 0) from Yq1, ↓reduceIte]
 refine Ev.bind (Fza _ rs.length Yq1 Yq1) ?_
 simp only [show ¬ (1 + (totB bs : Int) + (rs.length : Int) < 0) from Yq1, ↓reduceIte]
 exact Ev.now _

theorem totB_app (a b : List S53) : totB (a ++ b) = totB a + totB b := by simp [totB]
theorem szB_tot (l : List S66) : ∀ m : Int, 0 ≤ szB l m → szB l m + (totB (l.map toB) : Int) = m + (l.length : Int) := by
 induction l with
 | nil => intro m h; simp [szB, totB]
 | cons b r ih =>
  intro m h
  unfold szB at h ⊢
  by_cases c : (b.f1.length : Int) ≤ m
  ·
   rw [if_pos c] at h ⊢
   have := ih _ h
   rw [List.map_cons, totB_cons, List.length_cons]
   have e : (toB b).f1.length = b.f1.length := rfl
   rw [e]
   omega
  ·
   rw [if_neg c] at h; omega
theorem szSys_tot {bs : List S66} {rs : List Bool} {m : Int} (m0 : 0 ≤ m) (h : ¬ szSys bs rs m < 0) : (totB (bs.map toB) : Int) + (rs.length : Int) ≤ m := by
 have e : szSys bs rs m = if m - (bs.length : Int) < 0 then -1 else if szB bs (m - (bs.length : Int)) < 0 then -1 else if szB bs (m - (bs.length : Int)) - (rs.length : Int) < 0 then -1 else szB bs (m - (bs.length : Int)) - (rs.length : Int) := rfl
 by_cases c : m - (bs.length : Int) < 0
 ·
  rw [if_pos c] at e; omega
 ·
  rw [if_neg c] at e
  by_cases c' : szB bs (m - (bs.length : Int)) < 0
  ·
   rw [if_pos c'] at e; omega
  ·
   have hz := szB_tot bs (m - (bs.length : Int)) Yq1
   rw [if_neg c'] at e
   by_cases c2 : szB bs (m - (bs.length : Int)) - (rs.length : Int) < 0
   ·
    rw [if_pos c2] at e; omega
   ·
    omega
def joinV (a : Int) (x : List S53) (p : List Bool) (b : Int) (y : List S53) (q : List Bool) : Int × List S53 × List Bool × Bool :=
 if goodSystem a x p = true ∧ goodSystem b y q = true ∧ a = b ∧ (x.length : Int) + (y.length : Int) ≤ 40 then (a, x ++ y, p ++ q, true) else (0, [], [], false)
theorem good_len {a : Int} {x : List S53} {p : List Bool} (h : goodSystem a x p = true) : x.length ≤ 40 ∧ p.length = x.length := by
 unfold goodSystem at h
 rw [Bool.and_eq_true, Bool.and_eq_true, Bool.and_eq_true, decide_eq_true_eq, decide_eq_true_eq] at h
 omega
theorem FCa (v : List S53) (hl : v.length ≤ 1000) (hs : ∀ b ∈ v, b.f1.length ≤ 1048576) (a : Int) (p : List Bool) : Ev (fun k => Fa.l0 k v (v.length : Int) 0 a [] p) (a, v, p, true) := by
 suffices H : ∀ d i : Nat, i + d = v.length → Ev (fun k => Fa.l0 k v (v.length : Int) (i : Int) a (v.take i) p) (a, v, p, true) from by
  have := H v.length 0 Yq1
  rwa [List.take_zero] at this
 intro d
 induction d with
 | zero =>
  intro i hi
  refine Ev.succ ?_
  have h1 : ¬ ((i : Int) < (v.length : Int)) := by omega
  simp only [Fa.l0, h1, ↓reduceIte]
  rw [List.take_of_length_le Yq1]
  exact Ev.now _
 | succ d ih =>
  intro i hi
  have h0 : i < v.length := by omega
  refine Ev.succ ?_
  have h1 : (i : Int) < (v.length : Int) := by omega
  have h2 : (0 : Int) ≤ (i : Int) := by omega
  have hw : wrap64 ((i : Int) + 1) = ((i + 1 : Nat) : Int) := by rw [w64 Yq1 Yq1]; rfl
  have hz := hs _ (List.getElem_mem h0)
  have hc : (v.take i).length < 4398046511104 := by rw [List.length_take]; omega
  have hn : ([] : List Int).length + v[i].f1.length < 17592186044416 := by simp only [List.length_nil]; omega
  simp only [Fa.l0, h1, h2, ↓reduceIte, rd_T53_nat v i h0, FR.f, FQ.f, Option.bind_some, hn, hc, hw, List.nil_append]
  have h3 := ih (i + 1) Yq1
  rw [List.take_succ_eq_append_getElem h0] at h3
  exact h3
theorem FDa (v : List S53) (hl : v.length ≤ 1000) (hs : ∀ b ∈ v, b.f1.length ≤ 1048576) (a : Int) (p : List Bool) : Ev (fun k => Fb.l0 k v (v.length : Int) 0 a [] p) (a, v, p, true) := by
 suffices H : ∀ d i : Nat, i + d = v.length → Ev (fun k => Fb.l0 k v (v.length : Int) (i : Int) a (v.take i) p) (a, v, p, true) from by
  have := H v.length 0 Yq1
  rwa [List.take_zero] at this
 intro d
 induction d with
 | zero =>
  intro i hi
  refine Ev.succ ?_
  have h1 : ¬ ((i : Int) < (v.length : Int)) := by omega
  simp only [Fb.l0, h1, ↓reduceIte]
  rw [List.take_of_length_le Yq1]
  exact Ev.now _
 | succ d ih =>
  intro i hi
  have h0 : i < v.length := by omega
  refine Ev.succ ?_
  have h1 : (i : Int) < (v.length : Int) := by omega
  have h2 : (0 : Int) ≤ (i : Int) := by omega
  have hw : wrap64 ((i : Int) + 1) = ((i + 1 : Nat) : Int) := by rw [w64 Yq1 Yq1]; rfl
  have hz := hs _ (List.getElem_mem h0)
  have hc : (v.take i).length < 4398046511104 := by rw [List.length_take]; omega
  have hn : v[i].f1.length < 17592186044416 := by omega
  simp only [Fb.l0, h1, h2, ↓reduceIte, rd_T53_nat v i h0, FS.f, FN.f, Option.bind_some, hn, hc, hw]
  have h3 := ih (i + 1) Yq1
  rw [List.take_succ_eq_append_getElem h0] at h3
  exact h3
theorem FEa (a : Int) (x : List S53) (p : List Bool) (b : Int) (y : List S53) (q : List Bool) (hx : x.length ≤ 1048576) (hxs : ∀ r ∈ x, r.f1.length ≤ 1048576) (hy : y.length ≤ 1048576) (hys : ∀ r ∈ y, r.f1.length ≤ 1048576) : Ev (fun k => Fa.f k a x p b y q) (joinV a x p b y q) := by
 have B : ∀ u, ¬ (goodSystem a x p = true ∧ goodSystem b y q = true ∧ a = b ∧ (x.length : Int) + (y.length : Int) ≤ 40) → u = true → Ev (fun k => Fa.j0 k u a x p b y q) (joinV a x p b y q) := by
  intro u hn hu
  refine Ev.succ ?_
  simp only [Fa.j0, hu, ↓reduceIte, joinV, hn]
  exact Ev.now _
 unfold Fa.f
 refine Ev.bind (FZ a x p Yq1 (fun r h => by have := hxs r h; omega)) ?_
 cases g1 : goodSystem a x p with
 | false => simp only [Bool.false_eq_true, ↓reduceIte]; exact B _ (by simp [g1]) rfl
 | true =>
  simp only [↓reduceIte]
  refine Ev.bind (FZ b y q Yq1 (fun r h => by have := hys r h; omega)) ?_
  cases g2 : goodSystem b y q with
  | false => simp only [Bool.false_eq_true, ↓reduceIte]; exact B _ (by simp [g2]) rfl
  | true =>
   simp only [↓reduceIte]
   obtain ⟨l1, l2⟩ := good_len g1
   obtain ⟨l3, l4⟩ := good_len g2
   have hw : wrap64 ((x.length : Int) + (y.length : Int)) = (x.length : Int) + (y.length : Int) := w64 Yq1 Yq1
   by_cases ha : a = b
   ·
    simp only [ha, ↓reduceIte, hw]
    subst ha
    by_cases c : (x.length : Int) + (y.length : Int) ≤ 40
    ·
     have c' : ¬ ((x.length : Int) + (y.length : Int) > 40) := by omega
     refine Ev.succ ?_
     have e : joinV a x p a y q = (a, x ++ y, p ++ q, true) := by simp only [joinV, g1, g2, c, and_self, ↓reduceIte]
     have k1 : ([] : List Bool).length + p.length < 140737488355328 := by simp only [List.length_nil]; omega
     have k2 : p.length + q.length < 140737488355328 := by omega
     have k3 : ([] : List S53).length + x.length < 4398046511104 := by simp only [List.length_nil]; omega
     have k4 : x.length + y.length < 4398046511104 := by omega
     simp only [Fa.j0, c', decide_false, Bool.false_eq_true, ↓reduceIte, Option.bind_some, k1, k2, k3, k4, List.nil_append, e]
     exact FCa (x ++ y) Yq4 (fun r h => (List.mem_append.1 h).elim (hxs r) (hys r)) a _
    ·
     exact B _ (fun h => c h.2.2.2) (by simp only [decide_eq_true_eq]; omega)
   ·
    simp only [ha, ↓reduceIte]
    exact B _ (fun h => ha h.2.2.1) rfl
theorem FFa (a : Int) (x : List S53) (p : List Bool) (b : Int) (y : List S53) (q : List Bool) (hx : x.length ≤ 1048576) (hxs : ∀ r ∈ x, r.f1.length ≤ 1048576) (hy : y.length ≤ 1048576) (hys : ∀ r ∈ y, r.f1.length ≤ 1048576) : Ev (fun k => Fb.f k a x p b y q) (joinV a x p b y q) := by
 have B : ∀ u, ¬ (goodSystem a x p = true ∧ goodSystem b y q = true ∧ a = b ∧ (x.length : Int) + (y.length : Int) ≤ 40) → u = true → Ev (fun k => Fb.j0 k u a x p b y q) (joinV a x p b y q) := by
  intro u hn hu
  refine Ev.succ ?_
  simp only [Fb.j0, hu, ↓reduceIte, joinV, hn]
  exact Ev.now _
 unfold Fb.f
 refine Ev.bind (Faa a x p Yq1 (fun r h => by have := hxs r h; omega)) ?_
 cases g1 : goodSystem a x p with
 | false => simp only [Bool.false_eq_true, ↓reduceIte]; exact B _ (by simp [g1]) rfl
 | true =>
  simp only [↓reduceIte]
  refine Ev.bind (Faa b y q Yq1 (fun r h => by have := hys r h; omega)) ?_
  cases g2 : goodSystem b y q with
  | false => simp only [Bool.false_eq_true, ↓reduceIte]; exact B _ (by simp [g2]) rfl
  | true =>
   simp only [↓reduceIte]
   obtain ⟨l1, l2⟩ := good_len g1
   obtain ⟨l3, l4⟩ := good_len g2
   have hw : wrap64 ((x.length : Int) + (y.length : Int)) = (x.length : Int) + (y.length : Int) := w64 Yq1 Yq1
   by_cases ha : a = b
   ·
    simp only [ha, ↓reduceIte, hw]
    subst ha
    by_cases c : (x.length : Int) + (y.length : Int) ≤ 40
    ·
     have c' : ¬ ((x.length : Int) + (y.length : Int) > 40) := by omega
     refine Ev.succ ?_
     have e : joinV a x p a y q = (a, x ++ y, p ++ q, true) := by simp only [joinV, g1, g2, c, and_self, ↓reduceIte]
     have f1 : [p, q].flatten = p ++ q := by simp
     have f2 : [x, y].flatten = x ++ y := by simp
     have k1 : (p ++ q).length < 1000000 ∧ [p, q].length < 1000000 := by rw [List.length_append]; simp only [List.length_cons, List.length_nil]; omega
     have k2 : (x ++ y).length < 1000000 ∧ [x, y].length < 1000000 := by rw [List.length_append]; simp only [List.length_cons, List.length_nil]; omega
     simp only [Fb.j0, c', decide_false, Bool.false_eq_true, ↓reduceIte, FJ.f, FM.f, f1, f2, k1, k2, and_self, Option.bind_some, e]
     exact FDa (x ++ y) Yq4 (fun r h => (List.mem_append.1 h).elim (hxs r) (hys r)) a _
    ·
     exact B _ (fun h => c h.2.2.2) (by simp only [decide_eq_true_eq]; omega)
   ·
    simp only [ha, ↓reduceIte]
    exact B _ (fun h => ha h.2.2.1) rfl
theorem joinV_small (a : Int) (x : List S53) (p : List Bool) (b : Int) (y : List S53) (q : List Bool) (hx : totB x ≤ 1048576) (hy : totB y ≤ 1048576) (hp : p.length ≤ 1048576) (hxs : ∀ r ∈ x, r.f1.length ≤ 1048576) (hys : ∀ r ∈ y, r.f1.length ≤ 1048576) : (joinV a x p b y q).2.1.length ≤ 40 ∧ (joinV a x p b y q).2.2.1.length ≤ 80 ∧ totB (joinV a x p b y q).2.1 ≤ 3000000 ∧ ∀ r ∈ (joinV a x p b y q).2.1, r.f1.length ≤ 1048576 := by
 unfold joinV
 by_cases h : goodSystem a x p = true ∧ goodSystem b y q = true ∧ a = b ∧ (x.length : Int) + (y.length : Int) ≤ 40
 ·
  rw [if_pos h]
  obtain ⟨l1, l2⟩ := good_len h.1
  obtain ⟨l3, l4⟩ := good_len h.2.1
  have h4 := h.2.2.2
  refine ⟨Yq4, Yq4, by rw [totB_app]; omega, fun r hr => (List.mem_append.1 hr).elim (hxs r) (hys r)⟩
 ·
  rw [if_neg h]; simp [totB]
theorem FnExactJoinSystems : ∀ (a0_0 : Int) (l0_1 : List (S66)) (l0_2 : List Bool) (a1_0 : Int) (l1_1 : List (S66)) (l1_2 : List Bool), ((Lit.int .i64 a0_0).wf = true) → (l0_1.length ≤ maxLen ∧ ∀ l0_1' ∈ l0_1, (((Lit.int .i64 l0_1'.f0).wf = true) ∧ (l0_1'.f1.length ≤ maxLen ∧ ∀ l0_1__f1' ∈ l0_1'.f1, (Lit.int .i64 l0_1__f1').wf = true))) → (l0_2.length ≤ maxLen ∧ ∀ l0_2' ∈ l0_2, True) → ((Lit.int .i64 a1_0).wf = true) → (l1_1.length ≤ maxLen ∧ ∀ l1_1' ∈ l1_1, (((Lit.int .i64 l1_1'.f0).wf = true) ∧ (l1_1'.f1.length ≤ maxLen ∧ ∀ l1_1__f1' ∈ l1_1'.f1, (Lit.int .i64 l1_1__f1').wf = true))) → (l1_2.length ≤ maxLen ∧ ∀ l1_2' ∈ l1_2, True) → ∃ k, Fc.f k a0_0 l0_1 l0_2 a1_0 l1_1 l1_2 = some true := by
 intro a bs rs a2 bs2 rs2 h0 hb hr g0 gb gr
 refine Ev.rounds ?_
 have u1 : bs.length ≤ 9223372036854775807 := by have := hb.1; unfold maxLen at this; exact this
 have u2 : ∀ b ∈ bs, b.f1.length ≤ 9223372036854775807 := fun b hm => by have := ((hb.2 b hm).2).1; unfold maxLen at this; exact this
 have u3 : rs.length ≤ 9223372036854775807 := by have := hr.1; unfold maxLen at this; exact this
 have v1 : bs2.length ≤ 9223372036854775807 := by have := gb.1; unfold maxLen at this; exact this
 have v2 : ∀ b ∈ bs2, b.f1.length ≤ 9223372036854775807 := fun b hm => by have := ((gb.2 b hm).2).1; unfold maxLen at this; exact this
 have v3 : rs2.length ≤ 9223372036854775807 := by have := gr.1; unfold maxLen at this; exact this
 unfold Fc.f
 refine Ev.bind (FX a bs rs 1048576 Yq2 Yq2 u1 u2 u3) ?_
 by_cases z : szSys bs rs 1048576 < 0
 ·
  simp only [z, ↓reduceIte]; exact Ev.now _
 simp only [z, ↓reduceIte]
 obtain ⟨s1, s2, s3, s4⟩ := szSys_of Yq2 z
 have s5 := szSys_tot Yq2 z
 refine Ev.bind (FX a2 bs2 rs2 _ Yq1 s4 v1 v2 v3) ?_
 by_cases z2 : szSys bs2 rs2 (szSys bs rs 1048576) < 0
 ·
  simp only [z2, ↓reduceIte]; exact Ev.now _
 simp only [z2, ↓reduceIte]
 obtain ⟨w1, w2, w3, w4⟩ := szSys_of Yq1 z2
 have w5 := szSys_tot Yq1 z2
 have t1 := FY a bs rs Yq1 (fun b hm => by have := s3 b hm; omega) Yq1
 have t2 := FY a2 bs2 rs2 Yq1 (fun b hm => by have := w3 b hm; omega) Yq1
 have x1 : (bs.map toB).length ≤ 1048576 := by rw [List.length_map]; omega
 have x2 : (bs2.map toB).length ≤ 1048576 := by rw [List.length_map]; omega
 have y1 : ∀ r ∈ bs.map toB, r.f1.length ≤ 1048576 := fun r hm => by
  obtain ⟨b, hb1, rfl⟩ := List.mem_map.1 hm
  have := s3 b hb1
  show b.f1.length ≤ 1048576
  omega
 have y2 : ∀ r ∈ bs2.map toB, r.f1.length ≤ 1048576 := fun r hm => by
  obtain ⟨b, hb1, rfl⟩ := List.mem_map.1 hm
  have := w3 b hb1
  show b.f1.length ≤ 1048576
  omega
 have r1 : rs.length ≤ 1048576 := by omega
 have r2 : rs2.length ≤ 1048576 := by omega
 have m1 : totB (bs.map toB) ≤ 1048576 := by omega
 have m2 : totB (bs2.map toB) ≤ 1048576 := by omega
 clear s1 s2 s3 s4 s5 w1 w2 w3 w4 w5 z z2 u1 u2 u3 v1 v2 v3 h0 hb hr g0 gb gr
 generalize bs.map toB = X at *
 generalize bs2.map toB = Y at *
 have sp := FEa a X rs a2 Y rs2 x1 y1 x2 y2
 have im := FFa a X rs a2 Y rs2 x1 y1 x2 y2
 obtain ⟨q1, q2, q3, q4⟩ := joinV_small a X rs a2 Y rs2 m1 m2 r1 y1 y2
 generalize joinV a X rs a2 Y rs2 = v at *
 obtain ⟨va, vb, vr, vo⟩ := v
 simp only at q1 q2 q3 q4
 have eq0 := FV va vb vr Yq1 (fun r h => by have := q4 r h; omega) Yq1
 have eq1 := FV a X rs Yq1 (fun r h => by have := y1 r h; omega) Yq1
 have eq2 := FV a2 Y rs2 Yq1 (fun r h => by have := y2 r h; omega) Yq1
 refine Ev.bind t1 ?_
 refine Ev.bind t2 ?_
 refine Ev.bind sp ?_
 refine Ev.bind t1 ?_
 refine Ev.bind t2 ?_
 refine Ev.bind im ?_
 refine Ev.bind eq0 ?_
 simp only [↓reduceIte, bne_self_eq_false]
 refine Ev.succ ?_
 simp only [Fc.j0, Bool.false_eq_true, ↓reduceIte]
 refine Ev.bind t1 ?_
 refine Ev.bind eq1 ?_
 simp only [↓reduceIte]
 refine Ev.bind t2 ?_
 refine Ev.bind eq2 ?_
 simp only [↓reduceIte]
 refine Ev.bind (FW a X rs 1 Yq2 Yq2 Yq1 x1 r1) ?_
 refine Ev.bind (FW a2 Y rs2 _ Yq1 Yq1 Yq1 x2 r2) ?_
 simp only [show ¬ ((1 : Int) + (totB X : Int) + (rs.length : Int) + (totB Y : Int) + (rs2.length : Int) < 0) from Yq1, ↓reduceIte]
 refine Ev.bind eq0 ?_
 simp only [↓reduceIte, bne_self_eq_false]
 refine Ev.succ ?_
 simp only [Fc.j1, Bool.false_eq_true, ↓reduceIte]
 refine Ev.bind (FW va vb vr 1 Yq2 Yq2 q3 Yq1 Yq1) ?_
 refine Ev.bind (Fba va vb vr q3 Yq1 Yq1) ?_
 simp only [show ¬ ((1 : Int) + (totB vb : Int) + (vr.length : Int) < 0) from Yq1, ↓reduceIte]
 refine Ev.bind t1 ?_
 refine Ev.bind t2 ?_
 refine Ev.bind im ?_
 refine Ev.bind eq0 ?_
 simp only [↓reduceIte, bne_self_eq_false]
 refine Ev.succ ?_
 simp only [Fc.j2, Bool.false_eq_true, ↓reduceIte]
 refine Ev.bind (Fba va vb vr q3 Yq1 Yq1) ?_
 simp only [show ¬ ((1 : Int) + (totB vb : Int) + (vr.length : Int) < 0) from Yq1, ↓reduceIte]
 exact Ev.now _

end Go.Proofs.Ytgbpbhplehmedaa.Pure
