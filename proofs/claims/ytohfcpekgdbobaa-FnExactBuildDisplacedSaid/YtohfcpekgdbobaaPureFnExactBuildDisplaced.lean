/- The program's BuildDisplaced returns what the reference's returns, for all arguments. -/
import Derived.Test.YtohfcpekgdbobaaPFnExactBuildDisplacedx13
import Derived.Test.YtohfcpekgdbobaaTBase
namespace Go.Proofs.Ytohfcpekgdbobaa.Pure
open Go.RowKit Go.Proofs.Ytohfcpekgdbobaa.PFnExactBuildDisplaced Go.Proofs.YtohfcpekgdbobaaW.PrintWords Go.Proofs.YtohfcpekgdbobaaW.PrintLast Go.Proofs.Ytohfcpekgdbobaa.Base
set_option linter.unusedVariables false
set_option linter.unusedSimpArgs false

/-- How many keys a bucket has. -/
def lenB (L : List (List Int)) (i : Int) : Int := ((rd_L2 L i).length : Int)
/-- The order of the buckets: the longer one first, of equals the lower number. -/
def Tb (L : List (List Int)) (x y : Int) : Prop := lenB L y < lenB L x ∨ (lenB L x = lenB L y ∧ x < y)
theorem Tb_trans {L : List (List Int)} {x y z : Int} (h : Tb L x y) (g : Tb L y z) : Tb L x z := by unfold Tb at *; omega
theorem Tb_asymm {L : List (List Int)} {x y : Int} (h : Tb L x y) (g : Tb L y x) : x = y := by unfold Tb at *; omega
def InB (L : List (List Int)) (l : List Int) : Prop := ∀ x ∈ l, 0 ≤ x ∧ x < (L.length : Int)
theorem isNaN_eq (a : Int) : cmp_isNaN_int.f a = some false := by simp [cmp_isNaN_int.f]
theorem c1_eq (L : List (List Int)) (a b : Int) (ha : 0 ≤ a ∧ a < (L.length : Int)) (hb : 0 ≤ b ∧ b < (L.length : Int)) : ∃ v, impl_BuildDisplacedc1.f a b L = some v ∧ (v < 0 ↔ lenB L b < lenB L a) := by
  unfold impl_BuildDisplacedc1.f cmp_Compare_int.f lenB
  simp only [ha.1, ha.2, hb.1, hb.2, ↓reduceIte, isNaN_eq, Option.bind_some, Bool.false_eq_true]
  by_cases c : ((rd_L2 L b).length : Int) < ((rd_L2 L a).length : Int)
  · exact ⟨-1, by simp only [c, ↓reduceIte, Option.bind_some], by omega⟩
  · by_cases d : ((rd_L2 L b).length : Int) > ((rd_L2 L a).length : Int)
    · exact ⟨1, by simp only [c, d, ↓reduceIte, Option.bind_some], by omega⟩
    · exact ⟨0, by simp only [c, d, ↓reduceIte, Option.bind_some], by omega⟩
/-! ### rows by their parts -/
theorem rd_mid (p : List Int) (x : Int) (q : List Int) (i : Int) (h : i = (p.length : Int)) : rd (p ++ x :: q) i = x := by
  subst h
  rw [rd_nat _ _ (by simp)]
  simp
theorem set_mid (p : List Int) (x y : Int) (q : List Int) (i : Int) (h : i = (p.length : Int)) : (p ++ x :: q).set i.toNat y = p ++ y :: q := by
  subst h
  rw [Int.toNat_natCast, List.set_append_right _ _ (Nat.le_refl _), Nat.sub_self]
  rfl
/-- Two elements trade places. -/
theorem trade (p : List Int) (e : Int) (m : List Int) (f : Int) (t : List Int) (i j : Int) (hi : i = (p.length : Int)) (hj : j = (p.length : Int) + 1 + (m.length : Int)) :
    rd (p ++ e :: (m ++ f :: t)) i = e ∧ rd (p ++ e :: (m ++ f :: t)) j = f ∧ ((p ++ e :: (m ++ f :: t)).set i.toNat f).set j.toNat e = p ++ f :: (m ++ e :: t) ∧ ((p ++ e :: (m ++ f :: t)).set j.toNat e).set i.toNat f = p ++ f :: (m ++ e :: t) := by
  have a1 : ∀ x y : Int, p ++ x :: (m ++ y :: t) = (p ++ x :: m) ++ y :: t := fun x y => by simp
  have l1 : ∀ x : Int, j = ((p ++ x :: m).length : Int) := fun x => by simp; omega
  refine ⟨rd_mid _ _ _ _ hi, ?_, ?_, ?_⟩
  · rw [a1, rd_mid _ _ _ _ (l1 e)]
  · rw [set_mid _ _ _ _ _ hi, a1, set_mid _ _ _ _ _ (l1 f), ← a1]
  · rw [a1, set_mid _ _ _ _ _ (l1 e), ← a1, set_mid _ _ _ _ _ hi]
theorem rd_at (p v r : List Int) (k : Nat) (h : k < v.length) (i : Int) (hi : i = (p.length : Int) + (k : Int)) : rd (p ++ (v ++ r)) i = v[k] := by
  subst hi
  rw [show ((p.length : Int) + (k : Int)) = ((p.length + k : Nat) : Int) from by omega, rd_nat _ _ (by simp; omega)]
  simp [List.getElem_append_right, List.getElem_append_left, h]
theorem ins_l1 (L : List (List Int)) (a b i : Int) (p r : List Int) (e : Int) (ha : a = (p.length : Int)) (hi0 : -1000 ≤ i) (hi : i ≤ 1000) : ∀ (n : Nat) (u v : List Int), u.length = n → p.length + n ≤ 1000 → InB L (e :: (u ++ v)) → (u ++ v).Pairwise (Tb L) → (∀ x ∈ u, x < e) → (∀ x ∈ v, lenB L x < lenB L e) →
    ∃ s, s.Perm (e :: (u ++ v)) ∧ s.Pairwise (Tb L) ∧ ∀ R, Ev (fun k => slices_insertionSortCmpFunc_int_impl_BuildDisplacedc1.l0 k (p ++ (s ++ r)) a b (wrap64 (i + 1)) L) R → Ev (fun k => slices_insertionSortCmpFunc_int_impl_BuildDisplacedc1.l1 k (p ++ (u ++ e :: (v ++ r))) a b i (a + (n : Int)) L) R := by
  intro n
  induction n with
  | zero =>
    intro u v hu hn hin hp hx hv
    obtain rfl := List.length_eq_zero_iff.1 hu
    refine ⟨e :: v, by simp, ?_, fun R h => ?_⟩
    · rw [List.pairwise_cons]
      exact ⟨fun x h => Or.inl (hv x h), by simpa using hp⟩
    · refine Ev.succ ?_
      have h1 : ¬ (a + ((0 : Nat) : Int) > a) := by omega
      simp only [slices_insertionSortCmpFunc_int_impl_BuildDisplacedc1.l1, h1, ↓reduceIte]
      simpa using h
  | succ n ih =>
    intro u v hu hn hin hp hx hv
    obtain ⟨u', y, rfl⟩ : ∃ u' y, u = u' ++ [y] := ⟨u.dropLast, u.getLast (by intro h; subst h; cases hu), (List.dropLast_concat_getLast _).symm⟩
    have hu' : u'.length = n := by simpa using hu
    have hye : y < e := hx y (by simp)
    obtain ⟨cv, hc, hneg⟩ := c1_eq L e y (hin e (by simp)) (hin y (by simp))
    have hX : p ++ (u' ++ [y] ++ e :: (v ++ r)) = (p ++ u') ++ y :: ([] ++ e :: (v ++ r)) := by simp
    obtain ⟨t1, t2, t3, t4⟩ := trade (p ++ u') y [] e (v ++ r) (a + (n : Int)) (a + ((n + 1 : Nat) : Int)) (by simp; omega) (by simp; omega)
    rw [← hX] at t1 t2 t3 t4
    have g1 : a + ((n + 1 : Nat) : Int) > a := by omega
    have g2 : (0 : Int) ≤ a + ((n + 1 : Nat) : Int) := by omega
    have g3 : a + ((n + 1 : Nat) : Int) < ((p ++ (u' ++ [y] ++ e :: (v ++ r))).length : Int) := by simp; omega
    have g4 : wrap64 (a + ((n + 1 : Nat) : Int) - 1) = a + (n : Int) := by rw [w64 (by omega) (by omega)]; omega
    have g5 : (0 : Int) ≤ a + (n : Int) := by omega
    have g6 : a + (n : Int) < ((p ++ (u' ++ [y] ++ e :: (v ++ r))).length : Int) := by simp; omega
    by_cases c : lenB L y < lenB L e
    · obtain ⟨s, hs1, hs2, hs3⟩ := ih u' (y :: v) hu' (by omega) (by simpa using hin) (by simpa using hp) (fun x hx' => hx x (by simp [hx'])) (fun x hx' => by
        rcases List.mem_cons.1 hx' with rfl | h
        · exact c
        · exact hv x h)
      refine ⟨s, by simpa using hs1, hs2, fun R h => ?_⟩
      have h2 := hs3 R h
      refine Ev.succ ?_
      have hneg' : cv < 0 := hneg.2 c
      simp only [slices_insertionSortCmpFunc_int_impl_BuildDisplacedc1.l1, g1, g2, g3, g4, g5, g6, ↓reduceIte, t1, t2, hc, Option.bind_some, hneg', t4]
      simpa using h2
    · refine ⟨u' ++ [y] ++ e :: v, List.perm_middle, ?_, fun R h => ?_⟩
      · rw [List.pairwise_append] at hp
        obtain ⟨hp1, hp2, hp3⟩ := hp
        have hyT : Tb L y e := by unfold Tb; omega
        have hall : ∀ x ∈ u' ++ [y], Tb L x e := by
          intro x hx'
          rcases List.mem_append.1 hx' with h' | h'
          · rw [List.pairwise_append] at hp1
            exact Tb_trans (hp1.2.2 x h' y (by simp)) hyT
          · simp at h'
            subst h'
            exact hyT
        rw [List.pairwise_append, List.pairwise_cons]
        refine ⟨hp1, ⟨fun x hx' => Or.inl (hv x hx'), hp2⟩, fun x hx' z hz => ?_⟩
        rcases List.mem_cons.1 hz with rfl | hz
        · exact hall x hx'
        · exact hp3 x hx' z hz
      · refine Ev.succ ?_
        have hneg' : ¬ cv < 0 := fun h' => c (hneg.1 h')
        simp only [slices_insertionSortCmpFunc_int_impl_BuildDisplacedc1.l1, g1, g2, g3, g4, g5, g6, ↓reduceIte, t1, t2, hc, Option.bind_some, hneg']
        simpa using h
theorem ins_l0 (L : List (List Int)) (a b : Int) (p r : List Int) (ha : a = (p.length : Int)) : ∀ (d : Nat) (u w : List Int), w.length = d → b = a + (u.length : Int) + (d : Int) → p.length + u.length + d ≤ 500 → InB L (u ++ w) → u.Pairwise (Tb L) → (∀ x ∈ u, ∀ y ∈ w, x < y) → w.Pairwise (· < ·) →
    ∃ s, s.Perm (u ++ w) ∧ s.Pairwise (Tb L) ∧ Ev (fun k => slices_insertionSortCmpFunc_int_impl_BuildDisplacedc1.l0 k (p ++ (u ++ (w ++ r))) a b (a + (u.length : Int)) L) (p ++ (s ++ r)) := by
  intro d
  induction d with
  | zero =>
    intro u w hw hb hn hin hp hc hr
    obtain rfl := List.length_eq_zero_iff.1 hw
    refine ⟨u, by simp, hp, ?_⟩
    refine Ev.succ ?_
    have h1 : ¬ (a + (u.length : Int) < b) := by omega
    simp only [slices_insertionSortCmpFunc_int_impl_BuildDisplacedc1.l0, h1, ↓reduceIte]
    exact Ev.some_ (by simp)
  | succ d ih =>
    intro u w hw hb hn hin hp hc hr
    obtain ⟨e, w', rfl⟩ : ∃ e w', w = e :: w' := by cases w with | nil => cases hw | cons e w' => exact ⟨e, w', rfl⟩
    have hw' : w'.length = d := by simpa using hw
    rw [List.pairwise_cons] at hr
    obtain ⟨s1, q1, q2, q3⟩ := ins_l1 L a b (a + (u.length : Int)) p (w' ++ r) e ha (by omega) (by omega) u.length u [] rfl (by omega) (by intro x hx; exact hin x (by simp at hx ⊢; rcases hx with h | h <;> simp [h])) (by simpa using hp) (fun x hx => hc x hx e (by simp)) (by simp)
    have hl : s1.length = u.length + 1 := by rw [q1.length_eq]; simp
    have hm : ∀ x, x ∈ s1 ↔ x = e ∨ x ∈ u := fun x => by rw [q1.mem_iff]; simp
    obtain ⟨s, k1, k2, k3⟩ := ih s1 w' hw' (by omega) (by omega) (by
      intro x hx
      rcases List.mem_append.1 hx with h | h
      · rcases (hm x).1 h with rfl | h
        · exact hin x (by simp)
        · exact hin x (by simp [h])
      · exact hin x (by simp [h])) q2 (by
      intro x hx y hy
      rcases (hm x).1 hx with rfl | h
      · exact hr.1 y hy
      · exact hc x h y (by simp [hy])) hr.2
    refine ⟨s, ?_, k2, ?_⟩
    · refine k1.trans ((q1.append_right w').trans ?_)
      simpa using (List.perm_middle (a := e) (l₁ := u) (l₂ := w')).symm
    · refine Ev.succ ?_
      have h1 : a + (u.length : Int) < b := by omega
      simp only [slices_insertionSortCmpFunc_int_impl_BuildDisplacedc1.l0, h1, ↓reduceIte]
      have k4 := q3 (p ++ (s ++ r)) (by
        rw [w64 (by omega) (by omega), show a + (u.length : Int) + 1 = a + (s1.length : Int) from by omega]
        exact k3)
      simpa using k4
theorem ins_f (L : List (List Int)) (p w r : List Int) (a b : Int) (ha : a = (p.length : Int)) (hb : b = a + (w.length : Int)) (hn : p.length + w.length ≤ 500) (hin : InB L w) (hw : w.Pairwise (· < ·)) :
    ∃ s, s.Perm w ∧ s.Pairwise (Tb L) ∧ Ev (fun k => slices_insertionSortCmpFunc_int_impl_BuildDisplacedc1.f k (p ++ (w ++ r)) a b L) (p ++ (s ++ r)) := by
  unfold slices_insertionSortCmpFunc_int_impl_BuildDisplacedc1.f
  rw [w64 (by omega) (by omega)]
  cases w with
  | nil =>
    refine ⟨[], by simp, List.Pairwise.nil, ?_⟩
    refine Ev.succ ?_
    have h1 : ¬ (a + 1 < b) := by simp at hb; omega
    simp only [slices_insertionSortCmpFunc_int_impl_BuildDisplacedc1.l0, h1, ↓reduceIte]
    exact Ev.now _
  | cons e w =>
    rw [List.pairwise_cons] at hw
    obtain ⟨s, k1, k2, k3⟩ := ins_l0 L a b p r ha w.length [e] w rfl (by simp at hb ⊢; omega) (by simp at hn ⊢; omega) (by simpa using hin) (by simp) (by simpa using hw.1) hw.2
    exact ⟨s, by simpa using k1, k2, by simpa using k3⟩
theorem swap_l0 (L : List (List Int)) (a b n : Int) (r : List Int) : ∀ (d : Nat) (u v p q : List Int) (i : Int), u.length = d → v.length = d → a + i = (p.length : Int) → b + i = (p.length : Int) + (d : Int) + (q.length : Int) → 0 ≤ i → n = i + (d : Int) → p.length + d + q.length + d ≤ 500 → b ≤ 500 → a ≤ b → 0 ≤ a →
    Ev (fun k => slices_swapRangeCmpFunc_int_impl_BuildDisplacedc1.l0 k (p ++ (u ++ (q ++ (v ++ r)))) a b n i) (p ++ (v ++ (q ++ (u ++ r)))) := by
  intro d
  induction d with
  | zero =>
    intro u v p q i hu hv ha hb h0 hn hl hb5 hab h0a
    obtain rfl := List.length_eq_zero_iff.1 hu
    obtain rfl := List.length_eq_zero_iff.1 hv
    refine Ev.succ ?_
    have h1 : ¬ (i < n) := by omega
    simp only [slices_swapRangeCmpFunc_int_impl_BuildDisplacedc1.l0, h1, ↓reduceIte]
    exact Ev.now _
  | succ d ih =>
    intro u v p q i hu hv ha hb h0 hn hl hb5 hab h0a
    obtain ⟨e, u', rfl⟩ : ∃ e u', u = e :: u' := by cases u with | nil => cases hu | cons e w' => exact ⟨e, w', rfl⟩
    obtain ⟨f, v', rfl⟩ : ∃ e u', v = e :: u' := by cases v with | nil => cases hv | cons e w' => exact ⟨e, w', rfl⟩
    have hu' : u'.length = d := by simpa using hu
    have hv' : v'.length = d := by simpa using hv
    have hX : p ++ (e :: u' ++ (q ++ (f :: v' ++ r))) = p ++ e :: ((u' ++ q) ++ f :: (v' ++ r)) := by simp
    obtain ⟨t1, t2, t3, t4⟩ := trade p e (u' ++ q) f (v' ++ r) (a + i) (b + i) ha (by simp; omega)
    rw [← hX] at t1 t2 t3 t4
    have hlen : ((p ++ (e :: u' ++ (q ++ (f :: v' ++ r)))).length : Int) = (p.length : Int) + 1 + (d : Int) + (q.length : Int) + 1 + (d : Int) + (r.length : Int) := by simp; omega
    have w1 : wrap64 (a + i) = a + i := w64 (by omega) (by omega)
    have w2 : wrap64 (b + i) = b + i := w64 (by omega) (by omega)
    have w3 : wrap64 (i + 1) = i + 1 := w64 (by omega) (by omega)
    have g0 : i < n := by omega
    have g1 : 0 ≤ b + i := by omega
    have g2 : b + i < ((p ++ (e :: u' ++ (q ++ (f :: v' ++ r)))).length : Int) := by omega
    have g3 : 0 ≤ a + i := by omega
    have g4 : a + i < ((p ++ (e :: u' ++ (q ++ (f :: v' ++ r)))).length : Int) := by omega
    have h := ih u' v' (p ++ [f]) (q ++ [e]) (i + 1) hu' hv' (by simp; omega) (by simp; omega) (by omega) (by omega) (by simp; omega) hb5 hab h0a
    refine Ev.succ ?_
    simp only [slices_swapRangeCmpFunc_int_impl_BuildDisplacedc1.l0, w1, w2, w3, g0, g1, g2, g3, g4, ↓reduceIte, t1, t2, t3]
    simpa using h
theorem swap_f (L : List (List Int)) (p u q v r : List Int) (a b n : Int) (ha : a = (p.length : Int)) (hb : b = (p.length : Int) + (u.length : Int) + (q.length : Int)) (hn : n = (u.length : Int)) (huv : v.length = u.length) (hl : p.length + u.length + q.length + u.length ≤ 500) :
    Ev (fun k => slices_swapRangeCmpFunc_int_impl_BuildDisplacedc1.f k (p ++ (u ++ (q ++ (v ++ r)))) a b n L) (p ++ (v ++ (q ++ (u ++ r)))) := by
  unfold slices_swapRangeCmpFunc_int_impl_BuildDisplacedc1.f
  exact swap_l0 L a b n r u.length u v p q 0 rfl huv (by omega) (by omega) (by omega) (by omega) hl (by omega) (by omega) (by omega)
theorem rot_l0 (L : List (List Int)) (m : Int) : ∀ (N : Nat) (p u v r : List Int), u.length + v.length ≤ N → 0 < u.length → 0 < v.length → m = (p.length : Int) + (u.length : Int) → p.length + u.length + v.length ≤ 200 →
    Ev (fun k => slices_rotateCmpFunc_int_impl_BuildDisplacedc1.l0 k (p ++ (u ++ (v ++ r))) m (u.length : Int) (v.length : Int) L) (p ++ (v ++ (u ++ r))) := by
  intro N
  induction N with
  | zero => intro p u v r h hu hv; omega
  | succ N ih =>
    intro p u v r h hu hv hm hl
    have w1 : wrap64 (m - (u.length : Int)) = (p.length : Int) := by rw [w64 (by omega) (by omega)]; omega
    refine Ev.succ ?_
    by_cases c : u.length = v.length
    · have c' : (u.length : Int) = (v.length : Int) := by omega
      simp only [slices_rotateCmpFunc_int_impl_BuildDisplacedc1.l0, c', ↓reduceIte]
      rw [← c', w1]
      have e := swap_f L p u [] v r (p.length : Int) m (u.length : Int) rfl (by simp; omega) rfl c.symm (by simp; omega)
      refine Ev.bind (a := p ++ (v ++ (u ++ r))) (by simpa using e) (Ev.now _)
    · have c' : ¬ (u.length : Int) = (v.length : Int) := by omega
      by_cases d : v.length < u.length
      · have d' : (u.length : Int) > (v.length : Int) := by omega
        have w2 : wrap64 ((u.length : Int) - (v.length : Int)) = ((u.drop v.length).length : Int) := by rw [w64 (by omega) (by omega), List.length_drop]; omega
        simp only [slices_rotateCmpFunc_int_impl_BuildDisplacedc1.l0, c', d', ↓reduceIte]
        rw [w1, w2]
        have hu1 : (u.take v.length).length = v.length := by rw [List.length_take]; omega
        have hu2 : (u.drop v.length).length = u.length - v.length := List.length_drop
        have hu3 := List.take_append_drop v.length u
        generalize u.take v.length = u1 at *
        generalize u.drop v.length = u2 at *
        subst hu3
        have e := swap_f L p u1 u2 v r (p.length : Int) m (v.length : Int) rfl (by simp at hm; omega) (by omega) hu1.symm (by simp at hl; omega)
        refine Ev.bind (a := p ++ (v ++ (u2 ++ (u1 ++ r)))) (by simpa using e) ?_
        have e2 := ih (p ++ v) u2 u1 r (by simp at h; omega) (by omega) (by omega) (by simp at hm ⊢; omega) (by simp at hl ⊢; omega)
        rw [hu1] at e2
        simpa using e2
      · have d' : ¬ (u.length : Int) > (v.length : Int) := by omega
        have w2 : wrap64 ((v.length : Int) - (u.length : Int)) = ((v.take (v.length - u.length)).length : Int) := by rw [w64 (by omega) (by omega), List.length_take]; omega
        have w3 : wrap64 (wrap64 (m + (v.length : Int)) - (u.length : Int)) = m + ((v.take (v.length - u.length)).length : Int) := by rw [w64 (n := m + (v.length : Int)) (by omega) (by omega), w64 (by omega) (by omega), List.length_take]; omega
        simp only [slices_rotateCmpFunc_int_impl_BuildDisplacedc1.l0, c', d', ↓reduceIte]
        rw [w1, w2, w3]
        have hv1 : (v.take (v.length - u.length)).length = v.length - u.length := by rw [List.length_take]; omega
        have hv2 : (v.drop (v.length - u.length)).length = u.length := by rw [List.length_drop]; omega
        have hv3 := List.take_append_drop (v.length - u.length) v
        generalize v.take (v.length - u.length) = v1 at *
        generalize v.drop (v.length - u.length) = v2 at *
        subst hv3
        have e := swap_f L p u v1 v2 r (p.length : Int) (m + (v1.length : Int)) (u.length : Int) rfl (by omega) rfl hv2 (by simp at hl; omega)
        refine Ev.bind (a := p ++ (v2 ++ (v1 ++ (u ++ r)))) (by simpa using e) ?_
        have e2 := ih p v2 v1 (u ++ r) (by simp at h; omega) (by omega) (by omega) (by omega) (by simp at hl; omega)
        rw [hv2] at e2
        simpa using e2
theorem rot_f (L : List (List Int)) (p u v r : List Int) (a m b : Int) (ha : a = (p.length : Int)) (hm : m = a + (u.length : Int)) (hb : b = m + (v.length : Int)) (hu : 0 < u.length) (hv : 0 < v.length) (hl : p.length + u.length + v.length ≤ 200) :
    Ev (fun k => slices_rotateCmpFunc_int_impl_BuildDisplacedc1.f k (p ++ (u ++ (v ++ r))) a m b L) (p ++ (v ++ (u ++ r))) := by
  unfold slices_rotateCmpFunc_int_impl_BuildDisplacedc1.f
  rw [w64 (n := m - a) (by omega) (by omega), w64 (n := b - m) (by omega) (by omega), show m - a = (u.length : Int) from by omega, show b - m = (v.length : Int) from by omega]
  exact rot_l0 L m (u.length + v.length) p u v r (Nat.le_refl _) hu hv (by omega) hl
theorem u64w {n : Int} (h0 : 0 ≤ n) (h1 : n ≤ 1000) : IntKind.u64.wrap n = n := by
  simp [IntKind.wrap, IntKind.bits, IntKind.signed]
  omega
theorem half (a b : Int) (h0 : 0 ≤ a) (h1 : 0 ≤ b) (h2 : a + b ≤ 1000) : wrap64 ((IntKind.u64.wrap (wrap64 (a + b))) / 2) = (a + b) / 2 := by
  rw [w64 (n := a + b) (by omega) (by omega), u64w (by omega) (by omega), w64 (by omega) (by omega)]
/-- A search by halves. -/
theorem bsearch {β : Type} (F : Int → Int → Nat → Option β) (K : Int → Nat → Option β) (P : Int → Prop) (m b : Int) (mono : ∀ c c', m ≤ c → c ≤ c' → c' < b → P c' → P c)
    (step : ∀ i j, m ≤ i → i < j → j ≤ b → ∀ R, (P ((i + j) / 2) → Ev (F ((i + j) / 2 + 1) j) R) → (¬ P ((i + j) / 2) → Ev (F i ((i + j) / 2)) R) → Ev (F i j) R)
    (stop : ∀ i, m ≤ i → i ≤ b → ∀ R, Ev (K i) R → Ev (F i i) R) :
    ∀ (N : Nat) (i j : Int), j - i ≤ (N : Int) → m ≤ i → i ≤ j → j ≤ b → (∀ c, m ≤ c → c < i → P c) → (∀ c, j ≤ c → c < b → ¬ P c) →
      ∃ t, i ≤ t ∧ t ≤ j ∧ (∀ c, m ≤ c → c < t → P c) ∧ (∀ c, t ≤ c → c < b → ¬ P c) ∧ ∀ R, Ev (K t) R → Ev (F i j) R := by
  intro N
  induction N with
  | zero =>
    intro i j h h1 h2 h3 hP hN
    obtain rfl : i = j := by omega
    exact ⟨i, by omega, by omega, hP, hN, stop i h1 h3⟩
  | succ N ih =>
    intro i j h h1 h2 h3 hP hN
    by_cases e : i = j
    · subst e
      exact ⟨i, by omega, by omega, hP, hN, stop i h1 h3⟩
    · by_cases c : P ((i + j) / 2)
      · obtain ⟨t, k1, k2, k3, k4, k5⟩ := ih ((i + j) / 2 + 1) j (by omega) (by omega) (by omega) h3 (fun x hx hx' => mono x ((i + j) / 2) hx (by omega) (by omega) c) hN
        exact ⟨t, by omega, k2, k3, k4, fun R hR => step i j h1 (by omega) h3 R (fun _ => k5 R hR) (fun hn => absurd c hn)⟩
      · obtain ⟨t, k1, k2, k3, k4, k5⟩ := ih i ((i + j) / 2) (by omega) h1 (by omega) (by omega) hP (fun x hx hx' hp => c (mono ((i + j) / 2) x (by omega) hx hx' hp))
        exact ⟨t, k1, by omega, k3, k4, fun R hR => step i j h1 (by omega) h3 R (fun hp => absurd hp c) (fun _ => k5 R hR)⟩
/-- A row's number at a place within its bounds is a bucket. -/
def AtB (L : List (List Int)) (X : List Int) : Prop := ∀ c : Int, 0 ≤ c → c < (X.length : Int) → 0 ≤ rd X c ∧ rd X c < (L.length : Int)
theorem atB_of {L : List (List Int)} {X : List Int} (h : InB L X) : AtB L X := by
  intro c h0 h1
  have e : c = ((c.toNat : Nat) : Int) := by omega
  rw [e, rd_nat X c.toNat (by omega)]
  exact h _ (List.getElem_mem _)
theorem sym_s1 (L : List (List Int)) (X : List Int) (hX : AtB L X) (hl : X.length ≤ 400) (a m b : Int) (ha : 0 ≤ a ∧ a < (X.length : Int)) (hm : 0 ≤ m) (hmb : m ≤ b) (hb : b ≤ (X.length : Int))
    (mono : ∀ c c', m ≤ c → c ≤ c' → c' < b → lenB L (rd X a) < lenB L (rd X c') → lenB L (rd X a) < lenB L (rd X c)) :
    ∃ t, m ≤ t ∧ t ≤ b ∧ (∀ c, m ≤ c → c < t → lenB L (rd X a) < lenB L (rd X c)) ∧ (∀ c, t ≤ c → c < b → ¬ lenB L (rd X a) < lenB L (rd X c)) ∧ ∀ R, Ev (fun k => slices_symMergeCmpFunc_int_impl_BuildDisplacedc1.l1 k X t a) R → Ev (fun k => slices_symMergeCmpFunc_int_impl_BuildDisplacedc1.l0 k X a m b L) R := by
  refine bsearch (fun i j k => slices_symMergeCmpFunc_int_impl_BuildDisplacedc1.l0 k X a i j L) (fun t k => slices_symMergeCmpFunc_int_impl_BuildDisplacedc1.l1 k X t a) (fun c => lenB L (rd X a) < lenB L (rd X c)) m b mono ?_ ?_ (b - m).toNat m b (by omega) (by omega) hmb (by omega) (by intro c h1 h2; omega) (by intro c h1 h2; omega)
  · intro i j h1 h2 h3 R hp hn
    refine Ev.succ ?_
    have hh := half i j (by omega) (by omega) (by omega)
    have g1 : 0 ≤ (i + j) / 2 := by omega
    have g2 : (i + j) / 2 < (X.length : Int) := by omega
    have w1 : wrap64 ((i + j) / 2 + 1) = (i + j) / 2 + 1 := w64 (by omega) (by omega)
    obtain ⟨v, hv, hneg⟩ := c1_eq L _ _ (hX ((i + j) / 2) g1 g2) (hX a ha.1 ha.2)
    simp only [slices_symMergeCmpFunc_int_impl_BuildDisplacedc1.l0, h2, hh, g1, g2, ha.1, ha.2, w1, hv, Option.bind_some, ↓reduceIte]
    by_cases c : v < 0
    · simp only [c, ↓reduceIte]
      exact hp (hneg.1 c)
    · simp only [c, ↓reduceIte]
      exact hn (fun h => c (hneg.2 h))
  · intro i h1 h2 R h
    refine Ev.succ ?_
    simp only [slices_symMergeCmpFunc_int_impl_BuildDisplacedc1.l0, show ¬ (i < i) from by omega, ↓reduceIte]
    exact h
theorem sym_s2 (L : List (List Int)) (X : List Int) (hX : AtB L X) (hl : X.length ≤ 400) (q a m : Int) (hq : 0 ≤ q ∧ q < (X.length : Int)) (ha : 0 ≤ a) (ham : a ≤ m) (hm : m ≤ (X.length : Int))
    (mono : ∀ c c', a ≤ c → c ≤ c' → c' < m → ¬ lenB L (rd X c') < lenB L (rd X q) → ¬ lenB L (rd X c) < lenB L (rd X q)) :
    ∃ t, a ≤ t ∧ t ≤ m ∧ (∀ c, a ≤ c → c < t → ¬ lenB L (rd X c) < lenB L (rd X q)) ∧ (∀ c, t ≤ c → c < m → ¬ ¬ lenB L (rd X c) < lenB L (rd X q)) ∧ ∀ R, Ev (fun k => slices_symMergeCmpFunc_int_impl_BuildDisplacedc1.l3 k X t q) R → Ev (fun k => slices_symMergeCmpFunc_int_impl_BuildDisplacedc1.l2 k X q a m L) R := by
  refine bsearch (fun i j k => slices_symMergeCmpFunc_int_impl_BuildDisplacedc1.l2 k X q i j L) (fun t k => slices_symMergeCmpFunc_int_impl_BuildDisplacedc1.l3 k X t q) (fun c => ¬ lenB L (rd X c) < lenB L (rd X q)) a m mono ?_ ?_ (m - a).toNat a m (by omega) (by omega) ham (by omega) (by intro c h1 h2; omega) (by intro c h1 h2; omega)
  · intro i j h1 h2 h3 R hp hn
    refine Ev.succ ?_
    have hh := half i j (by omega) (by omega) (by omega)
    have g1 : 0 ≤ (i + j) / 2 := by omega
    have g2 : (i + j) / 2 < (X.length : Int) := by omega
    have w1 : wrap64 ((i + j) / 2 + 1) = (i + j) / 2 + 1 := w64 (by omega) (by omega)
    obtain ⟨v, hv, hneg⟩ := c1_eq L _ _ (hX q hq.1 hq.2) (hX ((i + j) / 2) g1 g2)
    simp only [slices_symMergeCmpFunc_int_impl_BuildDisplacedc1.l2, h2, hh, g1, g2, hq.1, hq.2, w1, hv, Option.bind_some, ↓reduceIte]
    by_cases c : v < 0
    · simp only [c, ↓reduceIte]
      exact hn (fun h => h (hneg.1 c))
    · simp only [c, ↓reduceIte]
      exact hp (fun h => c (hneg.2 h))
  · intro i h1 h2 R h
    refine Ev.succ ?_
    simp only [slices_symMergeCmpFunc_int_impl_BuildDisplacedc1.l2, show ¬ (i < i) from by omega, ↓reduceIte]
    exact h
/-- What follows the search of the two halves. -/
def symK (k : Nat) (X : List Int) (a m b mid n t : Int) (L : List (List Int)) : Option (List Int) := if t < m then slices_symMergeCmpFunc_int_impl_BuildDisplacedc1.j6 k X a m b mid t (wrap64 (n - t)) (decide (m < wrap64 (n - t))) L else slices_symMergeCmpFunc_int_impl_BuildDisplacedc1.j6 k X a m b mid t (wrap64 (n - t)) false L
theorem sym_s4 (L : List (List Int)) (X : List Int) (hX : AtB L X) (hl : X.length ≤ 400) (a m b mid n s r : Int) (hs : 0 ≤ s) (hsr : s ≤ r) (hr : r ≤ (X.length : Int)) (hn : r ≤ n) (hn2 : n - s ≤ (X.length : Int)) (hn3 : n ≤ 800)
    (mono : ∀ c c', s ≤ c → c ≤ c' → c' < r → ¬ lenB L (rd X c') < lenB L (rd X (n - 1 - c')) → ¬ lenB L (rd X c) < lenB L (rd X (n - 1 - c))) :
    ∃ t, s ≤ t ∧ t ≤ r ∧ (∀ c, s ≤ c → c < t → ¬ lenB L (rd X c) < lenB L (rd X (n - 1 - c))) ∧ (∀ c, t ≤ c → c < r → ¬ ¬ lenB L (rd X c) < lenB L (rd X (n - 1 - c))) ∧ ∀ R, Ev (fun k => symK k X a m b mid n t L) R → Ev (fun k => slices_symMergeCmpFunc_int_impl_BuildDisplacedc1.l4 k X a m b mid n s r (n - 1) L) R := by
  refine bsearch (fun i j k => slices_symMergeCmpFunc_int_impl_BuildDisplacedc1.l4 k X a m b mid n i j (n - 1) L) (fun t k => symK k X a m b mid n t L) (fun c => ¬ lenB L (rd X c) < lenB L (rd X (n - 1 - c))) s r mono ?_ ?_ (r - s).toNat s r (by omega) (by omega) hsr (by omega) (by intro c h1 h2; omega) (by intro c h1 h2; omega)
  · intro i j h1 h2 h3 R hp hnn
    refine Ev.succ ?_
    have hh := half i j (by omega) (by omega) (by omega)
    have g1 : 0 ≤ (i + j) / 2 := by omega
    have g2 : (i + j) / 2 < (X.length : Int) := by omega
    have w1 : wrap64 ((i + j) / 2 + 1) = (i + j) / 2 + 1 := w64 (by omega) (by omega)
    have w2 : wrap64 (n - 1 - (i + j) / 2) = n - 1 - (i + j) / 2 := w64 (by omega) (by omega)
    have g3 : 0 ≤ n - 1 - (i + j) / 2 := by omega
    have g4 : n - 1 - (i + j) / 2 < (X.length : Int) := by omega
    obtain ⟨v, hv, hneg⟩ := c1_eq L _ _ (hX (n - 1 - (i + j) / 2) g3 g4) (hX ((i + j) / 2) g1 g2)
    simp only [slices_symMergeCmpFunc_int_impl_BuildDisplacedc1.l4, h2, hh, g1, g2, g3, g4, w1, w2, hv, Option.bind_some, ↓reduceIte]
    by_cases c : v < 0
    · simp only [c, ↓reduceIte]
      exact hnn (fun h => h (hneg.1 c))
    · simp only [c, ↓reduceIte]
      exact hp (fun h => c (hneg.2 h))
  · intro i h1 h2 R h
    refine Ev.succ ?_
    simp only [slices_symMergeCmpFunc_int_impl_BuildDisplacedc1.l4, show ¬ (i < i) from by omega, ↓reduceIte]
    exact h
theorem sym_l1 (r : List Int) (e : Int) : ∀ (d : Nat) (v p : List Int) (i : Int), v.length = d → i = (p.length : Int) + 1 + (d : Int) → p.length + d ≤ 400 → Ev (fun k => slices_symMergeCmpFunc_int_impl_BuildDisplacedc1.l1 k (p ++ e :: (v ++ r)) i (p.length : Int)) (p ++ (v ++ e :: r)) := by
  intro d
  induction d with
  | zero =>
    intro v p i hv hi hl
    obtain rfl := List.length_eq_zero_iff.1 hv
    have w1 : wrap64 (i - 1) = i - 1 := w64 (by omega) (by omega)
    refine Ev.succ ?_
    simp only [slices_symMergeCmpFunc_int_impl_BuildDisplacedc1.l1, w1, show ¬ ((p.length : Int) < i - 1) from by omega, ↓reduceIte]
    exact Ev.now _
  | succ d ih =>
    intro v p i hv hi hl
    obtain ⟨f, v', rfl⟩ : ∃ e u', v = e :: u' := by cases v with | nil => cases hv | cons e w' => exact ⟨e, w', rfl⟩
    have hv' : v'.length = d := by simpa using hv
    have w1 : wrap64 (i - 1) = i - 1 := w64 (by omega) (by omega)
    have w2 : wrap64 ((p.length : Int) + 1) = (p.length : Int) + 1 := w64 (by omega) (by omega)
    have hX : p ++ e :: (f :: v' ++ r) = p ++ e :: ([] ++ f :: (v' ++ r)) := by simp
    obtain ⟨t1, t2, t3, t4⟩ := trade p e [] f (v' ++ r) (p.length : Int) ((p.length : Int) + 1) rfl (by simp)
    rw [← hX] at t1 t2 t3 t4
    have hlen : ((p ++ e :: (f :: v' ++ r)).length : Int) = (p.length : Int) + 1 + 1 + (v'.length : Int) + (r.length : Int) := by simp; omega
    refine Ev.succ ?_
    simp only [slices_symMergeCmpFunc_int_impl_BuildDisplacedc1.l1, w1, w2, show (p.length : Int) < i - 1 from by omega, show (0 : Int) ≤ (p.length : Int) + 1 from by omega, show (p.length : Int) + 1 < ((p ++ e :: (f :: v' ++ r)).length : Int) from by omega, show (0 : Int) ≤ (p.length : Int) from by omega, show (p.length : Int) < ((p ++ e :: (f :: v' ++ r)).length : Int) from by omega, ↓reduceIte, t1, t2, t3]
    have h := ih v' (p ++ [f]) i hv' (by simp; omega) (by simp; omega)
    rw [show (((p ++ [f]).length : Nat) : Int) = (p.length : Int) + 1 from by simp] at h
    simpa using h
theorem sym_l3 (p r : List Int) (e : Int) : ∀ (d : Nat) (u q : List Int) (i : Int), u.length = d → i = (p.length : Int) → p.length + d ≤ 400 → Ev (fun k => slices_symMergeCmpFunc_int_impl_BuildDisplacedc1.l3 k (p ++ (u ++ e :: (q ++ r))) i (i + (d : Int))) (p ++ e :: (u ++ (q ++ r))) := by
  intro d
  induction d with
  | zero =>
    intro u q i hu hi hl
    obtain rfl := List.length_eq_zero_iff.1 hu
    refine Ev.succ ?_
    simp only [slices_symMergeCmpFunc_int_impl_BuildDisplacedc1.l3, show ¬ (i + ((0 : Nat) : Int) > i) from by omega, ↓reduceIte]
    exact Ev.now _
  | succ d ih =>
    intro u q i hu hi hl
    obtain ⟨u', y, rfl⟩ : ∃ u' y, u = u' ++ [y] := ⟨u.dropLast, u.getLast (by intro h; subst h; cases hu), (List.dropLast_concat_getLast _).symm⟩
    have hu' : u'.length = d := by simpa using hu
    have w1 : wrap64 (i + ((d + 1 : Nat) : Int) - 1) = i + (d : Int) := by rw [w64 (by omega) (by omega)]; omega
    have hX : p ++ (u' ++ [y] ++ e :: (q ++ r)) = (p ++ u') ++ y :: ([] ++ e :: (q ++ r)) := by simp
    obtain ⟨t1, t2, t3, t4⟩ := trade (p ++ u') y [] e (q ++ r) (i + (d : Int)) (i + ((d + 1 : Nat) : Int)) (by simp; omega) (by simp; omega)
    rw [← hX] at t1 t2 t3 t4
    have hlen : ((p ++ (u' ++ [y] ++ e :: (q ++ r))).length : Int) = (p.length : Int) + (u'.length : Int) + 1 + 1 + (q.length : Int) + (r.length : Int) := by simp; omega
    refine Ev.succ ?_
    simp only [slices_symMergeCmpFunc_int_impl_BuildDisplacedc1.l3, w1, show i + ((d + 1 : Nat) : Int) > i from by omega, show 0 ≤ i + (d : Int) from by omega, show i + (d : Int) < ((p ++ (u' ++ [y] ++ e :: (q ++ r))).length : Int) from by omega, show 0 ≤ i + ((d + 1 : Nat) : Int) from by omega, show i + ((d + 1 : Nat) : Int) < ((p ++ (u' ++ [y] ++ e :: (q ++ r))).length : Int) from by omega, ↓reduceIte, t1, t2, t4]
    have h := ih u' (y :: q) i hu' hi (by omega)
    simpa using h
theorem pw_get {L : List (List Int)} {l : List Int} (h : l.Pairwise (Tb L)) (i j : Nat) (hj : j < l.length) (hij : i ≤ j) : lenB L l[j] ≤ lenB L (l[i]'(by omega)) := by
  by_cases e : i = j
  · subst e
    exact Int.le_refl _
  · have := List.pairwise_iff_getElem.1 h i j (by omega) hj (by omega)
    unfold Tb at this
    omega
theorem rd_u (p u v r : List Int) (i : Nat) (h : i < u.length) (c : Int) (hc : c = (p.length : Int) + (i : Int)) : rd (p ++ (u ++ (v ++ r))) c = u[i] := rd_at p u (v ++ r) i h c hc
theorem rd_v (p u v r : List Int) (i : Nat) (h : i < v.length) (c : Int) (hc : c = (p.length : Int) + (u.length : Int) + (i : Int)) : rd (p ++ (u ++ (v ++ r))) c = v[i] := by
  rw [show p ++ (u ++ (v ++ r)) = (p ++ u) ++ (v ++ r) from by simp]
  exact rd_at (p ++ u) v r i h c (by simp; omega)
/-- A merge of one element from the left. -/
theorem sym_one_left (L : List (List Int)) (e : Int) (v p r : List Int) (hv : v.Pairwise (Tb L)) (hc : ∀ y ∈ v, lenB L e = lenB L y → e < y) (hin : InB L (p ++ (e :: (v ++ r)))) (hl : (p ++ (e :: (v ++ r))).length ≤ 200) (a m b : Int) (ha : a = (p.length : Int)) (hm : m = a + 1) (hb : b = m + (v.length : Int)) :
    ∃ s, s.Perm (e :: v) ∧ s.Pairwise (Tb L) ∧ Ev (fun k => slices_symMergeCmpFunc_int_impl_BuildDisplacedc1.l0 k (p ++ (e :: (v ++ r))) a m b L) (p ++ (s ++ r)) := by
  have hlen : ((p ++ (e :: (v ++ r))).length : Int) = (p.length : Int) + 1 + (v.length : Int) + (r.length : Int) := by simp; omega
  have hX : p ++ (e :: (v ++ r)) = p ++ ([e] ++ (v ++ r)) := by simp
  have he : rd (p ++ (e :: (v ++ r))) a = e := rd_mid p e (v ++ r) a ha
  have hvk : ∀ (k : Nat) (h : k < v.length) (c : Int), c = m + (k : Int) → rd (p ++ (e :: (v ++ r))) c = v[k] := fun k h c hc => by
    rw [hX]
    exact rd_v p [e] v r k h c (by simp; omega)
  obtain ⟨t, t0, t1, t2, t3, t4⟩ := sym_s1 L (p ++ (e :: (v ++ r))) (atB_of hin) (by omega) a m b (by omega) (by omega) (by omega) (by omega) (by
    intro c c' h1 h2 h3 h4
    rw [he] at h4 ⊢
    rw [hvk (c' - m).toNat (by omega) c' (by omega)] at h4
    rw [hvk (c - m).toNat (by omega) c (by omega)]
    have := pw_get hv (c - m).toNat (c' - m).toNat (by omega) (by omega)
    omega)
  obtain ⟨n, rfl⟩ : ∃ n : Nat, t = m + (n : Int) := ⟨(t - m).toNat, by omega⟩
  have hn : n ≤ v.length := by omega
  have h1 : ∀ y ∈ v.take n, Tb L y e := by
    intro y hy
    obtain ⟨i, hi, rfl⟩ := List.mem_take_iff_getElem.1 hy
    have := t2 (m + (i : Int)) (by omega) (by omega)
    rw [he, hvk i (by omega) _ rfl] at this
    exact Or.inl this
  have h2 : ∀ y ∈ v.drop n, Tb L e y := by
    intro y hy
    obtain ⟨i, hi, rfl⟩ := List.mem_drop_iff_getElem.1 hy
    have := t3 (m + ((n + i : Nat) : Int)) (by omega) (by omega)
    rw [he, hvk (n + i) (by omega) _ rfl] at this
    have hlt := hc v[n + i] (List.getElem_mem _)
    unfold Tb
    omega
  have hv3 := List.take_append_drop n v
  have hv1 : (v.take n).length = n := by rw [List.length_take]; omega
  generalize v.take n = v1 at *
  generalize v.drop n = v2 at *
  subst hv3
  rw [List.pairwise_append] at hv
  refine ⟨v1 ++ e :: v2, List.perm_middle, ?_, t4 _ ?_⟩
  · rw [List.pairwise_append, List.pairwise_cons]
    refine ⟨hv.1, ⟨h2, hv.2.1⟩, fun x hx y hy => ?_⟩
    rcases List.mem_cons.1 hy with rfl | hy
    · exact h1 x hx
    · exact hv.2.2 x hx y hy
  · have e1 := sym_l1 (v2 ++ r) e v1.length v1 p (m + (n : Int)) rfl (by omega) (by simp at hl; omega)
    rw [← ha] at e1
    simpa using e1
/-- A merge of one element from the right. -/
theorem sym_one_right (L : List (List Int)) (e : Int) (u p r : List Int) (hu : u.Pairwise (Tb L)) (hc : ∀ x ∈ u, lenB L x = lenB L e → x < e) (hin : InB L (p ++ (u ++ (e :: r)))) (hl : (p ++ (u ++ (e :: r))).length ≤ 200) (a m : Int) (ha : a = (p.length : Int)) (hm : m = a + (u.length : Int)) :
    ∃ s, s.Perm (u ++ [e]) ∧ s.Pairwise (Tb L) ∧ Ev (fun k => slices_symMergeCmpFunc_int_impl_BuildDisplacedc1.l2 k (p ++ (u ++ (e :: r))) m a m L) (p ++ (s ++ r)) := by
  have hlen : ((p ++ (u ++ (e :: r))).length : Int) = (p.length : Int) + (u.length : Int) + 1 + (r.length : Int) := by simp; omega
  have hX : p ++ (u ++ (e :: r)) = p ++ (u ++ ([e] ++ r)) := by simp
  have he : rd (p ++ (u ++ (e :: r))) m = e := by
    rw [show p ++ (u ++ (e :: r)) = (p ++ u) ++ e :: r from by simp]
    exact rd_mid _ e r m (by simp; omega)
  have huk : ∀ (k : Nat) (h : k < u.length) (c : Int), c = a + (k : Int) → rd (p ++ (u ++ (e :: r))) c = u[k] := fun k h c hc => by
    rw [hX]
    exact rd_u p u [e] r k h c (by omega)
  obtain ⟨t, t0, t1, t2, t3, t4⟩ := sym_s2 L (p ++ (u ++ (e :: r))) (atB_of hin) (by omega) m a m (by omega) (by omega) (by omega) (by omega) (by
    intro c c' h1 h2 h3 h4
    rw [he] at h4 ⊢
    rw [huk (c' - a).toNat (by omega) c' (by omega)] at h4
    rw [huk (c - a).toNat (by omega) c (by omega)]
    have := pw_get hu (c - a).toNat (c' - a).toNat (by omega) (by omega)
    omega)
  obtain ⟨n, rfl⟩ : ∃ n : Nat, t = a + (n : Int) := ⟨(t - a).toNat, by omega⟩
  have hn : n ≤ u.length := by omega
  have h1 : ∀ y ∈ u.take n, Tb L y e := by
    intro y hy
    obtain ⟨i, hi, rfl⟩ := List.mem_take_iff_getElem.1 hy
    have := t2 (a + (i : Int)) (by omega) (by omega)
    rw [he, huk i (by omega) _ rfl] at this
    have hlt := hc u[i] (List.getElem_mem _)
    unfold Tb
    omega
  have h2 : ∀ y ∈ u.drop n, Tb L e y := by
    intro y hy
    obtain ⟨i, hi, rfl⟩ := List.mem_drop_iff_getElem.1 hy
    have := t3 (a + ((n + i : Nat) : Int)) (by omega) (by omega)
    rw [he, huk (n + i) (by omega) _ rfl] at this
    exact Or.inl (Decidable.not_not.1 this)
  have hv3 := List.take_append_drop n u
  have hv1 : (u.take n).length = n := by rw [List.length_take]; omega
  generalize u.take n = u1 at *
  generalize u.drop n = u2 at *
  subst hv3
  rw [List.pairwise_append] at hu
  refine ⟨u1 ++ e :: u2, ?_, ?_, t4 _ ?_⟩
  · exact List.perm_middle.trans (List.perm_append_singleton e (u1 ++ u2)).symm
  · rw [List.pairwise_append, List.pairwise_cons]
    refine ⟨hu.1, ⟨h2, hu.2.1⟩, fun x hx y hy => ?_⟩
    rcases List.mem_cons.1 hy with rfl | hy
    · exact h1 x hx
    · exact hu.2.2 x hx y hy
  · have e1 := sym_l3 (p ++ u1) r e u2.length u2 [] (a + (n : Int)) rfl (by simp; omega) (by simp at hl ⊢; omega)
    rw [show a + (n : Int) + (u2.length : Int) = m from by simp at hm; omega] at e1
    simpa using e1
/-- A stretch that a recursion may sort. -/
theorem sym_rec (L : List (List Int)) (u v p r : List Int) (c : Prop) [Decidable c] (hu : u.Pairwise (Tb L)) (hv : v.Pairwise (Tb L)) (hc : ∀ x ∈ u, ∀ y ∈ v, lenB L x = lenB L y → x < y) (a m b : Int)
    (hcond : c ↔ 0 < u.length ∧ 0 < v.length)
    (ih : 0 < u.length → 0 < v.length → ∃ s, s.Perm (u ++ v) ∧ s.Pairwise (Tb L) ∧ Ev (fun k => slices_symMergeCmpFunc_int_impl_BuildDisplacedc1.f k (p ++ (u ++ (v ++ r))) a m b L) (p ++ (s ++ r))) :
    ∃ s, s.Perm (u ++ v) ∧ s.Pairwise (Tb L) ∧ (c → Ev (fun k => slices_symMergeCmpFunc_int_impl_BuildDisplacedc1.f k (p ++ (u ++ (v ++ r))) a m b L) (p ++ (s ++ r))) ∧ (¬ c → s = u ++ v) := by
  by_cases h : c
  · obtain ⟨s, s1, s2, s3⟩ := ih (hcond.1 h).1 (hcond.1 h).2
    exact ⟨s, s1, s2, fun _ => s3, fun hn => absurd h hn⟩
  · refine ⟨u ++ v, List.Perm.refl _, ?_, fun hn => absurd hn h, fun _ => rfl⟩
    by_cases e : u = []
    · subst e
      simpa using hv
    · by_cases e2 : v = []
      · subst e2
        simpa using hu
      · exact absurd (hcond.2 ⟨List.length_pos_iff.2 e, List.length_pos_iff.2 e2⟩) h
/-- Behind the search: the rotation and the two recursions. -/
theorem sym_tail (L : List (List Int)) (p u1 u2 v1 v2 r s1 s2 : List Int) (a m b mid n t : Int) (ha : a = (p.length : Int)) (ht : t = a + (u1.length : Int)) (hm : m = t + (u2.length : Int)) (hb : b = m + (v1.length : Int) + (v2.length : Int)) (hmid : mid = t + (v1.length : Int)) (hn : n = mid + m) (hl : p.length + u1.length + u2.length + v1.length + v2.length ≤ 200)
    (h1 : a < t ∧ t < mid → Ev (fun k => slices_symMergeCmpFunc_int_impl_BuildDisplacedc1.f k (p ++ (u1 ++ (v1 ++ (u2 ++ (v2 ++ r))))) a t mid L) (p ++ (s1 ++ (u2 ++ (v2 ++ r))))) (h1n : ¬ (a < t ∧ t < mid) → s1 = u1 ++ v1)
    (h2 : mid < n - t ∧ n - t < b → Ev (fun k => slices_symMergeCmpFunc_int_impl_BuildDisplacedc1.f k ((p ++ s1) ++ (u2 ++ (v2 ++ r))) mid (n - t) b L) ((p ++ s1) ++ (s2 ++ r))) (h2n : ¬ (mid < n - t ∧ n - t < b) → s2 = u2 ++ v2) :
    Ev (fun k => symK k (p ++ ((u1 ++ u2) ++ ((v1 ++ v2) ++ r))) a m b mid n t L) (p ++ ((s1 ++ s2) ++ r)) := by
  have w1 : wrap64 (n - t) = n - t := w64 (by omega) (by omega)
  -- the second recursion
  have E2 : Ev (fun k => if mid < n - t then (if n - t < b then ((slices_symMergeCmpFunc_int_impl_BuildDisplacedc1.f k (p ++ (s1 ++ (u2 ++ (v2 ++ r)))) mid (n - t) b L).bind fun t237 => (some t237)) else (some (p ++ (s1 ++ (u2 ++ (v2 ++ r)))))) else (some (p ++ (s1 ++ (u2 ++ (v2 ++ r)))))) (p ++ ((s1 ++ s2) ++ r)) := by
    by_cases c : mid < n - t
    · simp only [c, ↓reduceIte]
      by_cases d : n - t < b
      · simp only [d, ↓reduceIte]
        have e := h2 ⟨c, d⟩
        refine Ev.bind (a := p ++ ((s1 ++ s2) ++ r)) (by simpa using e) (Ev.now _)
      · simp only [d, ↓reduceIte]
        rw [h2n (fun h => d h.2)]
        exact Ev.some_ (by simp)
    · simp only [c, ↓reduceIte]
      rw [h2n (fun h => c h.1)]
      exact Ev.some_ (by simp)
  -- both recursions
  have E1 : Ev (fun k => slices_symMergeCmpFunc_int_impl_BuildDisplacedc1.j7 k (p ++ (u1 ++ (v1 ++ (u2 ++ (v2 ++ r))))) a b mid t (n - t) L) (p ++ ((s1 ++ s2) ++ r)) := by
    refine Ev.succ ?_
    by_cases c : a < t ∧ t < mid
    · simp only [slices_symMergeCmpFunc_int_impl_BuildDisplacedc1.j7, c.1, c.2, decide_true, ↓reduceIte]
      refine Ev.succ ?_
      simp only [slices_symMergeCmpFunc_int_impl_BuildDisplacedc1.j8, ↓reduceIte]
      exact Ev.bind (h1 c) E2
    · have hs := h1n c
      have hf : Ev (fun k => slices_symMergeCmpFunc_int_impl_BuildDisplacedc1.j8 k (p ++ (u1 ++ (v1 ++ (u2 ++ (v2 ++ r))))) a b mid t (n - t) false L) (p ++ ((s1 ++ s2) ++ r)) := by
        refine Ev.succ ?_
        simp only [slices_symMergeCmpFunc_int_impl_BuildDisplacedc1.j8, Bool.false_eq_true, ↓reduceIte]
        rw [hs] at E2 ⊢
        simpa using E2
      by_cases d : a < t
      · have d' : ¬ t < mid := fun h => c ⟨d, h⟩
        simp only [slices_symMergeCmpFunc_int_impl_BuildDisplacedc1.j7, d, d', decide_false, ↓reduceIte]
        exact hf
      · simp only [slices_symMergeCmpFunc_int_impl_BuildDisplacedc1.j7, d, ↓reduceIte]
        exact hf
  unfold symK
  rw [w1]
  by_cases c : t < m ∧ m < n - t
  · simp only [c.1, c.2, decide_true, ↓reduceIte]
    refine Ev.succ ?_
    simp only [slices_symMergeCmpFunc_int_impl_BuildDisplacedc1.j6, ↓reduceIte]
    have e := rot_f L (p ++ u1) u2 v1 (v2 ++ r) t m (n - t) (by simp; omega) (by omega) (by omega) (by omega) (by omega) (by simp; omega)
    refine Ev.bind (a := p ++ (u1 ++ (v1 ++ (u2 ++ (v2 ++ r))))) (by simpa using e) E1
  · have hsame : p ++ ((u1 ++ u2) ++ ((v1 ++ v2) ++ r)) = p ++ (u1 ++ (v1 ++ (u2 ++ (v2 ++ r)))) := by
      by_cases d : u2.length = 0
      · obtain rfl := List.length_eq_zero_iff.1 d
        simp
      · have d2 : v1.length = 0 := by omega
        obtain rfl := List.length_eq_zero_iff.1 d2
        simp
    have hf : Ev (fun k => slices_symMergeCmpFunc_int_impl_BuildDisplacedc1.j6 k (p ++ ((u1 ++ u2) ++ ((v1 ++ v2) ++ r))) a m b mid t (n - t) false L) (p ++ ((s1 ++ s2) ++ r)) := by
      refine Ev.succ ?_
      simp only [slices_symMergeCmpFunc_int_impl_BuildDisplacedc1.j6, Bool.false_eq_true, ↓reduceIte]
      rw [hsame]
      exact E1
    by_cases d : t < m
    · have d' : ¬ m < n - t := fun h => c ⟨d, h⟩
      simp only [d, d', decide_false, ↓reduceIte]
      exact hf
    · simp only [d, ↓reduceIte]
      exact hf
theorem sym_f (L : List (List Int)) : ∀ (N : Nat) (u v p r : List Int) (a m b : Int), u.length + v.length ≤ N → 0 < u.length → 0 < v.length → u.Pairwise (Tb L) → v.Pairwise (Tb L) → (∀ x ∈ u, ∀ y ∈ v, lenB L x = lenB L y → x < y) → InB L (p ++ (u ++ (v ++ r))) → (p ++ (u ++ (v ++ r))).length ≤ 200 → a = (p.length : Int) → m = a + (u.length : Int) → b = m + (v.length : Int) →
    ∃ s, s.Perm (u ++ v) ∧ s.Pairwise (Tb L) ∧ Ev (fun k => slices_symMergeCmpFunc_int_impl_BuildDisplacedc1.f k (p ++ (u ++ (v ++ r))) a m b L) (p ++ (s ++ r)) := by
  intro N
  induction N with
  | zero => intro u v p r a m b h hu hv; omega
  | succ N ih =>
    intro u v p r a m b h hu hv pu pv hc hin hl ha hm hb
    have hlen : ((p ++ (u ++ (v ++ r))).length : Int) = (p.length : Int) + (u.length : Int) + (v.length : Int) + (r.length : Int) := by simp; omega
    have w1 : wrap64 (m - a) = m - a := w64 (by omega) (by omega)
    have w2 : wrap64 (b - m) = b - m := w64 (by omega) (by omega)
    by_cases c1 : u.length = 1
    · obtain ⟨e, rfl⟩ := List.length_eq_one_iff.1 c1
      obtain ⟨s, s1, s2, s3⟩ := sym_one_left L e v p r pv (fun y hy => hc e (by simp) y hy) (by simpa using hin) (by simpa using hl) a m b ha (by simp at hm; exact hm) hb
      refine ⟨s, by simpa using s1, s2, ?_⟩
      refine Ev.succ ?_
      have g1 : wrap64 (m - a) = 1 := by rw [w1]; simp at hm; omega
      simp only [slices_symMergeCmpFunc_int_impl_BuildDisplacedc1.f, g1, ↓reduceIte]
      simpa using s3
    by_cases c2 : v.length = 1
    · obtain ⟨e, rfl⟩ := List.length_eq_one_iff.1 c2
      obtain ⟨s, s1, s2, s3⟩ := sym_one_right L e u p r pu (fun x hx => hc x hx e (by simp)) (by simpa using hin) (by simpa using hl) a m ha hm
      refine ⟨s, by simpa using s1, s2, ?_⟩
      refine Ev.succ ?_
      have g1 : ¬ (m - a = 1) := by omega
      have g2 : wrap64 (b - m) = 1 := by rw [w2]; simp at hb; omega
      simp only [slices_symMergeCmpFunc_int_impl_BuildDisplacedc1.f, w1, g1, g2, ↓reduceIte]
      simpa using s3
    -- two halves
    obtain ⟨mid, hmid⟩ : ∃ mid, mid = (a + b) / 2 := ⟨_, rfl⟩
    obtain ⟨n, hn⟩ : ∃ n, n = mid + m := ⟨_, rfl⟩
    have hh : wrap64 ((IntKind.u64.wrap (wrap64 (a + b))) / 2) = mid := by rw [half a b (by omega) (by omega) (by omega), hmid]
    have w3 : wrap64 (mid + m) = n := by rw [hn]; exact w64 (by omega) (by omega)
    have w4 : wrap64 (n - b) = n - b := w64 (by omega) (by omega)
    have w5 : wrap64 (n - 1) = n - 1 := w64 (by omega) (by omega)
    obtain ⟨s0, r0, hgt, hle⟩ : ∃ s0 r0 : Int, (m > mid → s0 = n - b ∧ r0 = mid) ∧ (¬ m > mid → s0 = a ∧ r0 = m) := by
      by_cases c : m > mid
      · exact ⟨n - b, mid, fun _ => ⟨rfl, rfl⟩, fun h => absurd c h⟩
      · exact ⟨a, m, fun h => absurd h c, fun _ => ⟨rfl, rfl⟩⟩
    have hbegin : ∀ R, Ev (fun k => slices_symMergeCmpFunc_int_impl_BuildDisplacedc1.l4 k (p ++ (u ++ (v ++ r))) a m b mid n s0 r0 (n - 1) L) R → Ev (fun k => slices_symMergeCmpFunc_int_impl_BuildDisplacedc1.f k (p ++ (u ++ (v ++ r))) a m b L) R := by
      intro R hR
      refine Ev.succ ?_
      have g1 : ¬ (m - a = 1) := by omega
      have g2 : ¬ (b - m = 1) := by omega
      simp only [slices_symMergeCmpFunc_int_impl_BuildDisplacedc1.f, w1, w2, g1, g2, ↓reduceIte, hh, w3, w4]
      by_cases c : m > mid
      · simp only [c, ↓reduceIte]
        refine Ev.succ ?_
        simp only [slices_symMergeCmpFunc_int_impl_BuildDisplacedc1.j4, w5]
        rw [(hgt c).1, (hgt c).2] at hR
        exact hR
      · simp only [c, ↓reduceIte]
        refine Ev.succ ?_
        simp only [slices_symMergeCmpFunc_int_impl_BuildDisplacedc1.j4, w5]
        rw [(hle c).1, (hle c).2] at hR
        exact hR
    have hpos : 0 ≤ (p.length : Int) := by omega
    have hs0 : a ≤ s0 ∧ s0 ≤ r0 ∧ r0 ≤ m ∧ r0 ≤ mid ∧ n - s0 ≤ b := by
      by_cases c : m > mid
      · have := hgt c; omega
      · have := hle c; omega
    have huk : ∀ (k : Nat) (h : k < u.length) (c : Int), c = a + (k : Int) → rd (p ++ (u ++ (v ++ r))) c = u[k] := fun k h c hc => rd_u p u v r k h c (by omega)
    have hvk : ∀ (k : Nat) (h : k < v.length) (c : Int), c = m + (k : Int) → rd (p ++ (u ++ (v ++ r))) c = v[k] := fun k h c hc => rd_v p u v r k h c (by omega)
    obtain ⟨t, t0, t1, t2, t3, t4⟩ := sym_s4 L (p ++ (u ++ (v ++ r))) (atB_of hin) (by omega) a m b mid n s0 r0 (by omega) (by omega) (by omega) (by omega) (by omega) (by omega) (by
      intro c c' h1 h2 h3 h4
      rw [huk (c' - a).toNat (by omega) c' (by omega), hvk (n - 1 - c' - m).toNat (by omega) (n - 1 - c') (by omega)] at h4
      rw [huk (c - a).toNat (by omega) c (by omega), hvk (n - 1 - c - m).toNat (by omega) (n - 1 - c) (by omega)]
      have q1 := pw_get pu (c - a).toNat (c' - a).toNat (by omega) (by omega)
      have q2 := pw_get pv (n - 1 - c' - m).toNat (n - 1 - c - m).toNat (by omega) (by omega)
      omega)
    obtain ⟨k1, hk1⟩ : ∃ k1 : Nat, t = a + (k1 : Int) := ⟨(t - a).toNat, by omega⟩
    obtain ⟨k2, hk2⟩ : ∃ k2 : Nat, mid = t + (k2 : Int) := ⟨(mid - t).toNat, by omega⟩
    have hk1u : k1 ≤ u.length := by omega
    have hk2v : k2 ≤ v.length := by omega
    have h12 : ∀ x ∈ u.take k1, ∀ y ∈ v.drop k2, Tb L x y := by
      intro x hx y hy
      obtain ⟨i, hi, rfl⟩ := List.mem_take_iff_getElem.1 hx
      obtain ⟨j, hj, rfl⟩ := List.mem_drop_iff_getElem.1 hy
      have hlt := hc u[i] (List.getElem_mem _) v[k2 + j] (List.getElem_mem _)
      by_cases e : t = s0
      · exfalso
        by_cases c : m > mid
        · have := hgt c; omega
        · have := hle c; omega
      · have q := t2 (t - 1) (by omega) (by omega)
        rw [huk (k1 - 1) (by omega) (t - 1) (by omega), hvk k2 (by omega) (n - 1 - (t - 1)) (by omega)] at q
        have q1 := pw_get pu i (k1 - 1) (by omega) (by omega)
        have q2 := pw_get pv k2 (k2 + j) (by omega) (by omega)
        unfold Tb
        omega
    have h21 : ∀ x ∈ v.take k2, ∀ y ∈ u.drop k1, Tb L x y := by
      intro x hx y hy
      obtain ⟨j, hj, rfl⟩ := List.mem_take_iff_getElem.1 hx
      obtain ⟨i, hi, rfl⟩ := List.mem_drop_iff_getElem.1 hy
      by_cases e : t = r0
      · exfalso
        by_cases c : m > mid
        · have := hgt c; omega
        · have := hle c; omega
      · have q := Decidable.not_not.1 (t3 t (by omega) (by omega))
        rw [huk k1 (by omega) t (by omega), hvk (k2 - 1) (by omega) (n - 1 - t) (by omega)] at q
        have q1 := pw_get pu k1 (k1 + i) (by omega) (by omega)
        have q2 := pw_get pv j (k2 - 1) (by omega) (by omega)
        exact Or.inl (by omega)
    have hu3 := List.take_append_drop k1 u
    have hu1 : (u.take k1).length = k1 := by rw [List.length_take]; omega
    have hv3 := List.take_append_drop k2 v
    have hv1 : (v.take k2).length = k2 := by rw [List.length_take]; omega
    have hu2 : (u.drop k1).length = u.length - k1 := List.length_drop
    have hv2 : (v.drop k2).length = v.length - k2 := List.length_drop
    clear huk hvk t2 t3
    generalize u.take k1 = u1 at *
    generalize u.drop k1 = u2 at *
    generalize v.take k2 = v1 at *
    generalize v.drop k2 = v2 at *
    subst hu3
    subst hv3
    have pu' := List.pairwise_append.1 pu
    have pv' := List.pairwise_append.1 pv
    obtain ⟨s1, a1, a2, a3, a4⟩ := sym_rec L u1 v1 p (u2 ++ (v2 ++ r)) (a < t ∧ t < mid) pu'.1 pv'.1 (fun x hx y hy => hc x (by simp [hx]) y (by simp [hy])) a t mid (by omega) (fun z1 z2 => ih u1 v1 p (u2 ++ (v2 ++ r)) a t mid (by omega) z1 z2 pu'.1 pv'.1 (fun x hx y hy => hc x (by simp [hx]) y (by simp [hy])) (by
      intro x hx
      refine hin x ?_
      simp only [List.mem_append] at hx ⊢
      rcases hx with h | h | h | h | h | h <;> simp [h]) (by simp at hl ⊢; omega) ha (by omega) (by omega))
    have hs1 : s1.length = u1.length + v1.length := by rw [a1.length_eq]; simp
    have hm1 : ∀ x, x ∈ s1 ↔ x ∈ u1 ∨ x ∈ v1 := fun x => by rw [a1.mem_iff]; simp
    obtain ⟨s2, b1, b2, b3, b4⟩ := sym_rec L u2 v2 (p ++ s1) r (mid < n - t ∧ n - t < b) pu'.2.1 pv'.2.1 (fun x hx y hy => hc x (by simp [hx]) y (by simp [hy])) mid (n - t) b (by simp at hb hm; omega) (fun z1 z2 => ih u2 v2 (p ++ s1) r mid (n - t) b (by simp at h; omega) z1 z2 pu'.2.1 pv'.2.1 (fun x hx y hy => hc x (by simp [hx]) y (by simp [hy])) (by
      intro x hx
      refine hin x ?_
      simp only [List.mem_append, hm1] at hx ⊢
      rcases hx with (h | h | h) | h | h | h <;> simp [h]) (by simp at hl ⊢; omega) (by simp; omega) (by simp at hb hm; omega) (by simp at hb hm; omega))
    have hm2 : ∀ x, x ∈ s2 ↔ x ∈ u2 ∨ x ∈ v2 := fun x => by rw [b1.mem_iff]; simp
    refine ⟨s1 ++ s2, ?_, ?_, hbegin _ (t4 _ ?_)⟩
    · refine (a1.append b1).trans ?_
      rw [List.append_assoc, List.append_assoc]
      refine List.Perm.append_left u1 ?_
      rw [← List.append_assoc, ← List.append_assoc]
      exact List.Perm.append_right v2 List.perm_append_comm
    · rw [List.pairwise_append]
      refine ⟨a2, b2, fun x hx y hy => ?_⟩
      rcases (hm1 x).1 hx with h | h
      · rcases (hm2 y).1 hy with g | g
        · exact pu'.2.2 x h y g
        · exact h12 x h y g
      · rcases (hm2 y).1 hy with g | g
        · exact h21 x h y g
        · exact pv'.2.2 x h y g
    · exact sym_tail L p u1 u2 v1 v2 r s1 s2 a m b mid n t ha (by omega) (by simp at hm; omega) (by simp at hb; omega) (by omega) hn (by simp at hl; omega) a3 a4 b3 b4
theorem spec_pow (h : Int) (h0 : 0 ≤ h) (h1 : h < 65521) : Int.tmod (wrap64 ((Int.tmod (wrap64 ((Int.tmod (wrap64 ((Int.tmod (wrap64 ((Int.tmod (wrap64 (h * h)) 65521) * (Int.tmod (wrap64 (h * h)) 65521))) 65521) * h)) 65521) * (Int.tmod (wrap64 ((Int.tmod (wrap64 ((Int.tmod (wrap64 (h * h)) 65521) * (Int.tmod (wrap64 (h * h)) 65521))) 65521) * h)) 65521))) 65521) * h)) 65521 = h ^ 11 % 65521 := by
  have step : ∀ a b : Int, 0 ≤ a → a < 65521 → 0 ≤ b → b < 65521 → Int.tmod (wrap64 (a * b)) 65521 = a * b % 65521 := by
    intro a b ha ha' hb hb'
    obtain ⟨p0, p1⟩ := prod_range ha ha' hb hb'
    rw [w64 (by omega) (by omega), tmod_pos p0]
  have rng : ∀ x : Int, 0 ≤ x % 65521 ∧ x % 65521 < 65521 := fun x => ⟨Int.emod_nonneg _ (by decide), Int.emod_lt_of_pos _ (by decide)⟩
  rw [step h h h0 h1 h0 h1]
  rw [step _ _ (rng _).1 (rng _).2 (rng _).1 (rng _).2]
  rw [step _ _ (rng _).1 (rng _).2 h0 h1]
  rw [step _ _ (rng _).1 (rng _).2 (rng _).1 (rng _).2]
  rw [step _ _ (rng _).1 (rng _).2 h0 h1]
  simp only [mul_mod_l, mul_mod_r]
  congr 1
  simp only [Int.pow_succ, Int.pow_zero, Int.one_mul, Int.mul_assoc]
theorem spec_biHash_l0 (s : ByteArray) (hs : s.size ≤ 9223372036854775807) (d : Nat) : ∀ (i : Nat) (h : Int), i + d = s.size → 0 ≤ h → h < 65521 → Ev (fun k => spec_biHash.l0 k s h (i : Int)) (hashFrom h ((bytesOf s).drop i)) := by
  induction d with
  | zero =>
    intro i h hi h0 h1
    refine Ev.succ ?_
    have c1 : ¬ ((i : Int) < (s.size : Int)) := by omega
    simp only [spec_biHash.l0, c1, ↓reduceIte]
    rw [spec_pow h h0 h1]
    exact Ev.some_ (by rw [List.drop_of_length_le (by rw [bytesOf_length]; omega)]; rfl)
  | succ d ih =>
    intro i h hi h0 h1
    refine Ev.succ ?_
    have c1 : (i : Int) < (s.size : Int) := by omega
    have c2 : (0 : Int) ≤ (i : Int) := by omega
    have hw : wrap64 ((i : Int) + 1) = ((i + 1 : Nat) : Int) := by rw [w64 (by omega) (by omega)]; rfl
    have hb := bt_nat s i (by omega)
    have hr := bt_range s i
    have e : Int.tmod (wrap64 ((wrap64 (263 * h)) + (wrap64 (bt s i)))) 65521 = hstep h (bt s i) := by
      rw [w64 (n := 263 * h) (by omega) (by omega), w64 (n := bt s i) (by omega) (by omega), w64 (by omega) (by omega), tmod_pos (by omega)]
      rfl
    simp only [spec_biHash.l0, c1, c2, ↓reduceIte, hw, e]
    rw [drop_cons _ _ (by rw [bytesOf_length]; omega), ← hb]
    exact ih (i + 1) (hstep h (bt s i)) (by omega) (Int.emod_nonneg _ (by decide)) (Int.emod_lt_of_pos _ (by decide))
theorem spec_biHash_ev (a b : Int) (s : ByteArray) (hs : s.size ≤ 9223372036854775807) (ha0 : 0 ≤ a) (ha1 : a ≤ 9999) (hb0 : 0 ≤ b) (hb1 : b ≤ 9) : Ev (fun k => spec_biHash.f k a b s) (hashV a b s) := by
  have e : Int.tmod (wrap64 ((wrap64 ((wrap64 (31 * a)) + (wrap64 (977 * b)))) + 7)) 65521 = hash0 a b := by
    rw [w64 (n := 31 * a) (by omega) (by omega), w64 (n := 977 * b) (by omega) (by omega), w64 (n := 31 * a + 977 * b) (by omega) (by omega), w64 (by omega) (by omega), tmod_pos (by omega)]
    rfl
  unfold spec_biHash.f
  simp only [e]
  exact spec_biHash_l0 s hs s.size 0 (hash0 a b) (by omega) (Int.emod_nonneg _ (by decide)) (Int.emod_lt_of_pos _ (by decide))
theorem spec_biPlace_ev (a b : Int) (s : ByteArray) (n : Int) (hs : s.size ≤ 9223372036854775807) (ha0 : 0 ≤ a) (ha1 : a ≤ 9999) (hb0 : 0 ≤ b) (hb1 : b ≤ 9) (hn0 : 0 ≤ n) (hn1 : n ≤ 65521) : Ev (fun k => spec_biPlace.f k a b s n) (placeV a b s n) := by
  have hr := hash_range a b s
  have p0 : 0 ≤ hashV a b s * n := Int.mul_nonneg hr.1 hn0
  have p1 : hashV a b s * n ≤ 4293001441 := by
    have h1 : hashV a b s * n ≤ hashV a b s * 65521 := Int.mul_le_mul_of_nonneg_left (by omega) hr.1
    omega
  unfold spec_biPlace.f
  refine Ev.bind (spec_biHash_ev a b s hs ha0 ha1 hb0 hb1) ?_
  refine Ev.some_ ?_
  have h2 : hashV a b s * n / 65521 ≤ hashV a b s * n := Int.ediv_le_self _ p0
  have h3 : 0 ≤ hashV a b s * n / 65521 := Int.ediv_nonneg p0 (by decide)
  rw [w64 (n := hashV a b s * n) (by omega) (by omega), tdiv_pos p0, w64 (by omega) (by omega)]
  rfl
theorem impl_hash_l1 (h : Int) (h0 : 0 ≤ h) (h1 : h < 65521) (d : Nat) : ∀ (i : Nat) (o : Int), i + d = 11 → o = h ^ i % 65521 → Ev (fun k => impl_hash.l1 k h o (i : Int)) (h ^ 11 % 65521) := by
  induction d with
  | zero =>
    intro i o hi ho
    obtain rfl : i = 11 := by omega
    refine Ev.succ ?_
    simp only [impl_hash.l1]
    exact Ev.some_ ho
  | succ d ih =>
    intro i o hi ho
    refine Ev.succ ?_
    have c1 : (i : Int) < 11 := by omega
    have hw : wrap64 ((i : Int) + 1) = ((i + 1 : Nat) : Int) := by rw [w64 (by omega) (by omega)]; rfl
    have r : 0 ≤ o ∧ o < 65521 := by rw [ho]; exact ⟨Int.emod_nonneg _ (by decide), Int.emod_lt_of_pos _ (by decide)⟩
    obtain ⟨p0, p1⟩ := prod_range r.1 r.2 h0 h1
    have e : Int.tmod (wrap64 (o * h)) 65521 = h ^ (i + 1) % 65521 := by
      rw [w64 (by omega) (by omega), tmod_pos p0, ho, mul_mod_l, Int.pow_succ]
    simp only [impl_hash.l1, c1, ↓reduceIte, hw]
    exact ih (i + 1) _ (by omega) e
theorem impl_hash_l0 (s : ByteArray) (hs : s.size ≤ 9223372036854775807) (d : Nat) : ∀ (i : Nat) (h : Int), i + d = s.size → 0 ≤ h → h < 65521 → Ev (fun k => impl_hash.l0 k s h (s.size : Int) (i : Int)) (hashFrom h ((bytesOf s).drop i)) := by
  induction d with
  | zero =>
    intro i h hi h0 h1
    refine Ev.succ ?_
    have c1 : ¬ ((i : Int) < (s.size : Int)) := by omega
    simp only [impl_hash.l0, c1, ↓reduceIte]
    rw [List.drop_of_length_le (by rw [bytesOf_length]; omega)]
    exact impl_hash_l1 h h0 h1 11 0 1 (by omega) (by simp)
  | succ d ih =>
    intro i h hi h0 h1
    refine Ev.succ ?_
    have c1 : (i : Int) < (s.size : Int) := by omega
    have c2 : (0 : Int) ≤ (i : Int) := by omega
    have hw : wrap64 ((i : Int) + 1) = ((i + 1 : Nat) : Int) := by rw [w64 (by omega) (by omega)]; rfl
    have hb := bt_nat s i (by omega)
    have hr := bt_range s i
    have e : Int.tmod (wrap64 ((wrap64 (263 * h)) + (wrap64 (bt s i)))) 65521 = hstep h (bt s i) := by
      rw [w64 (n := 263 * h) (by omega) (by omega), w64 (n := bt s i) (by omega) (by omega), w64 (by omega) (by omega), tmod_pos (by omega)]
      rfl
    simp only [impl_hash.l0, c1, c2, ↓reduceIte, hw, e]
    rw [drop_cons _ _ (by rw [bytesOf_length]; omega), ← hb]
    exact ih (i + 1) (hstep h (bt s i)) (by omega) (Int.emod_nonneg _ (by decide)) (Int.emod_lt_of_pos _ (by decide))
theorem impl_hash_ev (a b : Int) (s : ByteArray) (hs : s.size ≤ 9223372036854775807) (ha0 : 0 ≤ a) (ha1 : a ≤ 9999) (hb0 : 0 ≤ b) (hb1 : b ≤ 9) : Ev (fun k => impl_hash.f k a b s) (hashV a b s) := by
  have e : Int.tmod (wrap64 ((wrap64 ((wrap64 (31 * a)) + (wrap64 (977 * b)))) + 7)) 65521 = hash0 a b := by
    rw [w64 (n := 31 * a) (by omega) (by omega), w64 (n := 977 * b) (by omega) (by omega), w64 (n := 31 * a + 977 * b) (by omega) (by omega), w64 (by omega) (by omega), tmod_pos (by omega)]
    rfl
  unfold impl_hash.f
  simp only [e]
  exact impl_hash_l0 s hs s.size 0 (hash0 a b) (by omega) (Int.emod_nonneg _ (by decide)) (Int.emod_lt_of_pos _ (by decide))
theorem impl_place_ev (a b : Int) (s : ByteArray) (n : Int) (hs : s.size ≤ 9223372036854775807) (ha0 : 0 ≤ a) (ha1 : a ≤ 9999) (hb0 : 0 ≤ b) (hb1 : b ≤ 9) (hn0 : 0 ≤ n) (hn1 : n ≤ 65521) : Ev (fun k => impl_place.f k a b s n) (placeV a b s n) := by
  have hr := hash_range a b s
  have p0 : 0 ≤ hashV a b s * n := Int.mul_nonneg hr.1 hn0
  have p1 : hashV a b s * n ≤ 4293001441 := by
    have h1 : hashV a b s * n ≤ hashV a b s * 65521 := Int.mul_le_mul_of_nonneg_left (by omega) hr.1
    omega
  unfold impl_place.f
  refine Ev.bind (impl_hash_ev a b s hs ha0 ha1 hb0 hb1) ?_
  refine Ev.some_ ?_
  have h2 : hashV a b s * n / 65521 ≤ hashV a b s * n := Int.ediv_le_self _ p0
  have h3 : 0 ≤ hashV a b s * n / 65521 := Int.ediv_nonneg p0 (by decide)
  rw [w64 (n := hashV a b s * n) (by omega) (by omega), tdiv_pos p0, w64 (by omega) (by omega)]
  rfl
theorem Tb_irrefl {L : List (List Int)} {x : Int} (h : Tb L x x) : False := by unfold Tb at h; omega
theorem pw_ext (L : List (List Int)) : ∀ (l1 l2 : List Int), l1.Pairwise (Tb L) → l2.Pairwise (Tb L) → (∀ x, x ∈ l1 ↔ x ∈ l2) → l1 = l2 := by
  intro l1
  induction l1 with
  | nil =>
    intro l2 h1 h2 hm
    cases l2 with
    | nil => rfl
    | cons b t => exact absurd ((hm b).2 (by simp)) (by simp)
  | cons a t1 ih =>
    intro l2 h1 h2 hm
    cases l2 with
    | nil => exact absurd ((hm a).1 (by simp)) (by simp)
    | cons b t2 =>
      rw [List.pairwise_cons] at h1 h2
      have e : a = b := by
        rcases List.mem_cons.1 ((hm a).1 (by simp)) with h | h
        · exact h
        · rcases List.mem_cons.1 ((hm b).2 (by simp)) with g | g
          · exact g.symm
          · exact Tb_asymm (h1.1 b g) (h2.1 a h)
      subst e
      congr 1
      refine ih t2 h1.2 h2.2 (fun x => ⟨fun hx => ?_, fun hx => ?_⟩)
      · rcases List.mem_cons.1 ((hm x).1 (by simp [hx])) with h | h
        · subst h
          exact (Tb_irrefl (h1.1 x hx)).elim
        · exact h
      · rcases List.mem_cons.1 ((hm x).2 (by simp [hx])) with h | h
        · subst h
          exact (Tb_irrefl (h2.1 x hx)).elim
        · exact h
def rangeI (n : Nat) : List Int := (List.range n).map fun i : Nat => (i : Int)
theorem rangeI_length (n : Nat) : (rangeI n).length = n := by simp [rangeI]
theorem rangeI_succ (n : Nat) : rangeI (n + 1) = rangeI n ++ [(n : Int)] := by simp [rangeI, List.range_succ]
theorem rangeI_mem (n : Nat) (x : Int) : x ∈ rangeI n ↔ 0 ≤ x ∧ x < (n : Int) := by
  unfold rangeI
  rw [List.mem_map]
  constructor
  · rintro ⟨i, hi, rfl⟩
    rw [List.mem_range] at hi
    omega
  · intro h
    exact ⟨x.toNat, by rw [List.mem_range]; omega, by omega⟩
theorem rangeI_lt (n : Nat) : (rangeI n).Pairwise (· < ·) := by
  unfold rangeI
  rw [List.pairwise_map]
  exact List.pairwise_lt_range.imp (fun h => by omega)
theorem stable_l1_end (L : List (List Int)) (X : List Int) (n x6 : Int) (h : ¬ x6 < n) : Ev (fun k => slices_stableCmpFunc_int_impl_BuildDisplacedc1.l1 k X n x6 L) X := by
  refine Ev.succ ?_
  simp only [slices_stableCmpFunc_int_impl_BuildDisplacedc1.l1, h, ↓reduceIte]
  exact Ev.now _
theorem stable_f (L : List (List Int)) (w : List Int) (hM : w.length ≤ 24) (hw : w.Pairwise (· < ·)) (hin : InB L w) : ∃ s, s.Perm w ∧ s.Pairwise (Tb L) ∧ Ev (fun k => slices_stableCmpFunc_int_impl_BuildDisplacedc1.f k w (w.length : Int) L) s := by
  unfold slices_stableCmpFunc_int_impl_BuildDisplacedc1.f
  have w20 : wrap64 (20 + 20 : Int) = 40 := by rw [w64 (by decide) (by decide)]; rfl
  have w40 : wrap64 (2 * 20 : Int) = 40 := by rw [w64 (by decide) (by decide)]; rfl
  have w41 : wrap64 (20 * 2 : Int) = 40 := by rw [w64 (by decide) (by decide)]; rfl
  have w0 : wrap64 (0 + 20 : Int) = 20 := by rw [w64 (by decide) (by decide)]; rfl
  by_cases c : w.length < 20
  · obtain ⟨s, s1, s2, s3⟩ := ins_f L [] w [] 0 (w.length : Int) rfl (by omega) (by simp; omega) hin hw
    refine ⟨s, s1, s2, ?_⟩
    refine Ev.succ ?_
    simp only [slices_stableCmpFunc_int_impl_BuildDisplacedc1.l0, show ¬ ((20 : Int) ≤ (w.length : Int)) from by omega, ↓reduceIte]
    exact Ev.bind (a := s) (by simpa using s3) (stable_l1_end L s _ _ (by omega))
  · have h1 : (w.take 20).length = 20 := by rw [List.length_take]; omega
    have h2 : (w.drop 20).length = w.length - 20 := List.length_drop
    have h3 := List.take_append_drop 20 w
    generalize w.take 20 = w1 at *
    generalize w.drop 20 = w2 at *
    subst h3
    rw [List.pairwise_append] at hw
    have hn : ((w1 ++ w2).length : Int) = 20 + (w2.length : Int) := by simp; omega
    obtain ⟨s, s1, s2, s3⟩ := ins_f L [] w1 w2 0 20 rfl (by omega) (by simp; omega) (fun x hx => hin x (by simp [hx])) hw.1
    have hs1 : s.length = 20 := by rw [s1.length_eq]; exact h1
    obtain ⟨z, z1, z2, z3⟩ := ins_f L s w2 [] 20 ((w1 ++ w2).length : Int) (by omega) (by omega) (by simp at hM; omega) (fun x hx => hin x (by simp [hx])) hw.2.1
    have hz1 : z.length = w2.length := z1.length_eq
    have hmid : ∀ q, Ev (fun k => slices_stableCmpFunc_int_impl_BuildDisplacedc1.l1 k (s ++ z) ((w1 ++ w2).length : Int) 20 L) q → Ev (fun k => slices_stableCmpFunc_int_impl_BuildDisplacedc1.l0 k (w1 ++ w2) ((w1 ++ w2).length : Int) 20 0 20 L) q := by
      intro q hq
      refine Ev.succ ?_
      simp only [slices_stableCmpFunc_int_impl_BuildDisplacedc1.l0, show ((20 : Int) ≤ ((w1 ++ w2).length : Int)) from by omega, ↓reduceIte, w20]
      refine Ev.bind (a := s ++ w2) (by simpa using s3) ?_
      refine Ev.succ ?_
      simp only [slices_stableCmpFunc_int_impl_BuildDisplacedc1.l0, show ¬ ((40 : Int) ≤ ((w1 ++ w2).length : Int)) from by omega, ↓reduceIte]
      exact Ev.bind (a := s ++ z) (by simpa using z3) hq
    by_cases d : w2 = []
    · subst d
      obtain rfl : z = [] := by simpa using z1
      refine ⟨s, by simpa using s1, s2, hmid _ ?_⟩
      have e := stable_l1_end L (s ++ []) ((w1 ++ []).length : Int) 20 (by simp at hn ⊢; omega)
      simpa using e
    · have d' : 0 < w2.length := List.length_pos_iff.2 d
      obtain ⟨y, y1, y2, y3⟩ := sym_f L 24 s z [] [] 0 20 ((w1 ++ w2).length : Int) (by omega) (by omega) (by omega) s2 z2 (fun x hx y hy _ => hw.2.2 x (s1.mem_iff.1 hx) y (z1.mem_iff.1 hy)) (by
        intro x hx
        refine hin x ?_
        simp only [List.mem_append, List.nil_append, List.append_nil, s1.mem_iff, z1.mem_iff] at hx ⊢
        exact hx) (by simp; omega) rfl (by omega) (by omega)
      refine ⟨y, y1.trans (s1.append z1), y2, hmid _ ?_⟩
      refine Ev.succ ?_
      simp only [slices_stableCmpFunc_int_impl_BuildDisplacedc1.l1, show ((20 : Int) < ((w1 ++ w2).length : Int)) from by omega, ↓reduceIte, w40]
      refine Ev.succ ?_
      simp only [slices_stableCmpFunc_int_impl_BuildDisplacedc1.l2, show ¬ ((40 : Int) ≤ ((w1 ++ w2).length : Int)) from by omega, show ((20 : Int) < ((w1 ++ w2).length : Int)) from by omega, ↓reduceIte, w0, w41]
      exact Ev.bind (a := y) (by simpa using y3) (stable_l1_end L y _ _ (by omega))
/-! ### the reference's order -/
def ofLen (L : List (List Int)) (n : Int) (i : Nat) : List Int := ((List.range' i (L.length - i)).filter fun j : Nat => decide (lenB L (j : Int) = n)).map fun j : Nat => (j : Int)
theorem ofLen_end (L : List (List Int)) (n : Int) : ofLen L n L.length = [] := by simp [ofLen]
theorem ofLen_step (L : List (List Int)) (n : Int) (i : Nat) (h : i < L.length) : ofLen L n i = if lenB L (i : Int) = n then (i : Int) :: ofLen L n (i + 1) else ofLen L n (i + 1) := by
  unfold ofLen
  rw [show L.length - i = (L.length - (i + 1)) + 1 from by omega, List.range'_succ, List.filter_cons]
  by_cases c : lenB L (i : Int) = n <;> simp [c]
theorem ofLen_length (L : List (List Int)) (n : Int) (i : Nat) : (ofLen L n i).length ≤ L.length - i := by
  unfold ofLen
  rw [List.length_map]
  have h := List.length_filter_le (fun j : Nat => decide (lenB L (j : Int) = n)) (List.range' i (L.length - i))
  rw [List.length_range'] at h
  exact h
theorem ofLen_mem (L : List (List Int)) (n x : Int) : x ∈ ofLen L n 0 ↔ (0 ≤ x ∧ x < (L.length : Int)) ∧ lenB L x = n := by
  unfold ofLen
  rw [List.mem_map]
  constructor
  · rintro ⟨i, hi, rfl⟩
    rw [List.mem_filter, List.mem_range'_1, decide_eq_true_eq] at hi
    exact ⟨by omega, hi.2⟩
  · rintro ⟨h, g⟩
    refine ⟨x.toNat, ?_, by omega⟩
    rw [List.mem_filter, List.mem_range'_1, decide_eq_true_eq, show ((x.toNat : Nat) : Int) = x from by omega]
    exact ⟨by omega, g⟩
theorem ofLen_pw (L : List (List Int)) (n : Int) : (ofLen L n 0).Pairwise (Tb L) := by
  have h : (ofLen L n 0).Pairwise (· < ·) := by
    unfold ofLen
    rw [List.pairwise_map]
    refine List.Pairwise.filter _ ?_
    refine List.Pairwise.imp (R := fun a b : Nat => a < b) (fun h => by omega) ?_
    first | exact List.pairwise_lt_range' | exact List.pairwise_lt_range' _ | exact List.pairwise_lt_range' .. | exact List.pairwise_lt_range' 1 (by decide)
  refine List.Pairwise.imp_of_mem ?_ h
  intro x y hx hy hxy
  have h1 := ((ofLen_mem L n x).1 hx).2
  have h2 := ((ofLen_mem L n y).1 hy).2
  unfold Tb
  omega
def ordV (L : List (List Int)) : Nat → List Int
  | 0 => []
  | n + 1 => ofLen L (n : Int) 0 ++ ordV L n
theorem lenB_nonneg (L : List (List Int)) (x : Int) : 0 ≤ lenB L x := by unfold lenB; omega
theorem ordV_mem (L : List (List Int)) (x : Int) : ∀ n, x ∈ ordV L n ↔ (0 ≤ x ∧ x < (L.length : Int)) ∧ lenB L x < (n : Int) := by
  intro n
  have h0 := lenB_nonneg L x
  induction n with
  | zero => simp only [ordV, List.not_mem_nil, false_iff]; omega
  | succ n ih => simp only [ordV, List.mem_append, ofLen_mem, ih]; omega
theorem ordV_pw (L : List (List Int)) : ∀ n, (ordV L n).Pairwise (Tb L) := by
  intro n
  induction n with
  | zero => exact List.Pairwise.nil
  | succ n ih =>
    rw [ordV, List.pairwise_append]
    refine ⟨ofLen_pw L _, ih, fun x hx y hy => ?_⟩
    have h1 := ((ofLen_mem L _ x).1 hx).2
    have h2 := ((ordV_mem L y n).1 hy).2
    unfold Tb
    omega
theorem pfOrder_l1 (L : List (List Int)) (n : Int) (R : List Int) (hL : L.length ≤ 24) (d : Nat) : ∀ (i : Nat) (acc : List Int), i + d = L.length → acc.length + d ≤ 2000 → Ev (fun k => spec_pfOrder.l0 k L (acc ++ ofLen L n i) (wrap64 (n - 1))) R → Ev (fun k => spec_pfOrder.l1 k L acc n L (L.length : Int) (i : Int)) R := by
  induction d with
  | zero =>
    intro i acc hi ha h
    obtain rfl : i = L.length := by omega
    rw [ofLen_end, List.append_nil] at h
    refine Ev.succ ?_
    simp only [spec_pfOrder.l1, show ¬ ((L.length : Int) < (L.length : Int)) from by omega, ↓reduceIte]
    exact h
  | succ d ih =>
    intro i acc hi ha h
    have hw : wrap64 ((i : Int) + 1) = ((i + 1 : Nat) : Int) := by rw [w64 (by omega) (by omega)]; rfl
    rw [ofLen_step L n i (by omega)] at h
    refine Ev.succ ?_
    simp only [spec_pfOrder.l1, show (i : Int) < (L.length : Int) from by omega, show (0 : Int) ≤ (i : Int) from by omega, ↓reduceIte, hw]
    by_cases c : lenB L (i : Int) = n
    · have c' : ((rd_L2 L (i : Int)).length : Int) = n := c
      rw [if_pos c] at h
      simp only [c', ↓reduceIte, show acc.length < 17592186044416 from by omega]
      exact ih (i + 1) (acc ++ [(i : Int)]) (by omega) (by simp; omega) (by simpa using h)
    · have c' : ¬ ((rd_L2 L (i : Int)).length : Int) = n := c
      rw [if_neg c] at h
      simp only [c', ↓reduceIte]
      exact ih (i + 1) acc (by omega) (by omega) h
theorem pfOrder_l0 (L : List (List Int)) (hL : L.length ≤ 24) : ∀ (n : Nat) (acc : List Int), n ≤ 41 → acc.length + 24 * n ≤ 1000 → Ev (fun k => spec_pfOrder.l0 k L acc ((n : Int) - 1)) (acc ++ ordV L n) := by
  intro n
  induction n with
  | zero =>
    intro acc hn ha
    refine Ev.succ ?_
    simp only [spec_pfOrder.l0, show ¬ (((0 : Nat) : Int) - 1 ≥ 0) from by omega, ↓reduceIte, ordV, List.append_nil]
    exact Ev.now _
  | succ n ih =>
    intro acc hn ha
    refine Ev.succ ?_
    have e : ((n + 1 : Nat) : Int) - 1 = (n : Int) := by omega
    rw [e]
    simp only [spec_pfOrder.l0, show (n : Int) ≥ 0 from by omega, ↓reduceIte]
    have hlen := ofLen_length L (n : Int) 0
    have h := ih (acc ++ ofLen L (n : Int) 0) (by omega) (by simp; omega)
    rw [List.append_assoc] at h
    refine pfOrder_l1 L (n : Int) _ hL L.length 0 acc (by omega) (by omega) ?_
    rw [w64 (by omega) (by omega)]
    exact h
theorem pfOrder_ev (L : List (List Int)) (hL : L.length ≤ 24) : Ev (fun k => spec_pfOrder.f k L) (ordV L 41) := by
  have h := pfOrder_l0 L hL 41 [] (Nat.le_refl _) (by simp)
  exact h
theorem sortStable_ev (L : List (List Int)) (hL : L.length ≤ 24) (h40 : ∀ x, 0 ≤ x → x < (L.length : Int) → lenB L x ≤ 40) : (ordV L 41).length = L.length ∧ Ev (fun k => slices_SortStableFunc_int_int_impl_BuildDisplacedc1.f k (rangeI L.length) L) (ordV L 41) := by
  obtain ⟨s, s1, s2, s3⟩ := stable_f L (rangeI L.length) (by rw [rangeI_length]; exact hL) (rangeI_lt _) (fun x hx => (rangeI_mem _ _).1 hx)
  have e : s = ordV L 41 := by
    refine pw_ext L s _ s2 (ordV_pw L 41) (fun x => ?_)
    rw [s1.mem_iff, rangeI_mem, ordV_mem]
    constructor
    · intro h
      have := h40 x h.1 h.2
      exact ⟨h, by omega⟩
    · exact fun h => h.1
  subst e
  refine ⟨by rw [s1.length_eq, rangeI_length], ?_⟩
  unfold slices_SortStableFunc_int_int_impl_BuildDisplacedc1.f
  exact Ev.bind s3 (Ev.now _)
def bkStep (a M : Int) (B : List (List Int)) (i : Nat) (s : ByteArray) : List (List Int) := B.set (placeV a 0 s M).toNat (rd_L2 B (placeV a 0 s M) ++ [(i : Int)])
def bkGo (a M : Int) : List ByteArray → Nat → List (List Int) → List (List Int)
  | [], _, B => B
  | s :: r, i, B => bkGo a M r (i + 1) (bkStep a M B i s)
def BkOk (M : Int) (n : Nat) (B : List (List Int)) : Prop := (B.length : Int) = M ∧ ∀ l ∈ B, l.length ≤ n ∧ ∀ x ∈ l, 0 ≤ x ∧ x < (n : Int)
theorem rdL_mem (B : List (List Int)) (i : Int) (h0 : 0 ≤ i) (h1 : i < (B.length : Int)) : rd_L2 B i ∈ B := by
  unfold rd_L2
  rw [List.getD_eq_getElem?_getD, List.getElem?_eq_getElem (by omega)]
  exact List.getElem_mem _
theorem bkStep_ok {a M : Int} {B : List (List Int)} {i : Nat} (hM : 1 ≤ M) (h : BkOk M i B) (s : ByteArray) : BkOk M (i + 1) (bkStep a M B i s) := by
  have hp := place_range (a := a) (b := 0) (s := s) (n := M) (by omega)
  refine ⟨by unfold bkStep; rw [List.length_set]; exact h.1, fun l hl => ?_⟩
  unfold bkStep at hl
  rcases List.mem_or_eq_of_mem_set hl with g | g
  · obtain ⟨h1, h2⟩ := h.2 l g
    exact ⟨by omega, fun x hx => by have := h2 x hx; omega⟩
  · obtain ⟨h1, h2⟩ := h.2 _ (rdL_mem B (placeV a 0 s M) hp.1 (by rw [h.1]; exact hp.2))
    subst g
    refine ⟨by simp; omega, fun x hx => ?_⟩
    rcases List.mem_append.1 hx with hx | hx
    · have := h2 x hx; omega
    · simp at hx
      subst hx
      omega
theorem bkGo_ok {a M : Int} (hM : 1 ≤ M) : ∀ (r : List ByteArray) (i : Nat) (B : List (List Int)), BkOk M i B → BkOk M (i + r.length) (bkGo a M r i B) := by
  intro r
  induction r with
  | nil => intro i B h; exact h
  | cons s r ih =>
    intro i B h
    have := ih (i + 1) _ (bkStep_ok (a := a) hM h s)
    rw [List.length_cons, show i + (r.length + 1) = i + 1 + r.length from by omega]
    exact this
def bkV (a M : Int) (ks : List ByteArray) : List (List Int) := bkGo a M ks 0 (List.replicate M.toNat [])
theorem bk_zero {M : Int} (hM : 1 ≤ M) : BkOk M 0 (List.replicate M.toNat ([] : List Int)) := by
  refine ⟨by rw [List.length_replicate]; omega, fun l hl => ?_⟩
  obtain rfl := List.eq_of_mem_replicate hl
  exact ⟨Nat.le_refl _, fun x hx => by cases hx⟩
theorem bkV_ok {a M : Int} (hM : 1 ≤ M) (ks : List ByteArray) : BkOk M ks.length (bkV a M ks) := by
  have := bkGo_ok (a := a) hM ks 0 _ (bk_zero hM)
  rw [Nat.zero_add] at this
  exact this
theorem spec_l1Own_eq (l : List Int) (h : l.length < 17592186044416) : spec_l1Own.f l = some l := by
  unfold spec_l1Own.f
  simp only [Option.bind_some, List.length_nil, Nat.zero_add, h, ↓reduceIte, List.nil_append]
theorem spec_pfBuckets_ev (a M : Int) (ks : List ByteArray) (a0 : 0 ≤ a) (a1 : a ≤ 9999) (m0 : 1 ≤ M) (m1 : M ≤ 24) (hk : ks.length ≤ 40) (hs : ∀ s ∈ ks, s.size ≤ 9223372036854775807) : Ev (fun k => spec_pfBuckets.f k a ks M) (bkV a M ks) := by
  unfold spec_pfBuckets.f
  simp only [show 0 ≤ M from by omega, show M.toNat ≤ 11728124029610 from by omega, ↓reduceIte]
  suffices H : ∀ (d i : Nat) (B : List (List Int)), i + d = ks.length → BkOk M i B → Ev (fun k => spec_pfBuckets.l0 k a M B ks (ks.length : Int) (i : Int)) (bkGo a M (ks.drop i) i B) from H ks.length 0 _ (by omega) (bk_zero m0)
  intro d
  induction d with
  | zero =>
    intro i B hi hB
    refine Ev.succ ?_
    simp only [spec_pfBuckets.l0, show ¬ ((i : Int) < (ks.length : Int)) from by omega, ↓reduceIte]
    rw [List.drop_of_length_le (by omega)]
    exact Ev.now _
  | succ d ih =>
    intro i B hi hB
    have h0 : i < ks.length := by omega
    have hw : wrap64 ((i : Int) + 1) = ((i + 1 : Nat) : Int) := by rw [w64 (by omega) (by omega)]; rfl
    have hp := place_range (a := a) (b := 0) (s := ks[i]) (n := M) (by omega)
    have hp2 : placeV a 0 ks[i] M < (B.length : Int) := by rw [hB.1]; exact hp.2
    have hl := (hB.2 _ (rdL_mem B (placeV a 0 ks[i] M) hp.1 hp2)).1
    refine Ev.succ ?_
    simp only [spec_pfBuckets.l0, show (i : Int) < (ks.length : Int) from by omega, show (0 : Int) ≤ (i : Int) from by omega, ↓reduceIte, hw, rdOf_nat ByteArray.empty ks i h0]
    refine Ev.bind (spec_biPlace_ev a 0 ks[i] M (hs _ (List.getElem_mem h0)) a0 a1 (by omega) (by omega) (by omega) (by omega)) ?_
    simp only [hp.1, hp2, ↓reduceIte, spec_l1Own_eq _ (show (rd_L2 B (placeV a 0 ks[i] M)).length < 17592186044416 from by omega), Option.bind_some, show (rd_L2 B (placeV a 0 ks[i] M)).length < 17592186044416 from by omega]
    rw [drop_cons ks i h0]
    exact ih (i + 1) _ (by omega) (bkStep_ok m0 hB ks[i])
theorem impl_buckets_ev (a M : Int) (ks : List ByteArray) (a0 : 0 ≤ a) (a1 : a ≤ 9999) (m0 : 1 ≤ M) (m1 : M ≤ 24) (hk : ks.length ≤ 40) (hs : ∀ s ∈ ks, s.size ≤ 9223372036854775807) : Ev (fun k => impl_buckets.f k a ks M) (bkV a M ks) := by
  unfold impl_buckets.f
  simp only [show 0 ≤ M from by omega, show M.toNat ≤ 11728124029610 from by omega, ↓reduceIte]
  suffices H : ∀ (d i : Nat) (B : List (List Int)), i + d = ks.length → BkOk M i B → Ev (fun k => impl_buckets.l0 k a M B ks (ks.length : Int) (i : Int)) (bkGo a M (ks.drop i) i B) from H ks.length 0 _ (by omega) (bk_zero m0)
  intro d
  induction d with
  | zero =>
    intro i B hi hB
    refine Ev.succ ?_
    simp only [impl_buckets.l0, show ¬ ((i : Int) < (ks.length : Int)) from by omega, ↓reduceIte]
    rw [List.drop_of_length_le (by omega)]
    exact Ev.now _
  | succ d ih =>
    intro i B hi hB
    have h0 : i < ks.length := by omega
    have hw : wrap64 ((i : Int) + 1) = ((i + 1 : Nat) : Int) := by rw [w64 (by omega) (by omega)]; rfl
    have hp := place_range (a := a) (b := 0) (s := ks[i]) (n := M) (by omega)
    have hp2 : placeV a 0 ks[i] M < (B.length : Int) := by rw [hB.1]; exact hp.2
    have hl := (hB.2 _ (rdL_mem B (placeV a 0 ks[i] M) hp.1 hp2)).1
    refine Ev.succ ?_
    simp only [impl_buckets.l0, show (i : Int) < (ks.length : Int) from by omega, show (0 : Int) ≤ (i : Int) from by omega, ↓reduceIte, hw, rdOf_nat ByteArray.empty ks i h0]
    refine Ev.bind (impl_place_ev a 0 ks[i] M (hs _ (List.getElem_mem h0)) a0 a1 (by omega) (by omega) (by omega) (by omega)) ?_
    simp only [hp.1, hp2, ↓reduceIte, show (rd_L2 B (placeV a 0 ks[i] M)).length < 17592186044416 from by omega]
    rw [drop_cons ks i h0]
    exact ih (i + 1) _ (by omega) (bkStep_ok m0 hB ks[i])
theorem impl_in_eq (a b c : Int) : impl_in.f a b c = some (decide (b ≤ a ∧ a ≤ c)) := by
  unfold impl_in.f
  by_cases h : b ≤ a <;> simp [h]
theorem spec_l1In_eq (a b c : Int) : spec_l1In.f a b c = some (decide (b ≤ a ∧ a ≤ c)) := by
  unfold spec_l1In.f
  by_cases h : b ≤ a <;> simp [h]
theorem impl_isSeed_eq (a : Int) : impl_isSeed.f a = some (decide (0 ≤ a ∧ a ≤ 9999)) := by
  simp only [impl_isSeed.f, impl_in_eq, Option.bind_some]
def goodDisplaced (a b c : Int) (l : List Int) : Bool := decide ((0 ≤ a ∧ a ≤ 9999) ∧ (1 ≤ b ∧ b ≤ 24) ∧ (1 ≤ c ∧ c ≤ 64) ∧ (l.length : Int) = b) && l.all (inB 0 999)
theorem goodDisplaced_of {a b c : Int} {l : List Int} (h : goodDisplaced a b c l = true) : (0 ≤ a ∧ a ≤ 9999) ∧ (1 ≤ b ∧ b ≤ 24) ∧ (1 ≤ c ∧ c ≤ 64) ∧ (l.length : Int) = b ∧ ∀ x ∈ l, 0 ≤ x ∧ x ≤ 999 := by
  unfold goodDisplaced inB at h
  simp only [Bool.and_eq_true, decide_eq_true_eq, List.all_eq_true] at h
  exact ⟨h.1.1, h.1.2.1, h.1.2.2.1, h.1.2.2.2, h.2⟩
theorem any_not_all_D {α : Type} (p : α → Bool) (l : List α) : l.any (fun x => !p x) = !l.all p := by
  induction l with
  | nil => rfl
  | cons x l ih => simp only [List.any_cons, List.all_cons, ih, Bool.not_and]
theorem shift_range {l : List Int} (h : ∀ x ∈ l, 0 ≤ x ∧ x ≤ 999) (i : Int) : 0 ≤ rd l i ∧ rd l i ≤ 999 := by
  unfold rd
  rw [List.getD_eq_getElem?_getD]
  cases e : l[i.toNat]? with
  | none => simp
  | some x => simpa using h x (List.mem_of_getElem? e)
def slotV (a c : Int) (s : ByteArray) (x : Int) : Int := (hashV a 1 s + x * (hashV a 2 s + 1)) % c
theorem slotV_range {a c : Int} {s : ByteArray} {x : Int} (hc : 0 < c) : 0 ≤ slotV a c s x ∧ slotV a c s x < c := by
  unfold slotV
  exact ⟨Int.emod_nonneg _ (by omega), Int.emod_lt_of_pos _ hc⟩
theorem slot_words (a c : Int) (s : ByteArray) (x : Int) (x0 : 0 ≤ x) (x1 : x ≤ 999) : Int.tmod (wrap64 (hashV a 1 s + (wrap64 (x * (wrap64 (hashV a 2 s + 1)))))) c = slotV a c s x := by
  have h1 := hash_range a 1 s
  have h2 := hash_range a 2 s
  have m0 : 0 ≤ x * (hashV a 2 s + 1) := Int.mul_nonneg x0 (by omega)
  have m1 : x * (hashV a 2 s + 1) ≤ 999 * 65521 := Int.mul_le_mul x1 (by omega) (by omega) (by omega)
  unfold slotV
  rw [w64 (n := hashV a 2 s + 1) (by omega) (by omega), w64 (n := x * (hashV a 2 s + 1)) (by omega) (by omega), w64 (by omega) (by omega), tmod_pos (by omega)]
def slotOf (a b c : Int) (l : List Int) (s : ByteArray) : Int := slotV a c s (rd l (placeV a 0 s b))
def slotsOf (a b c : Int) (l : List Int) (ks : List ByteArray) : List Int := ks.map (slotOf a b c l)
theorem slotsOf_length (a b c : Int) (l : List Int) (ks : List ByteArray) : (slotsOf a b c l ks).length = ks.length := by simp [slotsOf]
theorem slotsOf_snoc (a b c : Int) (l : List Int) (ks : List ByteArray) (i : Nat) (h : i < ks.length) : slotsOf a b c l (ks.take (i + 1)) = slotsOf a b c l (ks.take i) ++ [slotOf a b c l ks[i]] := by
  unfold slotsOf
  rw [List.take_succ_eq_append_getElem h, List.map_append]
  rfl
theorem slotsOf_range {a b c : Int} {l : List Int} {ks : List ByteArray} (hc : 0 < c) : ∀ x ∈ slotsOf a b c l ks, 0 ≤ x ∧ x < c := by
  intro x hx
  unfold slotsOf at hx
  obtain ⟨s, _, rfl⟩ := List.mem_map.1 hx
  exact slotV_range hc
def distinctSlots (a b c : Int) (l : List Int) (ks : List ByteArray) : List Int × Bool := if (slotsOf a b c l ks).Nodup then (slotsOf a b c l ks, true) else ([], false)
theorem mem_take_succ {l : List Int} {i : Nat} (h : i < l.length) (x : Int) : x ∈ l.take (i + 1) ↔ x ∈ l.take i ∨ x = rd l (i : Int) := by
  rw [List.take_succ_eq_append_getElem h, rd_nat l i h, List.mem_append, List.mem_singleton]
theorem spec_l1Has_ev (l : List Int) (x : Int) (hl : l.length ≤ 9223372036854775807) : Ev (fun k => spec_l1Has.f k l x) (decide (x ∈ l)) := by
  suffices h : ∀ d i : Nat, i + d = l.length → x ∉ l.take i → Ev (fun k => spec_l1Has.l0 k x l (l.length : Int) (i : Int)) (decide (x ∈ l)) from h l.length 0 (by omega) (by simp)
  intro d
  induction d with
  | zero =>
    intro i hi hn
    refine Ev.succ ?_
    have h1 : ¬ ((i : Int) < (l.length : Int)) := by omega
    rw [List.take_of_length_le (by omega)] at hn
    simp only [spec_l1Has.l0, h1, ↓reduceIte, hn, decide_false]
    exact Ev.now _
  | succ d ih =>
    intro i hi hn
    refine Ev.succ ?_
    have h1 : (i : Int) < (l.length : Int) := by omega
    have h2 : (0 : Int) ≤ (i : Int) := by omega
    have hw : wrap64 ((i : Int) + 1) = ((i + 1 : Nat) : Int) := by rw [w64 (by omega) (by omega)]; rfl
    simp only [spec_l1Has.l0, h1, h2, ↓reduceIte, hw]
    by_cases c : rd l (i : Int) = x
    · simp only [c, ↓reduceIte]
      have : x ∈ l := by rw [← c, rd_nat l i (by omega)]; exact List.getElem_mem _
      exact Ev.some_ (by simp [this])
    · simp only [c, ↓reduceIte]
      exact ih (i + 1) (by omega) (by rw [mem_take_succ (by omega)]; rintro (h | h); exact hn h; exact c h.symm)
def tsV (a c : Int) (ks : List ByteArray) (l : List Int) (x : Int) : List Int := l.map fun i => slotV a c (rdOf ByteArray.empty ks i) x
theorem tsV_length (a c : Int) (ks : List ByteArray) (l : List Int) (x : Int) : (tsV a c ks l x).length = l.length := by simp [tsV]
theorem tsV_snoc (a c : Int) (ks : List ByteArray) (l : List Int) (x : Int) (i : Nat) (h : i < l.length) : tsV a c ks (l.take (i + 1)) x = tsV a c ks (l.take i) x ++ [slotV a c (rdOf ByteArray.empty ks l[i]) x] := by
  unfold tsV
  rw [List.take_succ_eq_append_getElem h, List.map_append]
  rfl
theorem tsV_prefix (a c : Int) (ks : List ByteArray) (l : List Int) (x : Int) (i : Nat) : tsV a c ks (l.take i) x <+: tsV a c ks l x := by
  unfold tsV
  exact (List.take_prefix i l).map _
theorem tsV_range {a c : Int} {ks : List ByteArray} {l : List Int} {x : Int} (hc : 0 < c) : ∀ t ∈ tsV a c ks l x, 0 ≤ t ∧ t < c := by
  intro t ht
  unfold tsV at ht
  obtain ⟨i, _, rfl⟩ := List.mem_map.1 ht
  exact slotV_range hc
def okV (a c : Int) (ks : List ByteArray) (l S : List Int) (x : Int) : Bool := decide ((tsV a c ks l x).Nodup ∧ ∀ t ∈ tsV a c ks l x, t ∉ S)
theorem spec_pfSlot_ev (a c : Int) (s : ByteArray) (x : Int) (hs : s.size ≤ 9223372036854775807) (a0 : 0 ≤ a) (a1 : a ≤ 9999) (hc : 1 ≤ c) (x0 : 0 ≤ x) (x1 : x ≤ 999) : Ev (fun k => spec_pfSlot.f k a c s x) (slotV a c s x) := by
  unfold spec_pfSlot.f
  refine Ev.bind (spec_biHash_ev a 1 s hs a0 a1 (by omega) (by omega)) (Ev.bind (spec_biHash_ev a 2 s hs a0 a1 (by omega) (by omega)) ?_)
  simp only [show ¬ (c = 0) from by omega, ↓reduceIte, slot_words a c s _ x0 x1]
  exact Ev.now _
theorem impl_shifted_ev (a c : Int) (s : ByteArray) (x : Int) (hs : s.size ≤ 9223372036854775807) (a0 : 0 ≤ a) (a1 : a ≤ 9999) (hc : 1 ≤ c) (x0 : 0 ≤ x) (x1 : x ≤ 999) : Ev (fun k => impl_shifted.f k a s x c) (slotV a c s x) := by
  unfold impl_shifted.f
  refine Ev.bind (impl_hash_ev a 1 s hs a0 a1 (by omega) (by omega)) (Ev.bind (impl_hash_ev a 2 s hs a0 a1 (by omega) (by omega)) ?_)
  simp only [show ¬ (c = 0) from by omega, ↓reduceIte, slot_words a c s _ x0 x1]
  exact Ev.now _
theorem rdOf_sizeB {ks : List ByteArray} (hs : ∀ s ∈ ks, s.size ≤ 9223372036854775807) (i : Int) (h0 : 0 ≤ i) (h1 : i < (ks.length : Int)) : (rdOf ByteArray.empty ks i).size ≤ 9223372036854775807 := by
  have e : i = ((i.toNat : Nat) : Int) := by omega
  rw [e, rdOf_nat ByteArray.empty ks i.toNat (by omega)]
  exact hs _ (List.getElem_mem _)
def shV (a c : Int) (ks : List ByteArray) (l S : List Int) (x : Int) : List Int × Bool := if okV a c ks l S x = true then (tsV a c ks l x, true) else ([], false)
theorem spec_pfShifted_ev (a c : Int) (ks : List ByteArray) (l S : List Int) (x : Int) (a0 : 0 ≤ a) (a1 : a ≤ 9999) (hc : 1 ≤ c) (x0 : 0 ≤ x) (x1 : x ≤ 999) (hs : ∀ s ∈ ks, s.size ≤ 9223372036854775807) (hl : l.length ≤ 1000) (hS : S.length ≤ 2000) (hin : ∀ i ∈ l, 0 ≤ i ∧ i < (ks.length : Int)) : Ev (fun k => spec_pfShifted.f k a c ks l x S) (shV a c ks l S x) := by
  unfold spec_pfShifted.f
  suffices H : ∀ d i : Nat, i + d = l.length → (tsV a c ks (l.take i) x).Nodup → (∀ t ∈ tsV a c ks (l.take i) x, t ∉ S) → Ev (fun k => spec_pfShifted.l0 k a c ks x S (tsV a c ks (l.take i) x) l (l.length : Int) (i : Int)) (shV a c ks l S x) from H l.length 0 (by omega) (by simp [tsV]) (by simp [tsV])
  intro d
  induction d with
  | zero =>
    intro i hi hn hno
    rw [List.take_of_length_le (by omega)] at hn hno
    refine Ev.succ ?_
    simp only [spec_pfShifted.l0, show ¬ ((i : Int) < (l.length : Int)) from by omega, ↓reduceIte]
    refine Ev.some_ ?_
    unfold shV okV
    rw [if_pos (decide_eq_true ⟨hn, hno⟩), List.take_of_length_le (by omega)]
  | succ d ih =>
    intro i hi hn hno
    have h0 : i < l.length := by omega
    have hw : wrap64 ((i : Int) + 1) = ((i + 1 : Nat) : Int) := by rw [w64 (by omega) (by omega)]; rfl
    have hb := hin l[i] (List.getElem_mem h0)
    have hlen := tsV_length a c ks (l.take i) x
    have hlt := List.length_take_le i l
    have hsn := tsV_snoc a c ks l x i h0
    have hpre := tsV_prefix a c ks l x (i + 1)
    rw [hsn] at hpre
    refine Ev.succ ?_
    simp only [spec_pfShifted.l0, show (i : Int) < (l.length : Int) from by omega, show (0 : Int) ≤ (i : Int) from by omega, ↓reduceIte, hw, rd_nat l i h0, hb.1, hb.2]
    refine Ev.bind (spec_pfSlot_ev a c _ x (rdOf_sizeB hs _ hb.1 hb.2) a0 a1 hc x0 x1) ?_
    refine Ev.bind (spec_l1Has_ev _ _ (by omega)) ?_
    by_cases g : slotV a c (rdOf ByteArray.empty ks l[i]) x ∈ tsV a c ks (l.take i) x
    · simp only [g, decide_true, ↓reduceIte]
      refine Ev.some_ ?_
      unfold shV okV
      rw [if_neg (by
        rw [decide_eq_true_eq]
        intro h
        have h5 := h.1.sublist hpre.sublist
        rw [List.nodup_append] at h5
        exact h5.2.2 _ g _ (by simp) rfl)]
    · simp only [g, decide_false, Bool.false_eq_true, ↓reduceIte]
      refine Ev.bind (spec_l1Has_ev _ _ (by omega)) ?_
      by_cases g2 : slotV a c (rdOf ByteArray.empty ks l[i]) x ∈ S
      · simp only [g2, decide_true, ↓reduceIte]
        refine Ev.some_ ?_
        unfold shV okV
        rw [if_neg (by
          rw [decide_eq_true_eq]
          intro h
          exact h.2 _ (hpre.subset (by simp)) g2)]
      · simp only [g2, decide_false, Bool.false_eq_true, ↓reduceIte, show (tsV a c ks (l.take i) x).length < 17592186044416 from by omega]
        have e := ih (i + 1) (by omega)
        rw [hsn] at e
        refine e ?_ ?_
        · rw [List.nodup_append]
          refine ⟨hn, by simp, ?_⟩
          intro y hy z hz eyz
          simp at hz
          subst hz
          exact g (eyz ▸ hy)
        · intro t ht
          rcases List.mem_append.1 ht with ht | ht
          · exact hno t ht
          · simp at ht
            subst ht
            exact g2
theorem impl_distinct_eq (l : List Int) (hl : l.length ≤ 1000) (h : ∀ x ∈ l, 0 ≤ x ∧ x < 1000) : impl_distinct.f l = some (decide l.Nodup) := by
  unfold impl_distinct.f
  rw [if_pos (by omega), if_pos ?_]
  simp only [List.all_eq_true, decide_eq_true_eq]
  intro x hx
  have := h x hx
  omega
def fitsV (a c : Int) (ks : List ByteArray) (l S : List Int) (x : Int) : List Int × Bool := if ∀ t ∈ tsV a c ks l x, t ∉ S then (tsV a c ks l x, decide (tsV a c ks l x).Nodup) else ([], false)
theorem fitsV_ok (a c : Int) (ks : List ByteArray) (l S : List Int) (x : Int) : (fitsV a c ks l S x).2 = okV a c ks l S x := by
  unfold fitsV okV
  by_cases h : ∀ t ∈ tsV a c ks l x, t ∉ S
  · rw [if_pos h]
    exact decide_eq_decide.2 ⟨fun n => ⟨n, h⟩, fun n => n.1⟩
  · rw [if_neg h]
    exact (decide_eq_false (fun n => h n.2)).symm
theorem fitsV_ts {a c : Int} {ks : List ByteArray} {l S : List Int} {x : Int} (h : okV a c ks l S x = true) : (fitsV a c ks l S x).1 = tsV a c ks l x := by
  unfold okV at h
  rw [decide_eq_true_eq] at h
  unfold fitsV
  rw [if_pos h.2]
theorem impl_fits_ev (a c : Int) (ks : List ByteArray) (l S : List Int) (x : Int) (a0 : 0 ≤ a) (a1 : a ≤ 9999) (hc : 1 ≤ c) (hc2 : c ≤ 64) (x0 : 0 ≤ x) (x1 : x ≤ 999) (hs : ∀ s ∈ ks, s.size ≤ 9223372036854775807) (hl : l.length ≤ 1000) (hin : ∀ i ∈ l, 0 ≤ i ∧ i < (ks.length : Int)) : Ev (fun k => impl_fits.f k a ks l x c S) (fitsV a c ks l S x) := by
  unfold impl_fits.f
  suffices H : ∀ d i : Nat, i + d = l.length → (∀ t ∈ tsV a c ks (l.take i) x, t ∉ S) → Ev (fun k => impl_fits.l0 k a ks x c S (tsV a c ks (l.take i) x) l (l.length : Int) (i : Int)) (fitsV a c ks l S x) from H l.length 0 (by omega) (by simp [tsV])
  intro d
  induction d with
  | zero =>
    intro i hi hno
    rw [List.take_of_length_le (by omega)] at hno ⊢
    refine Ev.succ ?_
    simp only [impl_fits.l0, show ¬ ((i : Int) < (l.length : Int)) from by omega, ↓reduceIte]
    rw [impl_distinct_eq _ (by rw [tsV_length]; omega) (fun y hy => by have := tsV_range (show 0 < c by omega) y hy; omega)]
    simp only [Option.bind_some]
    refine Ev.some_ ?_
    unfold fitsV
    rw [if_pos hno]
  | succ d ih =>
    intro i hi hno
    have h0 : i < l.length := by omega
    have hw : wrap64 ((i : Int) + 1) = ((i + 1 : Nat) : Int) := by rw [w64 (by omega) (by omega)]; rfl
    have hb := hin l[i] (List.getElem_mem h0)
    have hlen := tsV_length a c ks (l.take i) x
    have hlt := List.length_take_le i l
    have hsn := tsV_snoc a c ks l x i h0
    have hpre := tsV_prefix a c ks l x (i + 1)
    rw [hsn] at hpre
    have hr := slotV_range (a := a) (c := c) (s := rdOf ByteArray.empty ks l[i]) (x := x) (by omega)
    have hmap : MapR.mapHas S (slotV a c (rdOf ByteArray.empty ks l[i]) x) = some (decide (slotV a c (rdOf ByteArray.empty ks l[i]) x ∈ S)) := by
      unfold MapR.mapHas MapR.inW
      rw [if_pos (by omega)]
    refine Ev.succ ?_
    simp only [impl_fits.l0, show (i : Int) < (l.length : Int) from by omega, show (0 : Int) ≤ (i : Int) from by omega, ↓reduceIte, hw, rd_nat l i h0, hb.1, hb.2]
    refine Ev.bind (impl_shifted_ev a c _ x (rdOf_sizeB hs _ hb.1 hb.2) a0 a1 hc x0 x1) ?_
    simp only [hmap, Option.bind_some]
    by_cases g2 : slotV a c (rdOf ByteArray.empty ks l[i]) x ∈ S
    · simp only [g2, decide_true, ↓reduceIte]
      refine Ev.some_ ?_
      unfold fitsV
      rw [if_neg (fun h => h _ (hpre.subset (by simp)) g2)]
    · simp only [g2, decide_false, Bool.false_eq_true, ↓reduceIte, show (tsV a c ks (l.take i) x).length < 17592186044416 from by omega]
      have e := ih (i + 1) (by omega)
      rw [hsn] at e
      refine e ?_
      intro t ht
      rcases List.mem_append.1 ht with ht | ht
      · exact hno t ht
      · simp at ht
        subst ht
        exact g2
theorem spec_IsKey_ev (s : ByteArray) (hs : s.size ≤ 9223372036854775807) : Ev (fun k => spec_IsKey.f k s) (isKey s) := by
  have h := Ev.up (L := fun k i => spec_IsKey.l0 k s (i : Int)) (r := fun i => ((bytesOf s).drop i).all okByte && decide (1 ≤ (s.size : Int) ∧ (s.size : Int) ≤ 12)) s.size ?_ ?_ 0 (Nat.zero_le _)
  · exact h
  · refine Ev.succ ?_
    have h1 : ¬ ((s.size : Int) < (s.size : Int)) := by omega
    simp only [spec_IsKey.l0, h1, ↓reduceIte, spec_l1In_eq, Option.bind_some]
    exact Ev.some_ (by rw [List.drop_of_length_le (by rw [bytesOf_length]; exact Nat.le_refl _)]; simp)
  · intro i hi ih
    refine Ev.succ ?_
    have h1 : (i : Int) < (s.size : Int) := by omega
    have h2 : (0 : Int) ≤ (i : Int) := by omega
    have hw : wrap64 ((i : Int) + 1) = ((i + 1 : Nat) : Int) := by rw [w64 (by omega) (by omega)]; rfl
    have hb := bt_nat s i hi
    simp only [spec_IsKey.l0, h1, h2, ↓reduceIte, hw]
    rw [drop_cons _ _ (by rw [bytesOf_length]; exact hi), List.all_cons, ← hb]
    by_cases c1 : bt s i < 33
    · simp only [c1, ↓reduceIte]
      exact Ev.some_ (by simp [okByte]; omega)
    · by_cases c2 : bt s i > 125
      · simp only [c1, c2, ↓reduceIte]
        exact Ev.some_ (by simp [okByte]; omega)
      · simp only [c1, c2, ↓reduceIte]
        have c3 : okByte (bt s i) = true := by simp [okByte]; omega
        rw [c3, Bool.true_and]
        exact ih
theorem impl_IsKey_ev (s : ByteArray) (hs : s.size ≤ 9223372036854775807) : Ev (fun k => impl_IsKey.f k s) (isKey s) := by
  have h := Ev.up (L := fun k i => impl_IsKey.l0 k s (s.size : Int) (i : Int)) (r := fun i => ((bytesOf s).drop i).all okByte && decide (1 ≤ (s.size : Int) ∧ (s.size : Int) ≤ 12)) s.size ?_ ?_ 0 (Nat.zero_le _)
  · exact h
  · refine Ev.succ ?_
    have h1 : ¬ ((s.size : Int) < (s.size : Int)) := by omega
    simp only [impl_IsKey.l0, h1, ↓reduceIte, impl_in_eq, Option.bind_some]
    exact Ev.some_ (by rw [List.drop_of_length_le (by rw [bytesOf_length]; exact Nat.le_refl _)]; simp)
  · intro i hi ih
    refine Ev.succ ?_
    have h1 : (i : Int) < (s.size : Int) := by omega
    have h2 : (0 : Int) ≤ (i : Int) := by omega
    have hw : wrap64 ((i : Int) + 1) = ((i + 1 : Nat) : Int) := by rw [w64 (by omega) (by omega)]; rfl
    have hb := bt_nat s i hi
    simp only [impl_IsKey.l0, h1, h2, ↓reduceIte, hw]
    rw [drop_cons _ _ (by rw [bytesOf_length]; exact hi), List.all_cons, ← hb]
    by_cases c1 : bt s i < 33
    · simp only [c1, ↓reduceIte]
      exact Ev.some_ (by simp [okByte]; omega)
    · by_cases c2 : bt s i > 125
      · simp only [c1, c2, ↓reduceIte]
        exact Ev.some_ (by simp [okByte]; omega)
      · simp only [c1, c2, ↓reduceIte]
        have c3 : okByte (bt s i) = true := by simp [okByte]; omega
        rw [c3, Bool.true_and]
        exact ih
def keyAt (l : List ByteArray) (i : Nat) : Bool := isKey (rdOf ByteArray.empty l (i : Int)) && (decide (i = 0) || Op.bytesLess (rdOf ByteArray.empty l ((i - 1 : Nat) : Int)).toList (rdOf ByteArray.empty l (i : Int)).toList)
def keysFrom (l : List ByteArray) (i : Nat) : Bool := (List.range' i (l.length - i)).all (keyAt l) && decide ((l.length : Int) ≤ 40)
def areKeys (l : List ByteArray) : Bool := keysFrom l 0
theorem keysFrom_end (l : List ByteArray) : keysFrom l l.length = decide ((l.length : Int) ≤ 40) := by simp [keysFrom]
theorem keysFrom_step (l : List ByteArray) (i : Nat) (h : i < l.length) : keysFrom l i = (keyAt l i && keysFrom l (i + 1)) := by
  unfold keysFrom
  rw [show l.length - i = (l.length - (i + 1)) + 1 from by omega, List.range'_succ, List.all_cons, Bool.and_assoc]
theorem areKeys_of {l : List ByteArray} (h : areKeys l = true) : l.length ≤ 40 ∧ ∀ s ∈ l, isKey s = true := by
  unfold areKeys keysFrom at h
  simp only [Bool.and_eq_true, decide_eq_true_eq, List.all_eq_true, List.mem_range'] at h
  refine ⟨by omega, fun s hs => ?_⟩
  obtain ⟨i, hi, rfl⟩ := List.getElem_of_mem hs
  have := h.1 i ⟨i, by omega, by omega⟩
  unfold keyAt at this
  simp only [Bool.and_eq_true] at this
  rw [rdOf_nat _ _ _ hi] at this
  exact this.1
theorem rdOf_size {l : List ByteArray} (h : ∀ s ∈ l, s.size ≤ 9223372036854775807) (i : Int) : (rdOf ByteArray.empty l i).size ≤ 9223372036854775807 := by
  unfold rdOf
  rw [List.getD_eq_getElem?_getD]
  cases e : l[i.toNat]? with
  | none => simp
  | some x => simpa using h x (List.mem_of_getElem? e)
theorem spec_biKeys_ev (l : List ByteArray) (hl : l.length ≤ 9223372036854775807) (hs : ∀ s ∈ l, s.size ≤ 9223372036854775807) : Ev (fun k => spec_biKeys.f k l) (areKeys l) := by
  refine Ev.up (L := fun k i => spec_biKeys.l0 k l l (l.length : Int) (i : Int)) (r := fun i => keysFrom l i) l.length ?_ ?_ 0 (Nat.zero_le _)
  · refine Ev.succ ?_
    have h1 : ¬ ((l.length : Int) < (l.length : Int)) := by omega
    simp only [spec_biKeys.l0, h1, ↓reduceIte, keysFrom_end]
    exact Ev.now _
  · intro i hi ih
    refine Ev.succ ?_
    have h1 : (i : Int) < (l.length : Int) := by omega
    have h2 : (0 : Int) ≤ (i : Int) := by omega
    have hw : wrap64 ((i : Int) + 1) = ((i + 1 : Nat) : Int) := by rw [w64 (by omega) (by omega)]; rfl
    simp only [spec_biKeys.l0, h1, h2, ↓reduceIte, hw]
    refine Ev.bind (spec_IsKey_ev _ (rdOf_size hs _)) ?_
    rw [keysFrom_step l i hi]
    unfold keyAt
    cases isKey (rdOf ByteArray.empty l (i : Int)) with
    | false => simp only [Bool.false_eq_true, ↓reduceIte, Bool.false_and]; exact Ev.now _
    | true =>
      simp only [↓reduceIte, Bool.true_and]
      by_cases c : i = 0
      · subst c
        simp only [Int.natCast_zero, decide_true, Bool.true_or, Bool.true_and, ↓reduceIte, gt_iff_lt, Int.lt_irrefl]
        exact ih
      · have h3 : (i : Int) > 0 := by omega
        have hw1 : wrap64 ((i : Int) - 1) = ((i - 1 : Nat) : Int) := by rw [w64 (by omega) (by omega)]; omega
        have h4 : (0 : Int) ≤ ((i - 1 : Nat) : Int) := by omega
        have h5 : ((i - 1 : Nat) : Int) < (l.length : Int) := by omega
        simp only [c, h3, hw1, h4, h5, ↓reduceIte, decide_false, Bool.false_or]
        cases Op.bytesLess (rdOf ByteArray.empty l ((i - 1 : Nat) : Int)).toList (rdOf ByteArray.empty l (i : Int)).toList with
        | false => simp only [Bool.false_eq_true, ↓reduceIte, Bool.false_and]; exact Ev.now _
        | true => simp only [↓reduceIte, Bool.true_and]; exact ih
theorem impl_AreKeys_ev (l : List ByteArray) (hl : l.length ≤ 9223372036854775807) (hs : ∀ s ∈ l, s.size ≤ 9223372036854775807) : Ev (fun k => impl_AreKeys.f k l) (areKeys l) := by
  refine Ev.up (L := fun k i => impl_AreKeys.l0 k l l (l.length : Int) (i : Int)) (r := fun i => keysFrom l i) l.length ?_ ?_ 0 (Nat.zero_le _)
  · refine Ev.succ ?_
    have h1 : ¬ ((l.length : Int) < (l.length : Int)) := by omega
    simp only [impl_AreKeys.l0, h1, ↓reduceIte, keysFrom_end]
    exact Ev.now _
  · intro i hi ih
    refine Ev.succ ?_
    have h1 : (i : Int) < (l.length : Int) := by omega
    have h2 : (0 : Int) ≤ (i : Int) := by omega
    have hw : wrap64 ((i : Int) + 1) = ((i + 1 : Nat) : Int) := by rw [w64 (by omega) (by omega)]; rfl
    simp only [impl_AreKeys.l0, h1, h2, ↓reduceIte, hw]
    refine Ev.bind (impl_IsKey_ev _ (rdOf_size hs _)) ?_
    rw [keysFrom_step l i hi]
    unfold keyAt
    cases isKey (rdOf ByteArray.empty l (i : Int)) with
    | false => simp only [Bool.false_eq_true, ↓reduceIte, Bool.false_and]; exact Ev.now _
    | true =>
      simp only [↓reduceIte, Bool.true_and]
      by_cases c : i = 0
      · subst c
        simp only [Int.natCast_zero, decide_true, Bool.true_or, Bool.true_and, ↓reduceIte, gt_iff_lt, Int.lt_irrefl]
        exact ih
      · have h3 : (i : Int) > 0 := by omega
        have hw1 : wrap64 ((i : Int) - 1) = ((i - 1 : Nat) : Int) := by rw [w64 (by omega) (by omega)]; omega
        have h4 : (0 : Int) ≤ ((i - 1 : Nat) : Int) := by omega
        have h5 : ((i - 1 : Nat) : Int) < (l.length : Int) := by omega
        simp only [c, h3, hw1, h4, h5, ↓reduceIte, decide_false, Bool.false_or]
        cases Op.bytesLess (rdOf ByteArray.empty l ((i - 1 : Nat) : Int)).toList (rdOf ByteArray.empty l (i : Int)).toList with
        | false => simp only [Bool.false_eq_true, ↓reduceIte, Bool.false_and]; exact Ev.now _
        | true => simp only [↓reduceIte, Bool.true_and]; exact ih
def searchV (a c : Int) (ks : List ByteArray) (l S : List Int) : Nat → Int → Option (Int × List Int)
  | 0, s => if okV a c ks l S s = true then some (s, tsV a c ks l s) else none
  | d + 1, s => if okV a c ks l S s = true then some (s, tsV a c ks l s) else searchV a c ks l S d (s + 1)
theorem searchV_ok {a c : Int} {ks : List ByteArray} {l S : List Int} {s : Int} (h : okV a c ks l S s = true) (d : Nat) : searchV a c ks l S d s = some (s, tsV a c ks l s) := by
  cases d <;> simp only [searchV, h, ↓reduceIte]
theorem searchV_length {a c : Int} {ks : List ByteArray} {l S : List Int} : ∀ (d : Nat) (s : Int) (s' : Int) (ts : List Int), searchV a c ks l S d s = some (s', ts) → ts.length = l.length ∧ ∃ x, ts = tsV a c ks l x := by
  intro d
  induction d with
  | zero =>
    intro s s' ts h
    unfold searchV at h
    split at h
    · cases h; exact ⟨tsV_length _ _ _ _ _, _, rfl⟩
    · cases h
  | succ d ih =>
    intro s s' ts h
    unfold searchV at h
    split at h
    · cases h; exact ⟨tsV_length _ _ _ _ _, _, rfl⟩
    · exact ih _ _ _ h
def runV (a c : Int) (ks : List ByteArray) (B : List (List Int)) : List Int → List Int → List Int → Option (List Int)
  | [], _, D => some D
  | b :: r, S, D => match searchV a c ks (rd_L2 B b) S 999 0 with
    | none => none
    | some q => runV a c ks B r (S ++ q.2) (D.set b.toNat q.1)
def resV (a M c : Int) : Option (List Int) → Int × Int × Int × List Int × Bool
  | none => (0, 0, 0, [], false)
  | some D => (a, M, c, D, true)
/-- What the loops ask of their surroundings. -/
structure Sur (a M c : Int) (ks : List ByteArray) (B : List (List Int)) (ord : List Int) : Prop where
  a0 : 0 ≤ a
  a1 : a ≤ 9999
  m1 : 1 ≤ M
  m2 : M ≤ 24
  c1 : 1 ≤ c
  c2 : c ≤ 64
  hs : ∀ s ∈ ks, s.size ≤ 9223372036854775807
  hB : (B.length : Int) = M
  hb : ∀ l ∈ B, l.length ≤ 40 ∧ ∀ x ∈ l, 0 ≤ x ∧ x < (ks.length : Int)
  ho : ∀ b ∈ ord, 0 ≤ b ∧ b < M
  hn : ord.length ≤ 24
  nd : ord.Nodup
theorem spec_bd_l1 {a M c : Int} {ks : List ByteArray} {B : List (List Int)} {ord : List Int} (u : Sur a M c ks B ord) (S D : List Int) (b idx : Int) (hb0 : 0 ≤ b) (hb1 : b < M) (hD : (D.length : Int) = M) (hS : S.length ≤ 1000) (R : Int × Int × Int × List Int × Bool) :
    ∀ (d : Nat) (s : Int), s + (d : Int) = 999 → 0 ≤ s → (∀ q, searchV a c ks (rd_L2 B b) S d s = some q → Ev (fun k => spec_BuildDisplaced.l0 k a ks c B (S ++ q.2) ord (ord.length : Int) (wrap64 (idx + 1)) a M c (D.set b.toNat q.1)) R) → (searchV a c ks (rd_L2 B b) S d s = none → R = (0, 0, 0, [], false)) →
      Ev (fun k => spec_BuildDisplaced.l1 k a ks c B S b s (shV a c ks (rd_L2 B b) S s).1 (shV a c ks (rd_L2 B b) S s).2 ord (ord.length : Int) idx a M c D) R := by
  have hBb := u.hb _ (rdL_mem B b hb0 (by rw [u.hB]; exact hb1))
  have hbD : b < (D.length : Int) := by omega
  have hbB : b < (B.length : Int) := by rw [u.hB]; exact hb1
  intro d
  induction d with
  | zero =>
    intro s hs h0 hsome hnone
    refine Ev.succ ?_
    cases h : okV a c ks (rd_L2 B b) S s with
    | true =>
      have hl := tsV_length a c ks (rd_L2 B b) s
      simp only [shV, h, ↓reduceIte, spec_BuildDisplaced.l1, hb0, hbD, show S.length + (tsV a c ks (rd_L2 B b) s).length < 17592186044416 from by omega]
      exact hsome _ (searchV_ok h 0)
    | false =>
      have hr := hnone (by simp only [searchV, h, Bool.false_eq_true, ↓reduceIte])
      simp only [shV, h, Bool.false_eq_true, ↓reduceIte, spec_BuildDisplaced.l1, show ¬ (s < 999) from by omega]
      exact Ev.some_ hr.symm
  | succ d ih =>
    intro s hs h0 hsome hnone
    refine Ev.succ ?_
    cases h : okV a c ks (rd_L2 B b) S s with
    | true =>
      have hl := tsV_length a c ks (rd_L2 B b) s
      simp only [shV, h, ↓reduceIte, spec_BuildDisplaced.l1, hb0, hbD, show S.length + (tsV a c ks (rd_L2 B b) s).length < 17592186044416 from by omega]
      exact hsome _ (searchV_ok h _)
    | false =>
      have hw : wrap64 (s + 1) = s + 1 := w64 (by omega) (by omega)
      have he : searchV a c ks (rd_L2 B b) S (d + 1) s = searchV a c ks (rd_L2 B b) S d (s + 1) := by simp only [searchV, h, Bool.false_eq_true, ↓reduceIte]
      rw [he] at hsome hnone
      have e := ih (s + 1) (by omega) (by omega) hsome hnone
      rw [show shV a c ks (rd_L2 B b) S s = ([], false) from by simp only [shV, h, Bool.false_eq_true, ↓reduceIte]]
      simp only [Bool.false_eq_true, ↓reduceIte, spec_BuildDisplaced.l1, show s < 999 from by omega, hb0, hbB, hw]
      exact Ev.bind (spec_pfShifted_ev a c ks (rd_L2 B b) S (s + 1) u.a0 u.a1 u.c1 (by omega) (by omega) u.hs (by omega) (by omega) hBb.2) e
theorem spec_bd_l0 {a M c : Int} {ks : List ByteArray} {B : List (List Int)} {ord : List Int} (u : Sur a M c ks B ord) :
    ∀ (d i : Nat) (S D : List Int), i + d = ord.length → S.length ≤ 40 * i → (D.length : Int) = M → Ev (fun k => spec_BuildDisplaced.l0 k a ks c B S ord (ord.length : Int) (i : Int) a M c D) (resV a M c (runV a c ks B (ord.drop i) S D)) := by
  have hn := u.hn
  intro d
  induction d with
  | zero =>
    intro i S D hi hS hD
    refine Ev.succ ?_
    simp only [spec_BuildDisplaced.l0, show ¬ ((i : Int) < (ord.length : Int)) from by omega, ↓reduceIte]
    rw [List.drop_of_length_le (by omega)]
    exact Ev.now _
  | succ d ih =>
    intro i S D hi hS hD
    have h0 : i < ord.length := by omega
    have hw : wrap64 ((i : Int) + 1) = ((i + 1 : Nat) : Int) := by rw [w64 (by omega) (by omega)]; rfl
    have ho := u.ho ord[i] (List.getElem_mem h0)
    have hoB : ord[i] < (B.length : Int) := by rw [u.hB]; exact ho.2
    have hBb := u.hb _ (rdL_mem B ord[i] ho.1 hoB)
    refine Ev.succ ?_
    simp only [spec_BuildDisplaced.l0, show (i : Int) < (ord.length : Int) from by omega, show (0 : Int) ≤ (i : Int) from by omega, ↓reduceIte, rd_nat ord i h0, ho.1, hoB]
    refine Ev.bind (spec_pfShifted_ev a c ks (rd_L2 B ord[i]) S 0 u.a0 u.a1 u.c1 (by omega) (by omega) u.hs (by omega) (by omega) hBb.2) ?_
    refine spec_bd_l1 u S D ord[i] (i : Int) ho.1 ho.2 hD (by omega) _ 999 0 (by omega) (by omega) (fun q hq => ?_) (fun hq => ?_)
    · rw [hw, drop_cons ord i h0]
      simp only [runV, hq]
      have hl := (searchV_length _ _ q.1 q.2 hq).1
      exact ih (i + 1) _ _ (by omega) (by simp; omega) (by rw [List.length_set]; exact hD)
    · rw [drop_cons ord i h0]
      simp only [runV, hq, resV]
theorem impl_bd_l3 {a M c : Int} {ks : List ByteArray} {B : List (List Int)} {ord : List Int} (S D ts : List Int) (idx : Int) (hts : ts.length ≤ 1000) (hS : S.length ≤ 1000) (hr : ∀ t ∈ ts, 0 ≤ t ∧ t < 1000) (R : Int × Int × Int × List Int × Bool) (h : Ev (fun k => impl_BuildDisplaced.l1 k a ks c (S ++ ts) ord (ord.length : Int) (wrap64 (idx + 1)) B a M c D) R) :
    ∀ d j : Nat, j + d = ts.length → Ev (fun k => impl_BuildDisplaced.l3 k a ks c (S ++ ts.take j) ord (ord.length : Int) idx ts (ts.length : Int) (j : Int) B a M c D) R := by
  intro d
  induction d with
  | zero =>
    intro j hj
    refine Ev.succ ?_
    simp only [impl_BuildDisplaced.l3, show ¬ ((j : Int) < (ts.length : Int)) from by omega, ↓reduceIte]
    rw [List.take_of_length_le (by omega)]
    exact h
  | succ d ih =>
    intro j hj
    have h0 : j < ts.length := by omega
    have hw : wrap64 ((j : Int) + 1) = ((j + 1 : Nat) : Int) := by rw [w64 (by omega) (by omega)]; rfl
    have hlt := List.length_take_le j ts
    have hrj := hr ts[j] (List.getElem_mem h0)
    have hin : (S ++ ts.take j).length < 17592186044416 ∧ MapR.inW ts[j] := by
      refine ⟨by rw [List.length_append]; omega, ?_⟩
      unfold MapR.inW
      omega
    refine Ev.succ ?_
    simp only [impl_BuildDisplaced.l3, show (j : Int) < (ts.length : Int) from by omega, show (0 : Int) ≤ (j : Int) from by omega, ↓reduceIte, rd_nat ts j h0, hw]
    simp only [if_pos hin]
    have e := ih (j + 1) (by omega)
    rw [List.take_succ_eq_append_getElem h0, ← List.append_assoc] at e
    exact e
theorem rd_set_at (D : List Int) (b v : Int) (h0 : 0 ≤ b) (h1 : b < (D.length : Int)) : rd (D.set b.toNat v) b = v := by
  unfold rd
  rw [List.getD_eq_getElem?_getD, List.getElem?_set_self (by omega)]
  rfl
theorem rd_set_off (D : List Int) (b x v : Int) (h0 : 0 ≤ b) (h1 : 0 ≤ x) (h : b ≠ x) : rd (D.set b.toNat v) x = rd D x := by
  unfold rd
  rw [List.getD_eq_getElem?_getD, List.getElem?_set_ne (by omega), ← List.getD_eq_getElem?_getD]
theorem set_zero_same (D : List Int) (b : Int) (h0 : 0 ≤ b) (h : rd D b = 0) : D.set b.toNat 0 = D := by
  apply List.ext_getElem?
  intro j
  by_cases e : j = b.toNat
  · subst e
    by_cases l : b.toNat < D.length
    · rw [List.getElem?_set_self l]
      unfold rd at h
      rw [List.getD_eq_getElem?_getD, List.getElem?_eq_getElem l] at h
      rw [List.getElem?_eq_getElem l]
      exact congrArg some h.symm
    · rw [List.set_eq_of_length_le (by omega)]
  · rw [List.getElem?_set_ne (by omega)]
theorem impl_bd_l2 {a M c : Int} {ks : List ByteArray} {B : List (List Int)} {ord : List Int} (u : Sur a M c ks B ord) (S D : List Int) (b idx : Int) (hb0 : 0 ≤ b) (hb1 : b < M) (hD : (D.length : Int) = M) (hS : S.length ≤ 1000) (R : Int × Int × Int × List Int × Bool) :
    ∀ (d : Nat) (s : Int), s + (d : Int) = 999 → 0 ≤ s → (∀ q, searchV a c ks (rd_L2 B b) S d s = some q → Ev (fun k => impl_BuildDisplaced.l1 k a ks c (S ++ q.2) ord (ord.length : Int) (wrap64 (idx + 1)) B a M c (D.set b.toNat q.1)) R) → (searchV a c ks (rd_L2 B b) S d s = none → R = (0, 0, 0, [], false)) →
      Ev (fun k => impl_BuildDisplaced.l2 k a ks c S b (fitsV a c ks (rd_L2 B b) S s).1 (fitsV a c ks (rd_L2 B b) S s).2 ord (ord.length : Int) idx B a M c (D.set b.toNat s)) R := by
  have hBb := u.hb _ (rdL_mem B b hb0 (by rw [u.hB]; exact hb1))
  have hbB : b < (B.length : Int) := by rw [u.hB]; exact hb1
  have hbD : ∀ v : Int, b < ((D.set b.toNat v).length : Int) := fun v => by rw [List.length_set]; omega
  have c2 := u.c2
  have c1 := u.c1
  have found : ∀ (d : Nat) (s : Int), okV a c ks (rd_L2 B b) S s = true → (∀ q, searchV a c ks (rd_L2 B b) S d s = some q → Ev (fun k => impl_BuildDisplaced.l1 k a ks c (S ++ q.2) ord (ord.length : Int) (wrap64 (idx + 1)) B a M c (D.set b.toNat q.1)) R) → Ev (fun k => impl_BuildDisplaced.l2 k a ks c S b (fitsV a c ks (rd_L2 B b) S s).1 (fitsV a c ks (rd_L2 B b) S s).2 ord (ord.length : Int) idx B a M c (D.set b.toNat s)) R := by
    intro d s h hsome
    rw [fitsV_ok, fitsV_ts h, h]
    refine Ev.succ ?_
    simp only [impl_BuildDisplaced.l2, ↓reduceIte]
    have hl := tsV_length a c ks (rd_L2 B b) s
    have e := impl_bd_l3 (ord := ord) (B := B) (a := a) (M := M) (c := c) (ks := ks) S (D.set b.toNat s) (tsV a c ks (rd_L2 B b) s) idx (by omega) hS (fun t ht => by have := tsV_range (show 0 < c by omega) t ht; omega) R (hsome _ (searchV_ok h d)) (tsV a c ks (rd_L2 B b) s).length 0 (by omega)
    rw [List.take_zero, List.append_nil] at e
    exact e
  intro d
  induction d with
  | zero =>
    intro s hs h0 hsome hnone
    cases h : okV a c ks (rd_L2 B b) S s with
    | true => exact found 0 s h hsome
    | false =>
      have hr := hnone (by simp only [searchV, h, Bool.false_eq_true, ↓reduceIte])
      have hw : wrap64 (s + 1) = s + 1 := w64 (by omega) (by omega)
      rw [fitsV_ok, h]
      refine Ev.succ ?_
      simp only [impl_BuildDisplaced.l2, Bool.false_eq_true, ↓reduceIte, hb0, hbD, rd_set_at D b _ hb0 (show b < (D.length : Int) by omega), hw, Option.bind_some, List.set_set, show s + 1 > 999 from by omega]
      exact Ev.some_ hr.symm
  | succ d ih =>
    intro s hs h0 hsome hnone
    cases h : okV a c ks (rd_L2 B b) S s with
    | true => exact found (d + 1) s h hsome
    | false =>
      have hw : wrap64 (s + 1) = s + 1 := w64 (by omega) (by omega)
      have he : searchV a c ks (rd_L2 B b) S (d + 1) s = searchV a c ks (rd_L2 B b) S d (s + 1) := by simp only [searchV, h, Bool.false_eq_true, ↓reduceIte]
      rw [he] at hsome hnone
      have e := ih (s + 1) (by omega) (by omega) hsome hnone
      rw [fitsV_ok, h]
      refine Ev.succ ?_
      simp only [impl_BuildDisplaced.l2, Bool.false_eq_true, ↓reduceIte, hb0, hbD, rd_set_at D b _ hb0 (show b < (D.length : Int) by omega), hw, Option.bind_some, List.set_set, show ¬ (s + 1 > 999) from by omega, hbB]
      exact Ev.bind (impl_fits_ev a c ks (rd_L2 B b) S (s + 1) u.a0 u.a1 u.c1 u.c2 (by omega) (by omega) u.hs (by omega) hBb.2) e
theorem impl_bd_l1 {a M c : Int} {ks : List ByteArray} {B : List (List Int)} {ord : List Int} (u : Sur a M c ks B ord) :
    ∀ (d i : Nat) (S D : List Int), i + d = ord.length → S.length ≤ 40 * i → (D.length : Int) = M → (∀ b ∈ ord.drop i, rd D b = 0) → Ev (fun k => impl_BuildDisplaced.l1 k a ks c S ord (ord.length : Int) (i : Int) B a M c D) (resV a M c (runV a c ks B (ord.drop i) S D)) := by
  have hn := u.hn
  intro d
  induction d with
  | zero =>
    intro i S D hi hS hD hz
    refine Ev.succ ?_
    simp only [impl_BuildDisplaced.l1, show ¬ ((i : Int) < (ord.length : Int)) from by omega, ↓reduceIte]
    rw [List.drop_of_length_le (by omega)]
    exact Ev.now _
  | succ d ih =>
    intro i S D hi hS hD hz
    have h0 : i < ord.length := by omega
    have hw : wrap64 ((i : Int) + 1) = ((i + 1 : Nat) : Int) := by rw [w64 (by omega) (by omega)]; rfl
    have ho := u.ho ord[i] (List.getElem_mem h0)
    have hoB : ord[i] < (B.length : Int) := by rw [u.hB]; exact ho.2
    have hBb := u.hb _ (rdL_mem B ord[i] ho.1 hoB)
    have hdr := drop_cons ord i h0
    rw [hdr] at hz
    refine Ev.succ ?_
    simp only [impl_BuildDisplaced.l1, show (i : Int) < (ord.length : Int) from by omega, show (0 : Int) ≤ (i : Int) from by omega, ↓reduceIte, rd_nat ord i h0, ho.1, hoB]
    refine Ev.bind (impl_fits_ev a c ks (rd_L2 B ord[i]) S 0 u.a0 u.a1 u.c1 u.c2 (by omega) (by omega) u.hs (by omega) hBb.2) ?_
    have e := impl_bd_l2 u S D ord[i] (i : Int) ho.1 ho.2 hD (by omega) (resV a M c (runV a c ks B (ord.drop i) S D)) 999 0 (by omega) (by omega) (fun q hq => ?_) (fun hq => ?_)
    · rw [set_zero_same D ord[i] ho.1 (hz _ List.mem_cons_self)] at e
      exact e
    · rw [hw, hdr]
      simp only [runV, hq]
      have hl := (searchV_length _ _ q.1 q.2 hq).1
      refine ih (i + 1) _ _ (by omega) (by simp; omega) (by rw [List.length_set]; exact hD) (fun b hb => ?_)
      have hbo := u.ho b (List.mem_of_mem_drop hb)
      have hnd := u.nd
      have hne : ord[i] ≠ b := by
        have h5 := (List.drop_sublist i ord).nodup hnd
        rw [hdr, List.nodup_cons] at h5
        intro e
        exact h5.1 (e ▸ hb)
      rw [rd_set_off D ord[i] b q.1 ho.1 hbo.1 hne]
      exact hz b (List.mem_cons_of_mem _ hb)
    · rw [hdr]
      simp only [runV, hq, resV]
theorem laws_eqStringS_self (l : List ByteArray) (hl : l.length ≤ 9223372036854775807) : Ev (fun k => laws_eqStringS.f k l l) true := by
  unfold laws_eqStringS.f
  simp only [↓reduceIte]
  refine Ev.up (L := fun k i => laws_eqStringS.l0 k l l (i : Int)) (r := fun _ => true) l.length ?_ ?_ 0 (Nat.zero_le _)
  · refine Ev.succ ?_
    have h1 : ¬ ((l.length : Int) < (l.length : Int)) := by omega
    simp only [laws_eqStringS.l0, h1, ↓reduceIte]
    exact Ev.now _
  · intro i hi ih
    refine Ev.succ ?_
    have h1 : (i : Int) < (l.length : Int) := by omega
    have h2 : (0 : Int) ≤ (i : Int) := by omega
    have hw : wrap64 ((i : Int) + 1) = ((i + 1 : Nat) : Int) := by rw [w64 (by omega) (by omega)]; rfl
    simp only [laws_eqStringS.l0, h1, h2, ↓reduceIte, hw]
    exact ih
theorem laws_toStringS_l0 (l : List ByteArray) (hl : l.length ≤ 9223372036854775807) (d : Nat) : ∀ (i : Nat) (o : List ByteArray), o.length = l.length → o.take i = l.take i → i + d = l.length → Ev (fun k => laws_toStringS.l0 k l o (i : Int)) l := by
  induction d with
  | zero =>
    intro i o ho ht hi
    refine Ev.succ ?_
    have h1 : ¬ ((i : Int) < (l.length : Int)) := by omega
    simp only [laws_toStringS.l0, h1, ↓reduceIte]
    rw [List.take_of_length_le (by omega), List.take_of_length_le (by omega)] at ht
    exact Ev.some_ ht
  | succ d ih =>
    intro i o ho ht hi
    refine Ev.succ ?_
    have h1 : (i : Int) < (l.length : Int) := by omega
    have h2 : (0 : Int) ≤ (i : Int) := by omega
    have h3 : (i : Int) < (o.length : Int) := by omega
    have hw : wrap64 ((i : Int) + 1) = ((i + 1 : Nat) : Int) := by rw [w64 (by omega) (by omega)]; rfl
    simp only [laws_toStringS.l0, h1, h2, h3, ↓reduceIte, hw, Int.toNat_natCast]
    exact ih (i + 1) _ (by simp [ho]) (by rw [take_set_succ _ _ _ (by omega), ht, rdOf_nat _ _ _ (by omega), List.take_succ_eq_append_getElem (by omega)]) (by omega)
theorem laws_toStringS_ev (l : List ByteArray) (hl : l.length ≤ 17592186044416) : Ev (fun k => laws_toStringS.f k l) l := by
  have h1 : 0 ≤ (l.length : Int) := by omega
  have h2 : ((l.length : Int)).toNat ≤ 17592186044416 := by omega
  simp only [laws_toStringS.f, h1, h2, ↓reduceIte]
  exact laws_toStringS_l0 l (by omega) l.length 0 _ (by simp) (by simp) (by omega)
def szT : List ByteArray → Int → Int
  | [], m => m
  | s :: r, m => if m - (s.size : Int) < 0 then -1 else szT r (m - (s.size : Int))
theorem szT_le (l : List ByteArray) : ∀ m : Int, 0 ≤ m → szT l m ≤ m := by
  induction l with
  | nil => intro m h; exact Int.le_refl m
  | cons s r ih =>
    intro m h
    unfold szT
    by_cases c : m - (s.size : Int) < 0
    · rw [if_pos c]; omega
    · rw [if_neg c]
      have := ih (m - (s.size : Int)) (by omega)
      omega
theorem szT_sizes (l : List ByteArray) : ∀ m : Int, 0 ≤ szT l m → ∀ s ∈ l, (s.size : Int) ≤ m := by
  induction l with
  | nil => intro m h s hs; cases hs
  | cons x r ih =>
    intro m h s hs
    unfold szT at h
    by_cases c : m - (x.size : Int) < 0
    · rw [if_pos c] at h; omega
    · rw [if_neg c] at h
      rcases List.mem_cons.1 hs with rfl | hs
      · omega
      · have := ih _ h s hs
        omega
theorem laws_szStringS_l0 (l : List ByteArray) (hl : l.length ≤ 9223372036854775807) (hs : ∀ s ∈ l, s.size ≤ 9223372036854775807) (d : Nat) : ∀ (i : Nat) (m : Int), i + d = l.length → 0 ≤ m → m ≤ 1048576 → Ev (fun k => laws_szStringS.l0 k l m (i : Int)) (szT (l.drop i) m) := by
  induction d with
  | zero =>
    intro i m hi m0 m1
    refine Ev.succ ?_
    have h1 : ¬ ((i : Int) < (l.length : Int)) := by omega
    simp only [laws_szStringS.l0, h1, ↓reduceIte]
    exact Ev.some_ (by rw [List.drop_eq_nil_of_le (by omega)]; rfl)
  | succ d ih =>
    intro i m hi m0 m1
    refine Ev.succ ?_
    have h0 : i < l.length := by omega
    have h1 : (i : Int) < (l.length : Int) := by omega
    have h2 : (0 : Int) ≤ (i : Int) := by omega
    have hw : wrap64 ((i : Int) + 1) = ((i + 1 : Nat) : Int) := by rw [w64 (by omega) (by omega)]; rfl
    have hz := hs _ (List.getElem_mem h0)
    have hw2 : wrap64 (m - ((l[i]).size : Int)) = m - ((l[i]).size : Int) := w64 (by omega) (by omega)
    rw [drop_cons l i h0]
    simp only [laws_szStringS.l0, h1, h2, ↓reduceIte, hw, rdOf_nat ByteArray.empty l i h0, hw2, szT]
    by_cases c : m - ((l[i]).size : Int) < 0
    · simp only [c, ↓reduceIte]; exact Ev.now _
    · simp only [c, ↓reduceIte]
      exact ih (i + 1) _ (by omega) (by omega) (by omega)
def szTexts (l : List ByteArray) (m : Int) : Int := if m - (l.length : Int) < 0 then -1 else szT l (m - (l.length : Int))
theorem laws_szStringS_ev (l : List ByteArray) (m : Int) (hl : l.length ≤ 9223372036854775807) (hs : ∀ s ∈ l, s.size ≤ 9223372036854775807) (m0 : 0 ≤ m) (m1 : m ≤ 1048576) : Ev (fun k => laws_szStringS.f k l m) (szTexts l m) := by
  unfold laws_szStringS.f szTexts
  rw [w64 (n := m - (l.length : Int)) (by omega) (by omega)]
  by_cases c : m - (l.length : Int) < 0
  · simp only [c, ↓reduceIte]; exact Ev.now _
  · simp only [c, ↓reduceIte]
    exact laws_szStringS_l0 l hl hs l.length 0 _ (by omega) (by omega) (by omega)
theorem szTexts_of {l : List ByteArray} {m : Int} (h : ¬ szTexts l m < 0) : (l.length : Int) ≤ m ∧ szTexts l m ≤ m ∧ 0 ≤ szTexts l m := by
  have e : szTexts l m = if m - (l.length : Int) < 0 then -1 else szT l (m - (l.length : Int)) := rfl
  by_cases c : m - (l.length : Int) < 0
  · rw [if_pos c] at e; omega
  · rw [if_neg c] at e
    have := szT_le l (m - (l.length : Int)) (by omega)
    omega
theorem laws_eqIntS_self (l : List Int) (hl : l.length ≤ 9223372036854775807) : Ev (fun k => laws_eqIntS.f k l l) true := by
  unfold laws_eqIntS.f
  simp only [↓reduceIte]
  refine Ev.up (L := fun k i => laws_eqIntS.l0 k l l (i : Int)) (r := fun _ => true) l.length ?_ ?_ 0 (Nat.zero_le _)
  · refine Ev.succ ?_
    have h1 : ¬ ((l.length : Int) < (l.length : Int)) := by omega
    simp only [laws_eqIntS.l0, h1, ↓reduceIte]
    exact Ev.now _
  · intro i hi ih
    refine Ev.succ ?_
    have h1 : (i : Int) < (l.length : Int) := by omega
    have h2 : (0 : Int) ≤ (i : Int) := by omega
    have hw : wrap64 ((i : Int) + 1) = ((i + 1 : Nat) : Int) := by rw [w64 (by omega) (by omega)]; rfl
    simp only [laws_eqIntS.l0, h1, h2, ↓reduceIte, hw]
    exact ih
theorem laws_eqDisplaced_self (a b c : Int) (l : List Int) (hl : l.length ≤ 9223372036854775807) : Ev (fun k => laws_eqDisplaced.f k a b c l a b c l) true := by
  simp only [laws_eqDisplaced.f, ↓reduceIte]
  exact Ev.bind (laws_eqIntS_self l hl) (by simp only [↓reduceIte]; exact Ev.now _)
theorem strOfNums_one (x : Int) : (strOfNums [x]).size = 1 := by
  simp [strOfNums, ByteArray.size]
theorem laws_markText_l0 (f : Nat) : ∀ (n : Int) (acc : ByteArray), 0 ≤ n → n < 2 ^ f → n ≤ 4611686018427387904 → acc.size + f ≤ 1000 → ∃ r, Ev (fun k => laws_markText.l0 k n acc) r := by
  induction f with
  | zero =>
    intro n acc h0 h1 hn hs
    refine ⟨(⟨#[109]⟩ : ByteArray) ++ acc, Ev.succ ?_⟩
    have c1 : ¬ (n > 0) := by simp at h1; omega
    have c2 : 1 + acc.size ≤ 9223372036854775807 := by omega
    simp only [laws_markText.l0, c1, c2, ↓reduceIte]
    exact Ev.now _
  | succ f ih =>
    intro n acc h0 h1 hn hs
    by_cases c1 : n > 0
    · have e2 : (2 : Int) ^ (f + 1) = 2 * 2 ^ f := by rw [Int.pow_succ, Int.mul_comm]
      have e : wrap64 (Int.tdiv n 10) = n / 10 := by rw [tdiv_pos h0, w64 (by omega) (by omega)]
      have e3 := strOfNums_one ((wrap64 (48 + (Int.tmod n 10))) % 256)
      obtain ⟨r, hr⟩ := ih (n / 10) (strOfNums [(wrap64 (48 + (Int.tmod n 10))) % 256] ++ acc) (by omega) (by omega) (by omega) (by rw [ByteArray.size_append, e3]; omega)
      refine ⟨r, Ev.succ ?_⟩
      have c3 : (strOfNums [(wrap64 (48 + (Int.tmod n 10))) % 256]).size + acc.size ≤ 9223372036854775807 := by rw [e3]; omega
      simp only [laws_markText.l0, c1, ↓reduceIte, Option.bind_some, c3, e]
      exact hr
    · refine ⟨(⟨#[109]⟩ : ByteArray) ++ acc, Ev.succ ?_⟩
      have c2 : 1 + acc.size ≤ 9223372036854775807 := by omega
      simp only [laws_markText.l0, c1, c2, ↓reduceIte]
      exact Ev.now _
theorem laws_markText_some (n : Int) (h0 : 0 ≤ n) (hn : n ≤ 4611686018427387904) : ∃ r, Ev (fun k => laws_markText.f k n) r := by
  unfold laws_markText.f
  by_cases c : n ≤ 0
  · simp only [c, ↓reduceIte]
    exact ⟨_, Ev.now _⟩
  · simp only [c, ↓reduceIte]
    exact laws_markText_l0 63 n ⟨#[]⟩ h0 (by omega) hn (by decide)
theorem laws_markText_fn : ∃ f : Int → ByteArray, ∀ n : Int, 0 ≤ n → n ≤ 4611686018427387904 → Ev (fun k => laws_markText.f k n) (f n) :=
  ⟨fun n => if h : 0 ≤ n ∧ n ≤ 4611686018427387904 then Classical.choose (laws_markText_some n h.1 h.2) else ⟨#[]⟩, fun n h0 hn => by
    have e : (if h : 0 ≤ n ∧ n ≤ 4611686018427387904 then Classical.choose (laws_markText_some n h.1 h.2) else (⟨#[]⟩ : ByteArray)) = Classical.choose (laws_markText_some n h0 hn) := dif_pos ⟨h0, hn⟩
    show Ev _ (if h : 0 ≤ n ∧ n ≤ 4611686018427387904 then Classical.choose (laws_markText_some n h.1 h.2) else (⟨#[]⟩ : ByteArray))
    rw [e]
    exact Classical.choose_spec (laws_markText_some n h0 hn)⟩
theorem laws_markStringS_l0 (f : Int → ByteArray) (hf : ∀ n : Int, 0 ≤ n → n ≤ 4611686018427387904 → Ev (fun k => laws_markText.f k n) (f n)) (m : Int) (n : Nat) (h0 : 0 ≤ m) (hm : m + n ≤ 4611686018427387904) (d : Nat) : ∀ (i : Nat) (l : List ByteArray), l.length = n → l.take i = marksOf f m i → i + d = n → Ev (fun k => laws_markStringS.l0 k l (m + i) (i : Int)) (m + n, marksOf f m n) := by
  induction d with
  | zero =>
    intro i l hl ht hi
    obtain rfl : i = n := by omega
    refine Ev.succ ?_
    have h1 : ¬ ((i : Int) < (l.length : Int)) := by omega
    simp only [laws_markStringS.l0, h1, ↓reduceIte]
    rw [List.take_of_length_le (by omega)] at ht
    exact Ev.some_ (by rw [ht])
  | succ d ih =>
    intro i l hl ht hi
    refine Ev.succ ?_
    have h1 : (i : Int) < (l.length : Int) := by omega
    have h2 : (0 : Int) ≤ (i : Int) := by omega
    have hw : wrap64 ((i : Int) + 1) = ((i + 1 : Nat) : Int) := by rw [w64 (by omega) (by omega)]; rfl
    have hw2 : wrap64 (m + (i : Int) + 1) = m + ((i + 1 : Nat) : Int) := by rw [w64 (by omega) (by omega)]; omega
    simp only [laws_markStringS.l0, h1, h2, ↓reduceIte, hw, hw2, Int.toNat_natCast]
    refine Ev.bind (hf (m + i) (by omega) (by omega)) ?_
    exact ih (i + 1) (l.set i (f (m + i))) (by simp [hl]) (by rw [take_set_succ _ _ _ (by omega), ht, marksOf_succ]) (by omega)
theorem laws_markStringS_ev (f : Int → ByteArray) (hf : ∀ n : Int, 0 ≤ n → n ≤ 4611686018427387904 → Ev (fun k => laws_markText.f k n) (f n)) (l : List ByteArray) (m : Int) (h0 : 0 ≤ m) (hm : m + l.length ≤ 4611686018427387904) : Ev (fun k => laws_markStringS.f k l m) (m + l.length, marksOf f m l.length) := by
  have h := laws_markStringS_l0 f hf m l.length h0 hm l.length 0 l rfl (by simp [marksOf]) (by omega)
  simpa [laws_markStringS.f] using h
theorem laws_markIntS_l0 (m : Int) (n : Nat) (h0 : 0 ≤ m) (hm : m + n ≤ 4611686018427387904) (d : Nat) : ∀ (i : Nat) (l : List Int), l.length = n → l.take i = marks m i → i + d = n → Ev (fun k => laws_markIntS.l0 k l (m + i) (i : Int)) (m + n, marks m n) := by
  induction d with
  | zero =>
    intro i l hl ht hi
    obtain rfl : i = n := by omega
    refine Ev.succ ?_
    have h1 : ¬ ((i : Int) < (l.length : Int)) := by omega
    simp only [laws_markIntS.l0, h1, ↓reduceIte]
    rw [List.take_of_length_le (by omega)] at ht
    exact Ev.some_ (by rw [ht])
  | succ d ih =>
    intro i l hl ht hi
    refine Ev.succ ?_
    have h1 : (i : Int) < (l.length : Int) := by omega
    have h2 : (0 : Int) ≤ (i : Int) := by omega
    have hw : wrap64 ((i : Int) + 1) = ((i + 1 : Nat) : Int) := by rw [w64 (by omega) (by omega)]; rfl
    have hw2 : wrap64 (m + (i : Int) + 1) = m + ((i + 1 : Nat) : Int) := by rw [w64 (by omega) (by omega)]; omega
    simp only [laws_markIntS.l0, h1, h2, ↓reduceIte, hw, hw2, Int.toNat_natCast]
    exact ih (i + 1) (l.set i (m + i)) (by simp [hl]) (by rw [take_set_succ _ _ _ (by omega), ht, marks_succ]) (by omega)
theorem laws_markIntS_ev (l : List Int) (m : Int) (h0 : 0 ≤ m) (hm : m + l.length ≤ 4611686018427387904) : Ev (fun k => laws_markIntS.f k l m) (m + l.length, marks m l.length) := by
  have h := laws_markIntS_l0 m l.length h0 hm l.length 0 l rfl (by simp [marks]) (by omega)
  simpa [laws_markIntS.f] using h
theorem laws_heldIntS_ev (m : Int) (n : Nat) (h0 : 0 ≤ m) (hm : m + n ≤ 4611686018427387904) : Ev (fun k => laws_heldIntS.f k (marks m n) m) (m + n) := by
  have h := Ev.up (L := fun k i => laws_heldIntS.l0 k (marks m n) (m + (i : Int)) (i : Int)) (r := fun _ => m + n) n ?_ ?_ 0 (Nat.zero_le _)
  · simpa [laws_heldIntS.f] using h
  · refine Ev.succ ?_
    have h1 : ¬ ((n : Int) < ((marks m n).length : Int)) := by rw [marks_length]; omega
    simp only [laws_heldIntS.l0, h1, ↓reduceIte]
    exact Ev.now _
  · intro i hi ih
    refine Ev.succ ?_
    have h1 : (i : Int) < ((marks m n).length : Int) := by rw [marks_length]; omega
    have h2 : (0 : Int) ≤ (i : Int) := by omega
    have h3 : rd (marks m n) (i : Int) = m + i := by rw [rd_nat _ _ (by rw [marks_length]; exact hi)]; simp [marks]
    have hw : wrap64 ((i : Int) + 1) = ((i + 1 : Nat) : Int) := by rw [w64 (by omega) (by omega)]; rfl
    have hw2 : wrap64 (m + (i : Int) + 1) = m + ((i + 1 : Nat) : Int) := by rw [w64 (by omega) (by omega)]; omega
    simp only [laws_heldIntS.l0, h1, h2, h3, ↓reduceIte, hw, hw2]
    exact ih

theorem runV_length {a c : Int} {ks : List ByteArray} {B : List (List Int)} : ∀ (o S D E : List Int), runV a c ks B o S D = some E → E.length = D.length := by
  intro o
  induction o with
  | nil => intro S D E h; simp only [runV, Option.some.injEq] at h; rw [h]
  | cons b r ih =>
    intro S D E h
    simp only [runV] at h
    split at h
    · cases h
    · rw [ih _ _ _ h, List.length_set]
theorem sur_of {a M c : Int} {ks : List ByteArray} (a0 : 0 ≤ a) (a1 : a ≤ 9999) (m0 : 1 ≤ M) (m1 : M ≤ 24) (c0 : 1 ≤ c) (c1 : c ≤ 64) (hk : ks.length ≤ 40) (hs : ∀ s ∈ ks, s.size ≤ 9223372036854775807) (hlen : (ordV (bkV a M ks) 41).length = (bkV a M ks).length) : Sur a M c ks (bkV a M ks) (ordV (bkV a M ks) 41) where
  a0 := a0
  a1 := a1
  m1 := m0
  m2 := m1
  c1 := c0
  c2 := c1
  hs := hs
  hB := (bkV_ok m0 ks).1
  hb := fun l hl => by
    have := (bkV_ok (a := a) m0 ks).2 l hl
    exact ⟨by omega, this.2⟩
  ho := fun b hb => by
    have h1 := ((ordV_mem _ b 41).1 hb).1
    have h2 := (bkV_ok (a := a) m0 ks).1
    omega
  hn := by
    have h2 := (bkV_ok (a := a) m0 ks).1
    omega
  nd := (ordV_pw _ 41).imp (fun h e => by subst e; exact Tb_irrefl h)
def runBD (a M c : Int) (ks : List ByteArray) : Int × Int × Int × List Int × Bool := resV a M c (runV a c ks (bkV a M ks) (ordV (bkV a M ks) 41) [] (List.replicate M.toNat 0))
theorem bk_sorted (a M : Int) (ks : List ByteArray) (m0 : 1 ≤ M) (m1 : M ≤ 24) (hk : ks.length ≤ 40) : (ordV (bkV a M ks) 41).length = (bkV a M ks).length ∧ Ev (fun k => slices_SortStableFunc_int_int_impl_BuildDisplacedc1.f k (rangeI (bkV a M ks).length) (bkV a M ks)) (ordV (bkV a M ks) 41) := by
  have h2 := (bkV_ok (a := a) m0 ks).1
  refine sortStable_ev _ (by omega) (fun x h0 h1 => ?_)
  have := ((bkV_ok (a := a) m0 ks).2 _ (rdL_mem _ x h0 h1)).1
  unfold lenB
  omega
theorem spec_bd_j0 (a M c : Int) (ks : List ByteArray) (a0 : 0 ≤ a) (a1 : a ≤ 9999) (m0 : 1 ≤ M) (m1 : M ≤ 24) (c0 : 1 ≤ c) (c1 : c ≤ 64) (hk : ks.length ≤ 40) (hs : ∀ s ∈ ks, s.size ≤ 9223372036854775807) : Ev (fun k => spec_BuildDisplaced.j0 k a ks M c false) (runBD a M c ks) := by
  have h2 := (bkV_ok (a := a) m0 ks).1
  have hl := (bk_sorted a M ks m0 m1 hk).1
  refine Ev.succ ?_
  simp only [spec_BuildDisplaced.j0, Bool.false_eq_true, ↓reduceIte, show 0 ≤ M from by omega, show M.toNat ≤ 35184372088832 from by omega]
  refine Ev.bind (spec_pfBuckets_ev a M ks a0 a1 m0 m1 hk hs) ?_
  refine Ev.bind (pfOrder_ev _ (by omega)) ?_
  exact spec_bd_l0 (sur_of a0 a1 m0 m1 c0 c1 hk hs hl) _ 0 [] _ (Nat.zero_add _) (by simp) (by rw [List.length_replicate]; omega)
theorem impl_bd_j0 (a M c : Int) (ks : List ByteArray) (a0 : 0 ≤ a) (a1 : a ≤ 9999) (m0 : 1 ≤ M) (m1 : M ≤ 24) (c0 : 1 ≤ c) (c1 : c ≤ 64) (hk : ks.length ≤ 40) (hs : ∀ s ∈ ks, s.size ≤ 9223372036854775807) : Ev (fun k => impl_BuildDisplaced.j0 k a ks M c false) (runBD a M c ks) := by
  have h2 := (bkV_ok (a := a) m0 ks).1
  obtain ⟨hl, hsort⟩ := bk_sorted a M ks m0 m1 hk
  refine Ev.succ ?_
  simp only [impl_BuildDisplaced.j0, Bool.false_eq_true, ↓reduceIte]
  refine Ev.bind (impl_buckets_ev a M ks a0 a1 m0 m1 hk hs) ?_
  have u := sur_of a0 a1 m0 m1 c0 c1 hk hs hl
  unfold runBD
  generalize bkV a M ks = B at *
  suffices H : ∀ d i : Nat, i + d = B.length → Ev (fun k => impl_BuildDisplaced.l0 k a ks M c (rangeI i) [] (B.length : Int) (i : Int) B) (resV a M c (runV a c ks B (ordV B 41) [] (List.replicate M.toNat 0))) from H B.length 0 (Nat.zero_add _)
  intro d
  induction d with
  | zero =>
    intro i hi
    obtain rfl : i = B.length := by omega
    refine Ev.succ ?_
    simp only [impl_BuildDisplaced.l0, show ¬ ((B.length : Int) < (B.length : Int)) from by omega, ↓reduceIte, show 0 ≤ M from by omega, show M.toNat ≤ 35184372088832 from by omega]
    refine Ev.bind hsort ?_
    have e := impl_bd_l1 u (ordV B 41).length 0 [] (List.replicate M.toNat 0) (Nat.zero_add _) (by simp) (by rw [List.length_replicate]; omega) (fun b hb => by
      unfold rd
      rw [List.getD_eq_getElem?_getD, List.getElem?_replicate]
      split <;> rfl)
    rw [rangeI_length, ← hl]
    exact e
  | succ d ih =>
    intro i hi
    have hw : wrap64 ((i : Int) + 1) = ((i + 1 : Nat) : Int) := by rw [w64 (by omega) (by omega)]; rfl
    refine Ev.succ ?_
    simp only [impl_BuildDisplaced.l0, show (i : Int) < (B.length : Int) from by omega, ↓reduceIte, show (rangeI i).length < 17592186044416 from by rw [rangeI_length]; omega, hw]
    rw [← rangeI_succ]
    exact ih (i + 1) (by omega)
def BDV (a M c : Int) (ks : List ByteArray) : Int × Int × Int × List Int × Bool := if (0 ≤ a ∧ a ≤ 9999) ∧ areKeys ks = true ∧ (1 ≤ M ∧ M ≤ 24) ∧ (1 ≤ c ∧ c ≤ 64) then runBD a M c ks else (0, 0, 0, [], false)
theorem BDV_length (a M c : Int) (ks : List ByteArray) : (BDV a M c ks).2.2.2.1.length ≤ 24 := by
  unfold BDV
  by_cases h : (0 ≤ a ∧ a ≤ 9999) ∧ areKeys ks = true ∧ (1 ≤ M ∧ M ≤ 24) ∧ (1 ≤ c ∧ c ≤ 64)
  · rw [if_pos h]
    unfold runBD
    cases e : runV a c ks (bkV a M ks) (ordV (bkV a M ks) 41) [] (List.replicate M.toNat 0) with
    | none => exact Nat.zero_le _
    | some D =>
      have := runV_length _ _ _ _ e
      rw [List.length_replicate] at this
      show D.length ≤ 24
      omega
  · rw [if_neg h]
    exact Nat.zero_le _
theorem spec_BuildDisplaced_ev (a M c : Int) (ks : List ByteArray) (hk : ks.length ≤ 9223372036854775807) (hs : ∀ s ∈ ks, s.size ≤ 9223372036854775807) : Ev (fun k => spec_BuildDisplaced.f k a ks M c) (BDV a M c ks) := by
  have no : Ev (fun k => spec_BuildDisplaced.j0 k a ks M c true) (0, 0, 0, [], false) := by
    refine Ev.succ ?_
    simp only [spec_BuildDisplaced.j0, ↓reduceIte]
    exact Ev.now _
  unfold spec_BuildDisplaced.f BDV
  simp only [spec_l1In_eq, Option.bind_some]
  by_cases h1 : 0 ≤ a ∧ a ≤ 9999
  · simp only [h1, and_self, decide_true, ↓reduceIte, true_and]
    refine Ev.bind (spec_biKeys_ev ks hk hs) ?_
    cases h2 : areKeys ks with
    | false => simp only [Bool.false_eq_true, ↓reduceIte, false_and]; exact no
    | true =>
      simp only [↓reduceIte, true_and]
      by_cases h3 : 1 ≤ M ∧ M ≤ 24
      · simp only [h3, and_self, decide_true, ↓reduceIte, true_and]
        by_cases h4 : 1 ≤ c ∧ c ≤ 64
        · simp only [h4, and_self, decide_true, Bool.not_true, ↓reduceIte]
          exact spec_bd_j0 a M c ks h1.1 h1.2 h3.1 h3.2 h4.1 h4.2 (areKeys_of h2).1 hs
        · simp only [h4, decide_false, Bool.not_false, ↓reduceIte]
          exact no
      · simp only [h3, decide_false, Bool.false_eq_true, ↓reduceIte, false_and]
        exact no
  · simp only [h1, decide_false, Bool.false_eq_true, ↓reduceIte, false_and]
    exact no
theorem impl_BuildDisplaced_ev (a M c : Int) (ks : List ByteArray) (hk : ks.length ≤ 9223372036854775807) (hs : ∀ s ∈ ks, s.size ≤ 9223372036854775807) : Ev (fun k => impl_BuildDisplaced.f k a ks M c) (BDV a M c ks) := by
  have no : Ev (fun k => impl_BuildDisplaced.j0 k a ks M c true) (0, 0, 0, [], false) := by
    refine Ev.succ ?_
    simp only [impl_BuildDisplaced.j0, ↓reduceIte]
    exact Ev.now _
  unfold impl_BuildDisplaced.f BDV
  simp only [impl_isSeed_eq, impl_in_eq, Option.bind_some]
  by_cases h1 : 0 ≤ a ∧ a ≤ 9999
  · simp only [h1, and_self, decide_true, ↓reduceIte, true_and]
    refine Ev.bind (impl_AreKeys_ev ks hk hs) ?_
    cases h2 : areKeys ks with
    | false => simp only [Bool.false_eq_true, ↓reduceIte, false_and]; exact no
    | true =>
      simp only [↓reduceIte, true_and]
      by_cases h3 : 1 ≤ M ∧ M ≤ 24
      · simp only [h3, and_self, decide_true, ↓reduceIte, true_and]
        by_cases h4 : 1 ≤ c ∧ c ≤ 64
        · simp only [h4, and_self, decide_true, Bool.not_true, ↓reduceIte]
          exact impl_bd_j0 a M c ks h1.1 h1.2 h3.1 h3.2 h4.1 h4.2 (areKeys_of h2).1 hs
        · simp only [h4, decide_false, Bool.not_false, ↓reduceIte]
          exact no
      · simp only [h3, decide_false, Bool.false_eq_true, ↓reduceIte, false_and]
        exact no
  · simp only [h1, decide_false, Bool.false_eq_true, ↓reduceIte, false_and]
    exact no
theorem FnExactBuildDisplaced : ∀ (a0 : Int) (l1 : List ByteArray) (a2 : Int) (a3 : Int), ((Lit.int .i64 a0).wf = true) → (l1.length ≤ maxLen ∧ ∀ l1' ∈ l1, l1'.size ≤ maxLen) → ((Lit.int .i64 a2).wf = true) → ((Lit.int .i64 a3).wf = true) → ∃ k, laws_FnExactBuildDisplaced.f k a0 l1 a2 a3 = some true := by
  intro a ks M c h0 hk h2 h3
  refine Ev.rounds ?_
  have hk1 : ks.length ≤ 9223372036854775807 := by have := hk.1; unfold maxLen at this; exact this
  have hk2 : ∀ s ∈ ks, s.size ≤ 9223372036854775807 := by have := hk.2; unfold maxLen at this; exact this
  obtain ⟨f, hf⟩ := laws_markText_fn
  unfold laws_FnExactBuildDisplaced.f
  refine Ev.bind (laws_szStringS_ev ks _ hk1 hk2 (by omega) (by omega)) ?_
  by_cases z : szTexts ks 1048576 < 0
  · simp only [z, ↓reduceIte]; exact Ev.now _
  simp only [z, ↓reduceIte]
  have zz := szTexts_of z
  have hg := BDV_length a M c ks
  have hi := impl_BuildDisplaced_ev a M c ks hk1 hk2
  refine Ev.bind (laws_toStringS_ev ks (by omega)) ?_
  refine Ev.bind (spec_BuildDisplaced_ev a M c ks hk1 hk2) ?_
  refine Ev.bind (laws_toStringS_ev ks (by omega)) ?_
  refine Ev.bind hi ?_
  generalize BDV a M c ks = v at *
  obtain ⟨v0, v1, v2, v3, v4⟩ := v
  simp only at hg
  refine Ev.bind (laws_eqDisplaced_self v0 v1 v2 v3 (by omega)) ?_
  simp only [↓reduceIte, bne_self_eq_false]
  refine Ev.succ ?_
  simp only [laws_FnExactBuildDisplaced.j0, Bool.false_eq_true, ↓reduceIte]
  refine Ev.bind (laws_toStringS_ev ks (by omega)) ?_
  refine Ev.bind (laws_eqStringS_self ks hk1) ?_
  simp only [↓reduceIte]
  refine Ev.bind (laws_markStringS_ev f hf ks 1 (by omega) (by omega)) ?_
  simp only [show ¬ ((1 : Int) + (ks.length : Int) < 0) from by omega, ↓reduceIte]
  refine Ev.bind (laws_eqDisplaced_self v0 v1 v2 v3 (by omega)) ?_
  simp only [↓reduceIte, bne_self_eq_false]
  refine Ev.succ ?_
  simp only [laws_FnExactBuildDisplaced.j1, Bool.false_eq_true, ↓reduceIte]
  have hheld : Ev (fun k => laws_heldDisplaced.f k v0 v1 v2 (marks 1 v3.length) 1) (1 + (v3.length : Int)) := by
    unfold laws_heldDisplaced.f
    refine Ev.bind (laws_heldIntS_ev 1 v3.length (by omega) (by omega)) ?_
    simp only [show ¬ ((1 : Int) + (v3.length : Int) < 0) from by omega, ↓reduceIte]
    exact Ev.now _
  unfold laws_markDisplaced.f
  refine Ev.bind (a := (1 + (v3.length : Int), marks 1 v3.length)) (Ev.bind (laws_markIntS_ev v3 1 (by omega) (by omega)) (Ev.now _)) ?_
  refine Ev.bind hheld ?_
  simp only [show ¬ ((1 : Int) + (v3.length : Int) < 0) from by omega, ↓reduceIte]
  refine Ev.bind (laws_toStringS_ev ks (by omega)) ?_
  refine Ev.bind hi ?_
  refine Ev.bind (laws_eqDisplaced_self v0 v1 v2 v3 (by omega)) ?_
  simp only [↓reduceIte, bne_self_eq_false]
  refine Ev.succ ?_
  simp only [laws_FnExactBuildDisplaced.j2, Bool.false_eq_true, ↓reduceIte]
  refine Ev.bind hheld ?_
  simp only [show ¬ ((1 : Int) + (v3.length : Int) < 0) from by omega, ↓reduceIte]
  exact Ev.now _

end Go.Proofs.Ytohfcpekgdbobaa.Pure
