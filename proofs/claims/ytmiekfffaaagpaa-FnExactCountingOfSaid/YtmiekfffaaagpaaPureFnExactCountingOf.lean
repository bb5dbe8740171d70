/- The program's CountingOf returns what the reference's returns, for all arguments. -/
import Derived.Test.YtmiekfffaaagpaaPFnExactCountingOfx7
import Derived.Test.YtmiekfffaaagpaaBase
namespace Go.Proofs.Ytmiekfffaaagpaa.Pure
open Go.RowKit Go.Proofs.Ytmiekfffaaagpaa.PFnExactCountingOf Go.Proofs.YtmiekfffaaagpaaW.PrintWords Go.Proofs.YtmiekfffaaagpaaW.PrintLast Go.Proofs.Ytmiekfffaaagpaa.Base
set_option linter.unusedVariables false
set_option linter.unusedSimpArgs false

theorem impl_in_eq (a b c : Int) : impl_in.f a b c = some (decide (b ≤ a ∧ a ≤ c)) := by
  unfold impl_in.f
  by_cases h : b ≤ a <;> simp [h]
theorem spec_l1In_eq (a b c : Int) : spec_l1In.f a b c = some (decide (b ≤ a ∧ a ≤ c)) := by
  unfold spec_l1In.f
  by_cases h : b ≤ a <;> simp [h]
theorem spec_fiSize_eq (a b c : Int) : spec_fiSize.f a b c = some (decide ((0 ≤ a ∧ a ≤ 9999) ∧ (1 ≤ b ∧ b ≤ 8) ∧ 1 ≤ c ∧ c ≤ 512)) := by
  by_cases h : 0 ≤ a ∧ a ≤ 9999 <;> by_cases h2 : 1 ≤ b ∧ b ≤ 8 <;> simp [spec_fiSize.f, spec_l1In_eq, h, h2]
theorem impl_isSeed_eq (a : Int) : impl_isSeed.f a = some (decide (0 ≤ a ∧ a ≤ 9999)) := by
  simp only [impl_isSeed.f, impl_in_eq, Option.bind_some]
theorem impl_sizesOk_eq (a b c : Int) : impl_sizesOk.f a b c = some (decide ((0 ≤ a ∧ a ≤ 9999) ∧ (1 ≤ b ∧ b ≤ 8) ∧ 1 ≤ c ∧ c ≤ 512)) := by
  by_cases h : 0 ≤ a ∧ a ≤ 9999 <;> by_cases h2 : 1 ≤ b ∧ b ≤ 8 <;> simp [impl_sizesOk.f, impl_isSeed_eq, impl_in_eq, h, h2]
def goodCounting (a b : Int) (l : List Int) : Bool := decide ((0 ≤ a ∧ a ≤ 9999) ∧ (1 ≤ b ∧ b ≤ 8) ∧ 1 ≤ (l.length : Int) ∧ (l.length : Int) ≤ 512) && l.all (inB 0 15)
theorem any_not_all {α : Type} (p : α → Bool) (l : List α) : l.any (fun x => !p x) = !l.all p := by
  induction l with
  | nil => rfl
  | cons x l ih => simp only [List.any_cons, List.all_cons, ih, Bool.not_and]
theorem laws_eqIntS_self (l : List Int) (hl : l.length ≤ 9223372036854775807) : Ev (fun k => laws_eqIntS.f k l l) true := by
  unfold laws_eqIntS.f
  simp only [↓reduceIte]
  refine Ev.up (L := fun k i => laws_eqIntS.l0 k l l (i : Int)) (r := fun _ => true) l.length ?_ ?_ 0 (Nat.zero_le _)
  · refine Ev.succ ?_
    have h1 : ¬ ((l.length : Int) < (l.length : Int)) := by omega
    simp only [laws_eqIntS.l0, h1, ↓reduceIte]
    exact Ev.now _
  · intro i hi ih
    refine Ev.succ ?_
    have h1 : (i : Int) < (l.length : Int) := by omega
    have h2 : (0 : Int) ≤ (i : Int) := by omega
    have hw : wrap64 ((i : Int) + 1) = ((i + 1 : Nat) : Int) := by rw [w64 (by omega) (by omega)]; rfl
    simp only [laws_eqIntS.l0, h1, h2, ↓reduceIte, hw]
    exact ih
theorem laws_eqCounting_self (a b : Int) (l : List Int) (hl : l.length ≤ 9223372036854775807) : Ev (fun k => laws_eqCounting.f k a b l a b l) true := by
  simp only [laws_eqCounting.f, ↓reduceIte]
  exact Ev.bind (laws_eqIntS_self l hl) (by simp only [↓reduceIte]; exact Ev.now _)
theorem spec_pow (h : Int) (h0 : 0 ≤ h) (h1 : h < 65521) : Int.tmod (wrap64 ((Int.tmod (wrap64 ((Int.tmod (wrap64 ((Int.tmod (wrap64 ((Int.tmod (wrap64 (h * h)) 65521) * (Int.tmod (wrap64 (h * h)) 65521))) 65521) * h)) 65521) * (Int.tmod (wrap64 ((Int.tmod (wrap64 ((Int.tmod (wrap64 (h * h)) 65521) * (Int.tmod (wrap64 (h * h)) 65521))) 65521) * h)) 65521))) 65521) * h)) 65521 = h ^ 11 % 65521 := by
  have step : ∀ a b : Int, 0 ≤ a → a < 65521 → 0 ≤ b → b < 65521 → Int.tmod (wrap64 (a * b)) 65521 = a * b % 65521 := by
    intro a b ha ha' hb hb'
    obtain ⟨p0, p1⟩ := prod_range ha ha' hb hb'
    rw [w64 (by omega) (by omega), tmod_pos p0]
  have rng : ∀ x : Int, 0 ≤ x % 65521 ∧ x % 65521 < 65521 := fun x => ⟨Int.emod_nonneg _ (by decide), Int.emod_lt_of_pos _ (by decide)⟩
  rw [step h h h0 h1 h0 h1]
  rw [step _ _ (rng _).1 (rng _).2 (rng _).1 (rng _).2]
  rw [step _ _ (rng _).1 (rng _).2 h0 h1]
  rw [step _ _ (rng _).1 (rng _).2 (rng _).1 (rng _).2]
  rw [step _ _ (rng _).1 (rng _).2 h0 h1]
  simp only [mul_mod_l, mul_mod_r]
  congr 1
  simp only [Int.pow_succ, Int.pow_zero, Int.one_mul, Int.mul_assoc]
theorem spec_biHash_l0 (s : ByteArray) (hs : s.size ≤ 9223372036854775807) (d : Nat) : ∀ (i : Nat) (h : Int), i + d = s.size → 0 ≤ h → h < 65521 → Ev (fun k => spec_biHash.l0 k s h (i : Int)) (hashFrom h ((bytesOf s).drop i)) := by
  induction d with
  | zero =>
    intro i h hi h0 h1
    refine Ev.succ ?_
    have c1 : ¬ ((i : Int) < (s.size : Int)) := by omega
    simp only [spec_biHash.l0, c1, ↓reduceIte]
    rw [spec_pow h h0 h1]
    exact Ev.some_ (by rw [List.drop_of_length_le (by rw [bytesOf_length]; omega)]; rfl)
  | succ d ih =>
    intro i h hi h0 h1
    refine Ev.succ ?_
    have c1 : (i : Int) < (s.size : Int) := by omega
    have c2 : (0 : Int) ≤ (i : Int) := by omega
    have hw : wrap64 ((i : Int) + 1) = ((i + 1 : Nat) : Int) := by rw [w64 (by omega) (by omega)]; rfl
    have hb := bt_nat s i (by omega)
    have hr := bt_range s i
    have e : Int.tmod (wrap64 ((wrap64 (263 * h)) + (wrap64 (bt s i)))) 65521 = hstep h (bt s i) := by
      rw [w64 (n := 263 * h) (by omega) (by omega), w64 (n := bt s i) (by omega) (by omega), w64 (by omega) (by omega), tmod_pos (by omega)]
      rfl
    simp only [spec_biHash.l0, c1, c2, ↓reduceIte, hw, e]
    rw [drop_cons _ _ (by rw [bytesOf_length]; omega), ← hb]
    exact ih (i + 1) (hstep h (bt s i)) (by omega) (Int.emod_nonneg _ (by decide)) (Int.emod_lt_of_pos _ (by decide))
theorem spec_biHash_ev (a b : Int) (s : ByteArray) (hs : s.size ≤ 9223372036854775807) (ha0 : 0 ≤ a) (ha1 : a ≤ 9999) (hb0 : 0 ≤ b) (hb1 : b ≤ 9) : Ev (fun k => spec_biHash.f k a b s) (hashV a b s) := by
  have e : Int.tmod (wrap64 ((wrap64 ((wrap64 (31 * a)) + (wrap64 (977 * b)))) + 7)) 65521 = hash0 a b := by
    rw [w64 (n := 31 * a) (by omega) (by omega), w64 (n := 977 * b) (by omega) (by omega), w64 (n := 31 * a + 977 * b) (by omega) (by omega), w64 (by omega) (by omega), tmod_pos (by omega)]
    rfl
  unfold spec_biHash.f
  simp only [e]
  exact spec_biHash_l0 s hs s.size 0 (hash0 a b) (by omega) (Int.emod_nonneg _ (by decide)) (Int.emod_lt_of_pos _ (by decide))
theorem spec_biPlace_ev (a b : Int) (s : ByteArray) (n : Int) (hs : s.size ≤ 9223372036854775807) (ha0 : 0 ≤ a) (ha1 : a ≤ 9999) (hb0 : 0 ≤ b) (hb1 : b ≤ 9) (hn0 : 0 ≤ n) (hn1 : n ≤ 65521) : Ev (fun k => spec_biPlace.f k a b s n) (placeV a b s n) := by
  have hr := hash_range a b s
  have p0 : 0 ≤ hashV a b s * n := Int.mul_nonneg hr.1 hn0
  have p1 : hashV a b s * n ≤ 4293001441 := by
    have h1 : hashV a b s * n ≤ hashV a b s * 65521 := Int.mul_le_mul_of_nonneg_left (by omega) hr.1
    omega
  unfold spec_biPlace.f
  refine Ev.bind (spec_biHash_ev a b s hs ha0 ha1 hb0 hb1) ?_
  refine Ev.some_ ?_
  have h2 : hashV a b s * n / 65521 ≤ hashV a b s * n := Int.ediv_le_self _ p0
  have h3 : 0 ≤ hashV a b s * n / 65521 := Int.ediv_nonneg p0 (by decide)
  rw [w64 (n := hashV a b s * n) (by omega) (by omega), tdiv_pos p0, w64 (by omega) (by omega)]
  rfl
theorem spec_fiProbes_l0 (a b c : Int) (s : ByteArray) (hs : s.size ≤ 9223372036854775807) (ha0 : 0 ≤ a) (ha1 : a ≤ 9999) (hb0 : 0 ≤ b) (hb1 : b ≤ 9) (hc0 : 0 ≤ c) (hc1 : c ≤ 65521) (d : Nat) : ∀ i : Nat, i + d = b.toNat → Ev (fun k => spec_fiProbes.l0 k a b c s (probesV a c s i) (i : Int)) (probesV a c s b.toNat) := by
  induction d with
  | zero =>
    intro i hi
    refine Ev.succ ?_
    have h1 : ¬ ((i : Int) < b) := by omega
    simp only [spec_fiProbes.l0, h1, ↓reduceIte]
    exact Ev.some_ (by rw [← hi]; rfl)
  | succ d ih =>
    intro i hi
    refine Ev.succ ?_
    have h1 : (i : Int) < b := by omega
    have hw : wrap64 ((i : Int) + 1) = ((i + 1 : Nat) : Int) := by rw [w64 (by omega) (by omega)]; rfl
    have h2 : (probesV a c s i).length < 17592186044416 := by rw [probesV_length]; omega
    simp only [spec_fiProbes.l0, h1, h2, ↓reduceIte, hw]
    refine Ev.bind (spec_biPlace_ev a i s c hs ha0 ha1 (by omega) (by omega) hc0 hc1) ?_
    rw [← probesV_succ]
    exact ih (i + 1) (by omega)
theorem spec_fiProbes_ev (a b c : Int) (s : ByteArray) (hs : s.size ≤ 9223372036854775807) (ha0 : 0 ≤ a) (ha1 : a ≤ 9999) (hb0 : 0 ≤ b) (hb1 : b ≤ 9) (hc0 : 0 ≤ c) (hc1 : c ≤ 65521) : Ev (fun k => spec_fiProbes.f k a b c s) (probesV a c s b.toNat) := spec_fiProbes_l0 a b c s hs ha0 ha1 hb0 hb1 hc0 hc1 b.toNat 0 (by omega)
theorem impl_hash_l1 (h : Int) (h0 : 0 ≤ h) (h1 : h < 65521) (d : Nat) : ∀ (i : Nat) (o : Int), i + d = 11 → o = h ^ i % 65521 → Ev (fun k => impl_hash.l1 k h o (i : Int)) (h ^ 11 % 65521) := by
  induction d with
  | zero =>
    intro i o hi ho
    obtain rfl : i = 11 := by omega
    refine Ev.succ ?_
    simp only [impl_hash.l1]
    exact Ev.some_ ho
  | succ d ih =>
    intro i o hi ho
    refine Ev.succ ?_
    have c1 : (i : Int) < 11 := by omega
    have hw : wrap64 ((i : Int) + 1) = ((i + 1 : Nat) : Int) := by rw [w64 (by omega) (by omega)]; rfl
    have r : 0 ≤ o ∧ o < 65521 := by rw [ho]; exact ⟨Int.emod_nonneg _ (by decide), Int.emod_lt_of_pos _ (by decide)⟩
    obtain ⟨p0, p1⟩ := prod_range r.1 r.2 h0 h1
    have e : Int.tmod (wrap64 (o * h)) 65521 = h ^ (i + 1) % 65521 := by
      rw [w64 (by omega) (by omega), tmod_pos p0, ho, mul_mod_l, Int.pow_succ]
    simp only [impl_hash.l1, c1, ↓reduceIte, hw]
    exact ih (i + 1) _ (by omega) e
theorem impl_hash_l0 (s : ByteArray) (hs : s.size ≤ 9223372036854775807) (d : Nat) : ∀ (i : Nat) (h : Int), i + d = s.size → 0 ≤ h → h < 65521 → Ev (fun k => impl_hash.l0 k s h (s.size : Int) (i : Int)) (hashFrom h ((bytesOf s).drop i)) := by
  induction d with
  | zero =>
    intro i h hi h0 h1
    refine Ev.succ ?_
    have c1 : ¬ ((i : Int) < (s.size : Int)) := by omega
    simp only [impl_hash.l0, c1, ↓reduceIte]
    rw [List.drop_of_length_le (by rw [bytesOf_length]; omega)]
    exact impl_hash_l1 h h0 h1 11 0 1 (by omega) (by simp)
  | succ d ih =>
    intro i h hi h0 h1
    refine Ev.succ ?_
    have c1 : (i : Int) < (s.size : Int) := by omega
    have c2 : (0 : Int) ≤ (i : Int) := by omega
    have hw : wrap64 ((i : Int) + 1) = ((i + 1 : Nat) : Int) := by rw [w64 (by omega) (by omega)]; rfl
    have hb := bt_nat s i (by omega)
    have hr := bt_range s i
    have e : Int.tmod (wrap64 ((wrap64 (263 * h)) + (wrap64 (bt s i)))) 65521 = hstep h (bt s i) := by
      rw [w64 (n := 263 * h) (by omega) (by omega), w64 (n := bt s i) (by omega) (by omega), w64 (by omega) (by omega), tmod_pos (by omega)]
      rfl
    simp only [impl_hash.l0, c1, c2, ↓reduceIte, hw, e]
    rw [drop_cons _ _ (by rw [bytesOf_length]; omega), ← hb]
    exact ih (i + 1) (hstep h (bt s i)) (by omega) (Int.emod_nonneg _ (by decide)) (Int.emod_lt_of_pos _ (by decide))
theorem impl_hash_ev (a b : Int) (s : ByteArray) (hs : s.size ≤ 9223372036854775807) (ha0 : 0 ≤ a) (ha1 : a ≤ 9999) (hb0 : 0 ≤ b) (hb1 : b ≤ 9) : Ev (fun k => impl_hash.f k a b s) (hashV a b s) := by
  have e : Int.tmod (wrap64 ((wrap64 ((wrap64 (31 * a)) + (wrap64 (977 * b)))) + 7)) 65521 = hash0 a b := by
    rw [w64 (n := 31 * a) (by omega) (by omega), w64 (n := 977 * b) (by omega) (by omega), w64 (n := 31 * a + 977 * b) (by omega) (by omega), w64 (by omega) (by omega), tmod_pos (by omega)]
    rfl
  unfold impl_hash.f
  simp only [e]
  exact impl_hash_l0 s hs s.size 0 (hash0 a b) (by omega) (Int.emod_nonneg _ (by decide)) (Int.emod_lt_of_pos _ (by decide))
theorem impl_place_ev (a b : Int) (s : ByteArray) (n : Int) (hs : s.size ≤ 9223372036854775807) (ha0 : 0 ≤ a) (ha1 : a ≤ 9999) (hb0 : 0 ≤ b) (hb1 : b ≤ 9) (hn0 : 0 ≤ n) (hn1 : n ≤ 65521) : Ev (fun k => impl_place.f k a b s n) (placeV a b s n) := by
  have hr := hash_range a b s
  have p0 : 0 ≤ hashV a b s * n := Int.mul_nonneg hr.1 hn0
  have p1 : hashV a b s * n ≤ 4293001441 := by
    have h1 : hashV a b s * n ≤ hashV a b s * 65521 := Int.mul_le_mul_of_nonneg_left (by omega) hr.1
    omega
  unfold impl_place.f
  refine Ev.bind (impl_hash_ev a b s hs ha0 ha1 hb0 hb1) ?_
  refine Ev.some_ ?_
  have h2 : hashV a b s * n / 65521 ≤ hashV a b s * n := Int.ediv_le_self _ p0
  have h3 : 0 ≤ hashV a b s * n / 65521 := Int.ediv_nonneg p0 (by decide)
  rw [w64 (n := hashV a b s * n) (by omega) (by omega), tdiv_pos p0, w64 (by omega) (by omega)]
  rfl
theorem impl_probesOf_l0 (a b c : Int) (s : ByteArray) (hs : s.size ≤ 9223372036854775807) (ha0 : 0 ≤ a) (ha1 : a ≤ 9999) (hb0 : 0 ≤ b) (hb1 : b ≤ 9) (hc0 : 0 ≤ c) (hc1 : c ≤ 65521) (d : Nat) : ∀ i : Nat, i + d = b.toNat → Ev (fun k => impl_probesOf.l0 k a c s (probesV a c s i) b (i : Int)) (probesV a c s b.toNat) := by
  induction d with
  | zero =>
    intro i hi
    refine Ev.succ ?_
    have h1 : ¬ ((i : Int) < b) := by omega
    simp only [impl_probesOf.l0, h1, ↓reduceIte]
    exact Ev.some_ (by rw [← hi]; rfl)
  | succ d ih =>
    intro i hi
    refine Ev.succ ?_
    have h1 : (i : Int) < b := by omega
    have hw : wrap64 ((i : Int) + 1) = ((i + 1 : Nat) : Int) := by rw [w64 (by omega) (by omega)]; rfl
    have h2 : (probesV a c s i).length < 17592186044416 := by rw [probesV_length]; omega
    simp only [impl_probesOf.l0, h1, h2, ↓reduceIte, hw]
    refine Ev.bind (impl_place_ev a i s c hs ha0 ha1 (by omega) (by omega) hc0 hc1) ?_
    rw [← probesV_succ]
    exact ih (i + 1) (by omega)
theorem impl_probesOf_ev (a b c : Int) (s : ByteArray) (hs : s.size ≤ 9223372036854775807) (ha0 : 0 ≤ a) (ha1 : a ≤ 9999) (hb0 : 0 ≤ b) (hb1 : b ≤ 9) (hc0 : 0 ≤ c) (hc1 : c ≤ 65521) : Ev (fun k => impl_probesOf.f k a b c s) (probesV a c s b.toNat) := impl_probesOf_l0 a b c s hs ha0 ha1 hb0 hb1 hc0 hc1 b.toNat 0 (by omega)
theorem probesV_range {a c : Int} {s : ByteArray} {n : Nat} (h : 0 < c) : ∀ x ∈ probesV a c s n, 0 ≤ x ∧ x < c := by
  intro x hx
  unfold probesV at hx
  obtain ⟨i, _, rfl⟩ := List.mem_map.1 hx
  exact place_range h
theorem laws_markIntS_l0 (m : Int) (n : Nat) (h0 : 0 ≤ m) (hm : m + n ≤ 4611686018427387904) (d : Nat) : ∀ (i : Nat) (l : List Int), l.length = n → l.take i = marks m i → i + d = n → Ev (fun k => laws_markIntS.l0 k l (m + i) (i : Int)) (m + n, marks m n) := by
  induction d with
  | zero =>
    intro i l hl ht hi
    obtain rfl : i = n := by omega
    refine Ev.succ ?_
    have h1 : ¬ ((i : Int) < (l.length : Int)) := by omega
    simp only [laws_markIntS.l0, h1, ↓reduceIte]
    rw [List.take_of_length_le (by omega)] at ht
    exact Ev.some_ (by rw [ht])
  | succ d ih =>
    intro i l hl ht hi
    refine Ev.succ ?_
    have h1 : (i : Int) < (l.length : Int) := by omega
    have h2 : (0 : Int) ≤ (i : Int) := by omega
    have hw : wrap64 ((i : Int) + 1) = ((i + 1 : Nat) : Int) := by rw [w64 (by omega) (by omega)]; rfl
    have hw2 : wrap64 (m + (i : Int) + 1) = m + ((i + 1 : Nat) : Int) := by rw [w64 (by omega) (by omega)]; omega
    simp only [laws_markIntS.l0, h1, h2, ↓reduceIte, hw, hw2, Int.toNat_natCast]
    exact ih (i + 1) (l.set i (m + i)) (by simp [hl]) (by rw [take_set_succ _ _ _ (by omega), ht, marks_succ]) (by omega)
theorem laws_markIntS_ev (l : List Int) (m : Int) (h0 : 0 ≤ m) (hm : m + l.length ≤ 4611686018427387904) : Ev (fun k => laws_markIntS.f k l m) (m + l.length, marks m l.length) := by
  have h := laws_markIntS_l0 m l.length h0 hm l.length 0 l rfl (by simp [marks]) (by omega)
  simpa [laws_markIntS.f] using h
theorem laws_heldIntS_ev (m : Int) (n : Nat) (h0 : 0 ≤ m) (hm : m + n ≤ 4611686018427387904) : Ev (fun k => laws_heldIntS.f k (marks m n) m) (m + n) := by
  have h := Ev.up (L := fun k i => laws_heldIntS.l0 k (marks m n) (m + (i : Int)) (i : Int)) (r := fun _ => m + n) n ?_ ?_ 0 (Nat.zero_le _)
  · simpa [laws_heldIntS.f] using h
  · refine Ev.succ ?_
    have h1 : ¬ ((n : Int) < ((marks m n).length : Int)) := by rw [marks_length]; omega
    simp only [laws_heldIntS.l0, h1, ↓reduceIte]
    exact Ev.now _
  · intro i hi ih
    refine Ev.succ ?_
    have h1 : (i : Int) < ((marks m n).length : Int) := by rw [marks_length]; omega
    have h2 : (0 : Int) ≤ (i : Int) := by omega
    have h3 : rd (marks m n) (i : Int) = m + i := by rw [rd_nat _ _ (by rw [marks_length]; exact hi)]; simp [marks]
    have hw : wrap64 ((i : Int) + 1) = ((i + 1 : Nat) : Int) := by rw [w64 (by omega) (by omega)]; rfl
    have hw2 : wrap64 (m + (i : Int) + 1) = m + ((i + 1 : Nat) : Int) := by rw [w64 (by omega) (by omega)]; omega
    simp only [laws_heldIntS.l0, h1, h2, h3, ↓reduceIte, hw, hw2]
    exact ih
theorem rd_set_self (cs : List Int) (p x : Int) (h0 : 0 ≤ p) (h : p < (cs.length : Int)) : rd (cs.set p.toNat x) p = x := by
  unfold rd
  rw [List.getD_eq_getElem?_getD, List.getElem?_set_self (by omega)]
  rfl
def incV (cs : List Int) (p : Int) : List Int := if rd cs p < 15 then cs.set p.toNat (rd cs p + 1) else cs
theorem incV_length (cs : List Int) (p : Int) : (incV cs p).length = cs.length := by
  unfold incV
  by_cases c : rd cs p < 15
  · rw [if_pos c, List.length_set]
  · rw [if_neg c]
theorem count_range {cs : List Int} (h : ∀ x ∈ cs, 0 ≤ x ∧ x ≤ 15) (i : Int) : 0 ≤ rd cs i ∧ rd cs i ≤ 15 := by
  unfold rd
  rw [List.getD_eq_getElem?_getD]
  cases e : cs[i.toNat]? with
  | none => simp
  | some x => simpa using h x (List.mem_of_getElem? e)
theorem incV_good {cs : List Int} (h : ∀ x ∈ cs, 0 ≤ x ∧ x ≤ 15) (p : Int) : ∀ x ∈ incV cs p, 0 ≤ x ∧ x ≤ 15 := by
  unfold incV
  have hr := count_range h p
  by_cases c : rd cs p < 15
  · rw [if_pos c]
    intro x hx
    rcases List.mem_or_eq_of_mem_set hx with h1 | rfl
    · exact h x h1
    · omega
  · rw [if_neg c]; exact h
theorem incs_good (xs : List Int) : ∀ cs : List Int, (∀ x ∈ cs, 0 ≤ x ∧ x ≤ 15) → (xs.foldl incV cs).length = cs.length ∧ ∀ x ∈ xs.foldl incV cs, 0 ≤ x ∧ x ≤ 15 := by
  induction xs with
  | nil => intro cs h; exact ⟨rfl, h⟩
  | cons p r ih =>
    intro cs h
    have := ih (incV cs p) (incV_good h p)
    rw [incV_length] at this
    exact this
theorem spec_fiCount_l0 (a b : Int) (xs : List Int) (n : Nat) (hx : ∀ x ∈ xs, 0 ≤ x ∧ x < (n : Int)) (hl : xs.length ≤ 100) (d : Nat) : ∀ (i : Nat) (cs : List Int), i + d = xs.length → cs.length = n → (∀ x ∈ cs, 0 ≤ x ∧ x ≤ 15) → Ev (fun k => spec_fiCount.l0 k 1 xs (xs.length : Int) (i : Int) a b cs) (a, b, (xs.drop i).foldl incV cs, true) := by
  induction d with
  | zero =>
    intro i cs hi hn hc
    refine Ev.succ ?_
    have h1 : ¬ ((i : Int) < (xs.length : Int)) := by omega
    simp only [spec_fiCount.l0, h1, ↓reduceIte]
    exact Ev.some_ (by rw [List.drop_eq_nil_of_le (by omega)]; rfl)
  | succ d ih =>
    intro i cs hi hn hc
    refine Ev.succ ?_
    have h0 : i < xs.length := by omega
    have h1 : (i : Int) < (xs.length : Int) := by omega
    have h2 : (0 : Int) ≤ (i : Int) := by omega
    have hw : wrap64 ((i : Int) + 1) = ((i + 1 : Nat) : Int) := by rw [w64 (by omega) (by omega)]; rfl
    have hr := hx _ (List.getElem_mem h0)
    have hg := incV_good hc xs[i]
    have hgl := incV_length cs xs[i]
    rw [drop_cons xs i h0, List.foldl_cons]
    rw [← rd_nat xs i h0] at hr hg hgl ⊢
    have hv := count_range hc (rd xs (i : Int))
    have h3 : rd xs (i : Int) < (cs.length : Int) := by omega
    have hw2 : wrap64 (rd cs (rd xs (i : Int)) + 1) = rd cs (rd xs (i : Int)) + 1 := w64 (by omega) (by omega)
    have h4 : ¬ (rd cs (rd xs (i : Int)) + 1 < 0) := by omega
    simp only [spec_fiCount.l0, h1, h2, hr.1, h3, hw2, h4, ↓reduceIte, hw]
    have e := ih (i + 1) _ (by omega) (by omega) hg
    unfold incV at e ⊢
    by_cases c : rd cs (rd xs (i : Int)) < 15
    · simp only [c, ↓reduceIte] at e ⊢; exact e
    · simp only [c, ↓reduceIte] at e ⊢; exact e
theorem impl_change_l0 (a b : Int) (xs : List Int) (n : Nat) (hx : ∀ x ∈ xs, 0 ≤ x ∧ x < (n : Int)) (hl : xs.length ≤ 100) (d : Nat) : ∀ (i : Nat) (cs : List Int), i + d = xs.length → cs.length = n → (∀ x ∈ cs, 0 ≤ x ∧ x ≤ 15) → Ev (fun k => impl_Counting_change_in75_0.l0 k 1 xs (xs.length : Int) (i : Int) a b cs) (true, (xs.drop i).foldl incV cs) := by
  induction d with
  | zero =>
    intro i cs hi hn hc
    refine Ev.succ ?_
    have h1 : ¬ ((i : Int) < (xs.length : Int)) := by omega
    simp only [impl_Counting_change_in75_0.l0, h1, ↓reduceIte]
    exact Ev.some_ (by rw [List.drop_eq_nil_of_le (by omega)]; rfl)
  | succ d ih =>
    intro i cs hi hn hc
    refine Ev.succ ?_
    have h0 : i < xs.length := by omega
    have h1 : (i : Int) < (xs.length : Int) := by omega
    have h2 : (0 : Int) ≤ (i : Int) := by omega
    have hw : wrap64 ((i : Int) + 1) = ((i + 1 : Nat) : Int) := by rw [w64 (by omega) (by omega)]; rfl
    have hr := hx _ (List.getElem_mem h0)
    have hg := incV_good hc xs[i]
    have hgl := incV_length cs xs[i]
    rw [drop_cons xs i h0, List.foldl_cons]
    rw [← rd_nat xs i h0] at hr hg hgl ⊢
    have hv := count_range hc (rd xs (i : Int))
    have h3 : rd xs (i : Int) < (cs.length : Int) := by omega
    have hw2 : wrap64 (rd cs (rd xs (i : Int)) + 1) = rd cs (rd xs (i : Int)) + 1 := w64 (by omega) (by omega)
    have e := ih (i + 1) _ (by omega) (by omega) hg
    simp only [impl_Counting_change_in75_0.l0, h1, h2, hr.1, h3, hw2, ↓reduceIte, hw, Option.bind_some]
    unfold incV at e ⊢
    by_cases c : rd cs (rd xs (i : Int)) < 15
    · have c' : ¬ (rd cs (rd xs (i : Int)) = 15) := by omega
      have h5 : rd (cs.set (rd xs (i : Int)).toNat (rd cs (rd xs (i : Int)) + 1)) (rd xs (i : Int)) = rd cs (rd xs (i : Int)) + 1 := rd_set_self cs _ _ hr.1 h3
      have h6 : ¬ (rd cs (rd xs (i : Int)) + 1 < 0) := by omega
      simp only [c, c', h5, h6, ↓reduceIte] at e ⊢
      exact e
    · have c' : rd cs (rd xs (i : Int)) = 15 := by omega
      simp only [c, ↓reduceIte] at e ⊢
      simp only [c', ↓reduceIte]
      exact e
def countKey (a b : Int) (cs : List Int) (s : ByteArray) : List Int := (probesV a (cs.length : Int) s b.toNat).foldl incV cs
theorem countKey_good {a b : Int} {cs : List Int} {s : ByteArray} (h : ∀ x ∈ cs, 0 ≤ x ∧ x ≤ 15) : (countKey a b cs s).length = cs.length ∧ ∀ x ∈ countKey a b cs s, 0 ≤ x ∧ x ≤ 15 := incs_good _ cs h
theorem spec_fiCount_ev (a b : Int) (cs : List Int) (s : ByteArray) (hs : s.size ≤ 9223372036854775807) (ha0 : 0 ≤ a) (ha1 : a ≤ 9999) (hb0 : 1 ≤ b) (hb1 : b ≤ 8) (hn0 : 1 ≤ (cs.length : Int)) (hn1 : (cs.length : Int) ≤ 512) (hc : ∀ x ∈ cs, 0 ≤ x ∧ x ≤ 15) : Ev (fun k => spec_fiCount.f k a b cs s 1) (a, b, countKey a b cs s, true) := by
  unfold spec_fiCount.f
  have ho : spec_l1Own.f cs = some cs := by
    unfold spec_l1Own.f
    simp only [Option.bind_some, List.length_nil, Nat.zero_add, List.nil_append, show cs.length < 17592186044416 from by omega, ↓reduceIte]
  simp only [ho, Option.bind_some]
  refine Ev.bind (spec_fiProbes_ev a b _ s hs ha0 ha1 (by omega) (by omega) (by omega) (by omega)) ?_
  exact spec_fiCount_l0 a b _ cs.length (probesV_range (by omega)) (by rw [probesV_length]; omega) _ 0 cs (Nat.zero_add _) rfl hc
theorem impl_change_ev (a b : Int) (cs : List Int) (s : ByteArray) (hs : s.size ≤ 9223372036854775807) (ha0 : 0 ≤ a) (ha1 : a ≤ 9999) (hb0 : 1 ≤ b) (hb1 : b ≤ 8) (hn0 : 1 ≤ (cs.length : Int)) (hn1 : (cs.length : Int) ≤ 512) (hc : ∀ x ∈ cs, 0 ≤ x ∧ x ≤ 15) : Ev (fun k => impl_Counting_change_in75_0.f k a b cs s 1) (true, countKey a b cs s) := by
  unfold impl_Counting_change_in75_0.f
  refine Ev.bind (impl_probesOf_ev a b _ s hs ha0 ha1 (by omega) (by omega) (by omega) (by omega)) ?_
  exact impl_change_l0 a b _ cs.length (probesV_range (by omega)) (by rw [probesV_length]; omega) _ 0 cs (Nat.zero_add _) rfl hc
theorem goodCounting_of {a b : Int} {l : List Int} (h : goodCounting a b l = true) : (0 ≤ a ∧ a ≤ 9999) ∧ (1 ≤ b ∧ b ≤ 8) ∧ (1 ≤ (l.length : Int) ∧ (l.length : Int) ≤ 512) ∧ ∀ x ∈ l, 0 ≤ x ∧ x ≤ 15 := by
  unfold goodCounting inB at h
  simp only [Bool.and_eq_true, decide_eq_true_eq, List.all_eq_true] at h
  exact ⟨h.1.1, h.1.2.1, h.1.2.2, h.2⟩
theorem laws_markCounting_ev (a b : Int) (l : List Int) (hl : l.length ≤ 1048576) : Ev (fun k => laws_markCounting.f k a b l 1) (1 + l.length, marks 1 l.length) := by
  unfold laws_markCounting.f
  exact Ev.bind (laws_markIntS_ev l 1 (by omega) (by omega)) (Ev.now _)
theorem laws_heldCounting_ev (a b : Int) (m : Nat) (hm : m ≤ 1048576) : Ev (fun k => laws_heldCounting.f k a b (marks 1 m) 1) (1 + m) := by
  unfold laws_heldCounting.f
  refine Ev.bind (laws_heldIntS_ev 1 m (by omega) (by omega)) ?_
  simp only [show ¬ ((1 : Int) + (m : Int) < 0) from by omega, ↓reduceIte]
  exact Ev.now _
theorem laws_eqStringS_self (l : List ByteArray) (hl : l.length ≤ 9223372036854775807) : Ev (fun k => laws_eqStringS.f k l l) true := by
  unfold laws_eqStringS.f
  simp only [↓reduceIte]
  refine Ev.up (L := fun k i => laws_eqStringS.l0 k l l (i : Int)) (r := fun _ => true) l.length ?_ ?_ 0 (Nat.zero_le _)
  · refine Ev.succ ?_
    have h1 : ¬ ((l.length : Int) < (l.length : Int)) := by omega
    simp only [laws_eqStringS.l0, h1, ↓reduceIte]
    exact Ev.now _
  · intro i hi ih
    refine Ev.succ ?_
    have h1 : (i : Int) < (l.length : Int) := by omega
    have h2 : (0 : Int) ≤ (i : Int) := by omega
    have hw : wrap64 ((i : Int) + 1) = ((i + 1 : Nat) : Int) := by rw [w64 (by omega) (by omega)]; rfl
    simp only [laws_eqStringS.l0, h1, h2, ↓reduceIte, hw]
    exact ih
theorem laws_toStringS_l0 (l : List ByteArray) (hl : l.length ≤ 9223372036854775807) (d : Nat) : ∀ (i : Nat) (o : List ByteArray), o.length = l.length → o.take i = l.take i → i + d = l.length → Ev (fun k => laws_toStringS.l0 k l o (i : Int)) l := by
  induction d with
  | zero =>
    intro i o ho ht hi
    refine Ev.succ ?_
    have h1 : ¬ ((i : Int) < (l.length : Int)) := by omega
    simp only [laws_toStringS.l0, h1, ↓reduceIte]
    rw [List.take_of_length_le (by omega), List.take_of_length_le (by omega)] at ht
    exact Ev.some_ ht
  | succ d ih =>
    intro i o ho ht hi
    refine Ev.succ ?_
    have h1 : (i : Int) < (l.length : Int) := by omega
    have h2 : (0 : Int) ≤ (i : Int) := by omega
    have h3 : (i : Int) < (o.length : Int) := by omega
    have hw : wrap64 ((i : Int) + 1) = ((i + 1 : Nat) : Int) := by rw [w64 (by omega) (by omega)]; rfl
    simp only [laws_toStringS.l0, h1, h2, h3, ↓reduceIte, hw, Int.toNat_natCast]
    exact ih (i + 1) _ (by simp [ho]) (by rw [take_set_succ _ _ _ (by omega), ht, rdOf_nat _ _ _ (by omega), List.take_succ_eq_append_getElem (by omega)]) (by omega)
theorem laws_toStringS_ev (l : List ByteArray) (hl : l.length ≤ 17592186044416) : Ev (fun k => laws_toStringS.f k l) l := by
  have h1 : 0 ≤ (l.length : Int) := by omega
  have h2 : ((l.length : Int)).toNat ≤ 17592186044416 := by omega
  simp only [laws_toStringS.f, h1, h2, ↓reduceIte]
  exact laws_toStringS_l0 l (by omega) l.length 0 _ (by simp) (by simp) (by omega)
def szT : List ByteArray → Int → Int
  | [], m => m
  | s :: r, m => if m - (s.size : Int) < 0 then -1 else szT r (m - (s.size : Int))
theorem szT_le (l : List ByteArray) : ∀ m : Int, 0 ≤ m → szT l m ≤ m := by
  induction l with
  | nil => intro m h; exact Int.le_refl m
  | cons s r ih =>
    intro m h
    unfold szT
    by_cases c : m - (s.size : Int) < 0
    · rw [if_pos c]; omega
    · rw [if_neg c]
      have := ih (m - (s.size : Int)) (by omega)
      omega
theorem szT_sizes (l : List ByteArray) : ∀ m : Int, 0 ≤ szT l m → ∀ s ∈ l, (s.size : Int) ≤ m := by
  induction l with
  | nil => intro m h s hs; cases hs
  | cons x r ih =>
    intro m h s hs
    unfold szT at h
    by_cases c : m - (x.size : Int) < 0
    · rw [if_pos c] at h; omega
    · rw [if_neg c] at h
      rcases List.mem_cons.1 hs with rfl | hs
      · omega
      · have := ih _ h s hs
        omega
theorem laws_szStringS_l0 (l : List ByteArray) (hl : l.length ≤ 9223372036854775807) (hs : ∀ s ∈ l, s.size ≤ 9223372036854775807) (d : Nat) : ∀ (i : Nat) (m : Int), i + d = l.length → 0 ≤ m → m ≤ 1048576 → Ev (fun k => laws_szStringS.l0 k l m (i : Int)) (szT (l.drop i) m) := by
  induction d with
  | zero =>
    intro i m hi m0 m1
    refine Ev.succ ?_
    have h1 : ¬ ((i : Int) < (l.length : Int)) := by omega
    simp only [laws_szStringS.l0, h1, ↓reduceIte]
    exact Ev.some_ (by rw [List.drop_eq_nil_of_le (by omega)]; rfl)
  | succ d ih =>
    intro i m hi m0 m1
    refine Ev.succ ?_
    have h0 : i < l.length := by omega
    have h1 : (i : Int) < (l.length : Int) := by omega
    have h2 : (0 : Int) ≤ (i : Int) := by omega
    have hw : wrap64 ((i : Int) + 1) = ((i + 1 : Nat) : Int) := by rw [w64 (by omega) (by omega)]; rfl
    have hz := hs _ (List.getElem_mem h0)
    have hw2 : wrap64 (m - ((l[i]).size : Int)) = m - ((l[i]).size : Int) := w64 (by omega) (by omega)
    rw [drop_cons l i h0]
    simp only [laws_szStringS.l0, h1, h2, ↓reduceIte, hw, rdOf_nat ByteArray.empty l i h0, hw2, szT]
    by_cases c : m - ((l[i]).size : Int) < 0
    · simp only [c, ↓reduceIte]; exact Ev.now _
    · simp only [c, ↓reduceIte]
      exact ih (i + 1) _ (by omega) (by omega) (by omega)
def szTexts (l : List ByteArray) (m : Int) : Int := if m - (l.length : Int) < 0 then -1 else szT l (m - (l.length : Int))
theorem laws_szStringS_ev (l : List ByteArray) (m : Int) (hl : l.length ≤ 9223372036854775807) (hs : ∀ s ∈ l, s.size ≤ 9223372036854775807) (m0 : 0 ≤ m) (m1 : m ≤ 1048576) : Ev (fun k => laws_szStringS.f k l m) (szTexts l m) := by
  unfold laws_szStringS.f szTexts
  rw [w64 (n := m - (l.length : Int)) (by omega) (by omega)]
  by_cases c : m - (l.length : Int) < 0
  · simp only [c, ↓reduceIte]; exact Ev.now _
  · simp only [c, ↓reduceIte]
    exact laws_szStringS_l0 l hl hs l.length 0 _ (by omega) (by omega) (by omega)
theorem szTexts_of {l : List ByteArray} {m : Int} (h : ¬ szTexts l m < 0) : (l.length : Int) ≤ m ∧ szTexts l m ≤ m ∧ 0 ≤ szTexts l m := by
  have e : szTexts l m = if m - (l.length : Int) < 0 then -1 else szT l (m - (l.length : Int)) := rfl
  by_cases c : m - (l.length : Int) < 0
  · rw [if_pos c] at e; omega
  · rw [if_neg c] at e
    have := szT_le l (m - (l.length : Int)) (by omega)
    omega
theorem spec_IsKey_ev (s : ByteArray) (hs : s.size ≤ 9223372036854775807) : Ev (fun k => spec_IsKey.f k s) (isKey s) := by
  have h := Ev.up (L := fun k i => spec_IsKey.l0 k s (i : Int)) (r := fun i => ((bytesOf s).drop i).all okByte && decide (1 ≤ (s.size : Int) ∧ (s.size : Int) ≤ 12)) s.size ?_ ?_ 0 (Nat.zero_le _)
  · exact h
  · refine Ev.succ ?_
    have h1 : ¬ ((s.size : Int) < (s.size : Int)) := by omega
    simp only [spec_IsKey.l0, h1, ↓reduceIte, spec_l1In_eq, Option.bind_some]
    exact Ev.some_ (by rw [List.drop_of_length_le (by rw [bytesOf_length]; exact Nat.le_refl _)]; simp)
  · intro i hi ih
    refine Ev.succ ?_
    have h1 : (i : Int) < (s.size : Int) := by omega
    have h2 : (0 : Int) ≤ (i : Int) := by omega
    have hw : wrap64 ((i : Int) + 1) = ((i + 1 : Nat) : Int) := by rw [w64 (by omega) (by omega)]; rfl
    have hb := bt_nat s i hi
    simp only [spec_IsKey.l0, h1, h2, ↓reduceIte, hw]
    rw [drop_cons _ _ (by rw [bytesOf_length]; exact hi), List.all_cons, ← hb]
    by_cases c1 : bt s i < 33
    · simp only [c1, ↓reduceIte]
      exact Ev.some_ (by simp [okByte]; omega)
    · by_cases c2 : bt s i > 125
      · simp only [c1, c2, ↓reduceIte]
        exact Ev.some_ (by simp [okByte]; omega)
      · simp only [c1, c2, ↓reduceIte]
        have c3 : okByte (bt s i) = true := by simp [okByte]; omega
        rw [c3, Bool.true_and]
        exact ih
theorem impl_IsKey_ev (s : ByteArray) (hs : s.size ≤ 9223372036854775807) : Ev (fun k => impl_IsKey.f k s) (isKey s) := by
  have h := Ev.up (L := fun k i => impl_IsKey.l0 k s (s.size : Int) (i : Int)) (r := fun i => ((bytesOf s).drop i).all okByte && decide (1 ≤ (s.size : Int) ∧ (s.size : Int) ≤ 12)) s.size ?_ ?_ 0 (Nat.zero_le _)
  · exact h
  · refine Ev.succ ?_
    have h1 : ¬ ((s.size : Int) < (s.size : Int)) := by omega
    simp only [impl_IsKey.l0, h1, ↓reduceIte, impl_in_eq, Option.bind_some]
    exact Ev.some_ (by rw [List.drop_of_length_le (by rw [bytesOf_length]; exact Nat.le_refl _)]; simp)
  · intro i hi ih
    refine Ev.succ ?_
    have h1 : (i : Int) < (s.size : Int) := by omega
    have h2 : (0 : Int) ≤ (i : Int) := by omega
    have hw : wrap64 ((i : Int) + 1) = ((i + 1 : Nat) : Int) := by rw [w64 (by omega) (by omega)]; rfl
    have hb := bt_nat s i hi
    simp only [impl_IsKey.l0, h1, h2, ↓reduceIte, hw]
    rw [drop_cons _ _ (by rw [bytesOf_length]; exact hi), List.all_cons, ← hb]
    by_cases c1 : bt s i < 33
    · simp only [c1, ↓reduceIte]
      exact Ev.some_ (by simp [okByte]; omega)
    · by_cases c2 : bt s i > 125
      · simp only [c1, c2, ↓reduceIte]
        exact Ev.some_ (by simp [okByte]; omega)
      · simp only [c1, c2, ↓reduceIte]
        have c3 : okByte (bt s i) = true := by simp [okByte]; omega
        rw [c3, Bool.true_and]
        exact ih
def keyAt (l : List ByteArray) (i : Nat) : Bool := isKey (rdOf ByteArray.empty l (i : Int)) && (decide (i = 0) || Op.bytesLess (rdOf ByteArray.empty l ((i - 1 : Nat) : Int)).toList (rdOf ByteArray.empty l (i : Int)).toList)
def keysFrom (l : List ByteArray) (i : Nat) : Bool := (List.range' i (l.length - i)).all (keyAt l) && decide ((l.length : Int) ≤ 40)
def areKeys (l : List ByteArray) : Bool := keysFrom l 0
theorem keysFrom_end (l : List ByteArray) : keysFrom l l.length = decide ((l.length : Int) ≤ 40) := by simp [keysFrom]
theorem keysFrom_step (l : List ByteArray) (i : Nat) (h : i < l.length) : keysFrom l i = (keyAt l i && keysFrom l (i + 1)) := by
  unfold keysFrom
  rw [show l.length - i = (l.length - (i + 1)) + 1 from by omega, List.range'_succ, List.all_cons, Bool.and_assoc]
theorem areKeys_of {l : List ByteArray} (h : areKeys l = true) : l.length ≤ 40 ∧ ∀ s ∈ l, isKey s = true := by
  unfold areKeys keysFrom at h
  simp only [Bool.and_eq_true, decide_eq_true_eq, List.all_eq_true, List.mem_range'] at h
  refine ⟨by omega, fun s hs => ?_⟩
  obtain ⟨i, hi, rfl⟩ := List.getElem_of_mem hs
  have := h.1 i ⟨i, by omega, by omega⟩
  unfold keyAt at this
  simp only [Bool.and_eq_true] at this
  rw [rdOf_nat _ _ _ hi] at this
  exact this.1
theorem rdOf_size {l : List ByteArray} (h : ∀ s ∈ l, s.size ≤ 9223372036854775807) (i : Int) : (rdOf ByteArray.empty l i).size ≤ 9223372036854775807 := by
  unfold rdOf
  rw [List.getD_eq_getElem?_getD]
  cases e : l[i.toNat]? with
  | none => simp
  | some x => simpa using h x (List.mem_of_getElem? e)
theorem spec_biKeys_ev (l : List ByteArray) (hl : l.length ≤ 9223372036854775807) (hs : ∀ s ∈ l, s.size ≤ 9223372036854775807) : Ev (fun k => spec_biKeys.f k l) (areKeys l) := by
  refine Ev.up (L := fun k i => spec_biKeys.l0 k l l (l.length : Int) (i : Int)) (r := fun i => keysFrom l i) l.length ?_ ?_ 0 (Nat.zero_le _)
  · refine Ev.succ ?_
    have h1 : ¬ ((l.length : Int) < (l.length : Int)) := by omega
    simp only [spec_biKeys.l0, h1, ↓reduceIte, keysFrom_end]
    exact Ev.now _
  · intro i hi ih
    refine Ev.succ ?_
    have h1 : (i : Int) < (l.length : Int) := by omega
    have h2 : (0 : Int) ≤ (i : Int) := by omega
    have hw : wrap64 ((i : Int) + 1) = ((i + 1 : Nat) : Int) := by rw [w64 (by omega) (by omega)]; rfl
    simp only [spec_biKeys.l0, h1, h2, ↓reduceIte, hw]
    refine Ev.bind (spec_IsKey_ev _ (rdOf_size hs _)) ?_
    rw [keysFrom_step l i hi]
    unfold keyAt
    cases isKey (rdOf ByteArray.empty l (i : Int)) with
    | false => simp only [Bool.false_eq_true, ↓reduceIte, Bool.false_and]; exact Ev.now _
    | true =>
      simp only [↓reduceIte, Bool.true_and]
      by_cases c : i = 0
      · subst c
        simp only [Int.natCast_zero, decide_true, Bool.true_or, Bool.true_and, ↓reduceIte, gt_iff_lt, Int.lt_irrefl]
        exact ih
      · have h3 : (i : Int) > 0 := by omega
        have hw1 : wrap64 ((i : Int) - 1) = ((i - 1 : Nat) : Int) := by rw [w64 (by omega) (by omega)]; omega
        have h4 : (0 : Int) ≤ ((i - 1 : Nat) : Int) := by omega
        have h5 : ((i - 1 : Nat) : Int) < (l.length : Int) := by omega
        simp only [c, h3, hw1, h4, h5, ↓reduceIte, decide_false, Bool.false_or]
        cases Op.bytesLess (rdOf ByteArray.empty l ((i - 1 : Nat) : Int)).toList (rdOf ByteArray.empty l (i : Int)).toList with
        | false => simp only [Bool.false_eq_true, ↓reduceIte, Bool.false_and]; exact Ev.now _
        | true => simp only [↓reduceIte, Bool.true_and]; exact ih
theorem impl_AreKeys_ev (l : List ByteArray) (hl : l.length ≤ 9223372036854775807) (hs : ∀ s ∈ l, s.size ≤ 9223372036854775807) : Ev (fun k => impl_AreKeys.f k l) (areKeys l) := by
  refine Ev.up (L := fun k i => impl_AreKeys.l0 k l l (l.length : Int) (i : Int)) (r := fun i => keysFrom l i) l.length ?_ ?_ 0 (Nat.zero_le _)
  · refine Ev.succ ?_
    have h1 : ¬ ((l.length : Int) < (l.length : Int)) := by omega
    simp only [impl_AreKeys.l0, h1, ↓reduceIte, keysFrom_end]
    exact Ev.now _
  · intro i hi ih
    refine Ev.succ ?_
    have h1 : (i : Int) < (l.length : Int) := by omega
    have h2 : (0 : Int) ≤ (i : Int) := by omega
    have hw : wrap64 ((i : Int) + 1) = ((i + 1 : Nat) : Int) := by rw [w64 (by omega) (by omega)]; rfl
    simp only [impl_AreKeys.l0, h1, h2, ↓reduceIte, hw]
    refine Ev.bind (impl_IsKey_ev _ (rdOf_size hs _)) ?_
    rw [keysFrom_step l i hi]
    unfold keyAt
    cases isKey (rdOf ByteArray.empty l (i : Int)) with
    | false => simp only [Bool.false_eq_true, ↓reduceIte, Bool.false_and]; exact Ev.now _
    | true =>
      simp only [↓reduceIte, Bool.true_and]
      by_cases c : i = 0
      · subst c
        simp only [Int.natCast_zero, decide_true, Bool.true_or, Bool.true_and, ↓reduceIte, gt_iff_lt, Int.lt_irrefl]
        exact ih
      · have h3 : (i : Int) > 0 := by omega
        have hw1 : wrap64 ((i : Int) - 1) = ((i - 1 : Nat) : Int) := by rw [w64 (by omega) (by omega)]; omega
        have h4 : (0 : Int) ≤ ((i - 1 : Nat) : Int) := by omega
        have h5 : ((i - 1 : Nat) : Int) < (l.length : Int) := by omega
        simp only [c, h3, hw1, h4, h5, ↓reduceIte, decide_false, Bool.false_or]
        cases Op.bytesLess (rdOf ByteArray.empty l ((i - 1 : Nat) : Int)).toList (rdOf ByteArray.empty l (i : Int)).toList with
        | false => simp only [Bool.false_eq_true, ↓reduceIte, Bool.false_and]; exact Ev.now _
        | true => simp only [↓reduceIte, Bool.true_and]; exact ih
theorem strOfNums_one (x : Int) : (strOfNums [x]).size = 1 := by
  simp [strOfNums, ByteArray.size]
theorem laws_markText_l0 (f : Nat) : ∀ (n : Int) (acc : ByteArray), 0 ≤ n → n < 2 ^ f → n ≤ 4611686018427387904 → acc.size + f ≤ 1000 → ∃ r, Ev (fun k => laws_markText.l0 k n acc) r := by
  induction f with
  | zero =>
    intro n acc h0 h1 hn hs
    refine ⟨(⟨#[109]⟩ : ByteArray) ++ acc, Ev.succ ?_⟩
    have c1 : ¬ (n > 0) := by simp at h1; omega
    have c2 : 1 + acc.size ≤ 9223372036854775807 := by omega
    simp only [laws_markText.l0, c1, c2, ↓reduceIte]
    exact Ev.now _
  | succ f ih =>
    intro n acc h0 h1 hn hs
    by_cases c1 : n > 0
    · have e2 : (2 : Int) ^ (f + 1) = 2 * 2 ^ f := by rw [Int.pow_succ, Int.mul_comm]
      have e : wrap64 (Int.tdiv n 10) = n / 10 := by rw [tdiv_pos h0, w64 (by omega) (by omega)]
      have e3 := strOfNums_one ((wrap64 (48 + (Int.tmod n 10))) % 256)
      obtain ⟨r, hr⟩ := ih (n / 10) (strOfNums [(wrap64 (48 + (Int.tmod n 10))) % 256] ++ acc) (by omega) (by omega) (by omega) (by rw [ByteArray.size_append, e3]; omega)
      refine ⟨r, Ev.succ ?_⟩
      have c3 : (strOfNums [(wrap64 (48 + (Int.tmod n 10))) % 256]).size + acc.size ≤ 9223372036854775807 := by rw [e3]; omega
      simp only [laws_markText.l0, c1, ↓reduceIte, Option.bind_some, c3, e]
      exact hr
    · refine ⟨(⟨#[109]⟩ : ByteArray) ++ acc, Ev.succ ?_⟩
      have c2 : 1 + acc.size ≤ 9223372036854775807 := by omega
      simp only [laws_markText.l0, c1, c2, ↓reduceIte]
      exact Ev.now _
theorem laws_markText_some (n : Int) (h0 : 0 ≤ n) (hn : n ≤ 4611686018427387904) : ∃ r, Ev (fun k => laws_markText.f k n) r := by
  unfold laws_markText.f
  by_cases c : n ≤ 0
  · simp only [c, ↓reduceIte]
    exact ⟨_, Ev.now _⟩
  · simp only [c, ↓reduceIte]
    exact laws_markText_l0 63 n ⟨#[]⟩ h0 (by omega) hn (by decide)
theorem laws_markText_fn : ∃ f : Int → ByteArray, ∀ n : Int, 0 ≤ n → n ≤ 4611686018427387904 → Ev (fun k => laws_markText.f k n) (f n) :=
  ⟨fun n => if h : 0 ≤ n ∧ n ≤ 4611686018427387904 then Classical.choose (laws_markText_some n h.1 h.2) else ⟨#[]⟩, fun n h0 hn => by
    have e : (if h : 0 ≤ n ∧ n ≤ 4611686018427387904 then Classical.choose (laws_markText_some n h.1 h.2) else (⟨#[]⟩ : ByteArray)) = Classical.choose (laws_markText_some n h0 hn) := dif_pos ⟨h0, hn⟩
    show Ev _ (if h : 0 ≤ n ∧ n ≤ 4611686018427387904 then Classical.choose (laws_markText_some n h.1 h.2) else (⟨#[]⟩ : ByteArray))
    rw [e]
    exact Classical.choose_spec (laws_markText_some n h0 hn)⟩
theorem laws_markStringS_l0 (f : Int → ByteArray) (hf : ∀ n : Int, 0 ≤ n → n ≤ 4611686018427387904 → Ev (fun k => laws_markText.f k n) (f n)) (m : Int) (n : Nat) (h0 : 0 ≤ m) (hm : m + n ≤ 4611686018427387904) (d : Nat) : ∀ (i : Nat) (l : List ByteArray), l.length = n → l.take i = marksOf f m i → i + d = n → Ev (fun k => laws_markStringS.l0 k l (m + i) (i : Int)) (m + n, marksOf f m n) := by
  induction d with
  | zero =>
    intro i l hl ht hi
    obtain rfl : i = n := by omega
    refine Ev.succ ?_
    have h1 : ¬ ((i : Int) < (l.length : Int)) := by omega
    simp only [laws_markStringS.l0, h1, ↓reduceIte]
    rw [List.take_of_length_le (by omega)] at ht
    exact Ev.some_ (by rw [ht])
  | succ d ih =>
    intro i l hl ht hi
    refine Ev.succ ?_
    have h1 : (i : Int) < (l.length : Int) := by omega
    have h2 : (0 : Int) ≤ (i : Int) := by omega
    have hw : wrap64 ((i : Int) + 1) = ((i + 1 : Nat) : Int) := by rw [w64 (by omega) (by omega)]; rfl
    have hw2 : wrap64 (m + (i : Int) + 1) = m + ((i + 1 : Nat) : Int) := by rw [w64 (by omega) (by omega)]; omega
    simp only [laws_markStringS.l0, h1, h2, ↓reduceIte, hw, hw2, Int.toNat_natCast]
    refine Ev.bind (hf (m + i) (by omega) (by omega)) ?_
    exact ih (i + 1) (l.set i (f (m + i))) (by simp [hl]) (by rw [take_set_succ _ _ _ (by omega), ht, marksOf_succ]) (by omega)
theorem laws_markStringS_ev (f : Int → ByteArray) (hf : ∀ n : Int, 0 ≤ n → n ≤ 4611686018427387904 → Ev (fun k => laws_markText.f k n) (f n)) (l : List ByteArray) (m : Int) (h0 : 0 ≤ m) (hm : m + l.length ≤ 4611686018427387904) : Ev (fun k => laws_markStringS.f k l m) (m + l.length, marksOf f m l.length) := by
  have h := laws_markStringS_l0 f hf m l.length h0 hm l.length 0 l rfl (by simp [marksOf]) (by omega)
  simpa [laws_markStringS.f] using h

def countAll (a b : Int) (cs : List Int) (ks : List ByteArray) : List Int := ks.foldl (countKey a b) cs
theorem spec_CountingOf_l0 (a b : Int) (ks : List ByteArray) (n : Nat) (hs : ∀ s ∈ ks, s.size ≤ 9223372036854775807) (hl : ks.length ≤ 100) (ha0 : 0 ≤ a) (ha1 : a ≤ 9999) (hb0 : 1 ≤ b) (hb1 : b ≤ 8) (hn0 : 1 ≤ (n : Int)) (hn1 : (n : Int) ≤ 512) (d : Nat) : ∀ (i : Nat) (cs : List Int), i + d = ks.length → cs.length = n → (∀ x ∈ cs, 0 ≤ x ∧ x ≤ 15) → Ev (fun k => spec_CountingOf.l0 k ks (ks.length : Int) (i : Int) a b cs) (a, b, countAll a b cs (ks.drop i), true) := by
  induction d with
  | zero =>
    intro i cs hi hn hc
    refine Ev.succ ?_
    have h1 : ¬ ((i : Int) < (ks.length : Int)) := by omega
    simp only [spec_CountingOf.l0, h1, ↓reduceIte]
    exact Ev.some_ (by rw [List.drop_eq_nil_of_le (by omega)]; rfl)
  | succ d ih =>
    intro i cs hi hn hc
    refine Ev.succ ?_
    have h0 : i < ks.length := by omega
    have h1 : (i : Int) < (ks.length : Int) := by omega
    have h2 : (0 : Int) ≤ (i : Int) := by omega
    have hw : wrap64 ((i : Int) + 1) = ((i + 1 : Nat) : Int) := by rw [w64 (by omega) (by omega)]; rfl
    simp only [spec_CountingOf.l0, h1, h2, ↓reduceIte, hw, rdOf_nat ByteArray.empty ks i h0]
    refine Ev.bind (spec_fiCount_ev a b cs _ (hs _ (List.getElem_mem h0)) ha0 ha1 hb0 hb1 (by omega) (by omega) hc) ?_
    have hg := countKey_good (a := a) (b := b) (s := ks[i]) hc
    have e := ih (i + 1) _ (by omega) (hg.1.trans hn) hg.2
    rw [drop_cons ks i h0]
    exact e
theorem impl_CountingOf_l0 (a b : Int) (ks : List ByteArray) (n : Nat) (hs : ∀ s ∈ ks, s.size ≤ 9223372036854775807) (hl : ks.length ≤ 100) (ha0 : 0 ≤ a) (ha1 : a ≤ 9999) (hb0 : 1 ≤ b) (hb1 : b ≤ 8) (hn0 : 1 ≤ (n : Int)) (hn1 : (n : Int) ≤ 512) (d : Nat) : ∀ (i : Nat) (cs : List Int), i + d = ks.length → cs.length = n → (∀ x ∈ cs, 0 ≤ x ∧ x ≤ 15) → Ev (fun k => impl_CountingOf.l0 k ks (ks.length : Int) (i : Int) a b cs) (a, b, countAll a b cs (ks.drop i), true) := by
  induction d with
  | zero =>
    intro i cs hi hn hc
    refine Ev.succ ?_
    have h1 : ¬ ((i : Int) < (ks.length : Int)) := by omega
    simp only [impl_CountingOf.l0, h1, ↓reduceIte]
    exact Ev.some_ (by rw [List.drop_eq_nil_of_le (by omega)]; rfl)
  | succ d ih =>
    intro i cs hi hn hc
    refine Ev.succ ?_
    have h0 : i < ks.length := by omega
    have h1 : (i : Int) < (ks.length : Int) := by omega
    have h2 : (0 : Int) ≤ (i : Int) := by omega
    have hw : wrap64 ((i : Int) + 1) = ((i + 1 : Nat) : Int) := by rw [w64 (by omega) (by omega)]; rfl
    simp only [impl_CountingOf.l0, h1, h2, ↓reduceIte, hw, rdOf_nat ByteArray.empty ks i h0]
    refine Ev.bind (impl_change_ev a b cs _ (hs _ (List.getElem_mem h0)) ha0 ha1 hb0 hb1 (by omega) (by omega) hc) ?_
    have hg := countKey_good (a := a) (b := b) (s := ks[i]) hc
    have e := ih (i + 1) _ (by omega) (hg.1.trans hn) hg.2
    rw [drop_cons ks i h0]
    exact e
theorem countAll_good (a b : Int) (ks : List ByteArray) : ∀ cs : List Int, (∀ x ∈ cs, 0 ≤ x ∧ x ≤ 15) → (countAll a b cs ks).length = cs.length := by
  induction ks with
  | nil => intro cs _; rfl
  | cons s r ih =>
    intro cs h
    have hg := countKey_good (a := a) (b := b) (s := s) h
    exact (ih _ hg.2).trans hg.1
def countedV (a b n : Int) (ks : List ByteArray) : Int × Int × List Int × Bool := if decide ((0 ≤ a ∧ a ≤ 9999) ∧ (1 ≤ b ∧ b ≤ 8) ∧ 1 ≤ n ∧ n ≤ 512) && areKeys ks then (a, b, countAll a b (List.replicate n.toNat 0) ks, true) else (0, 0, [], false)
theorem zeros_good (n : Nat) : ∀ x ∈ List.replicate n (0 : Int), 0 ≤ x ∧ x ≤ 15 := by
  intro x hx
  rw [List.eq_of_mem_replicate hx]
  omega
theorem countedV_length (a b n : Int) (ks : List ByteArray) : (countedV a b n ks).2.2.1.length ≤ 512 := by
  unfold countedV
  by_cases c : (0 ≤ a ∧ a ≤ 9999) ∧ (1 ≤ b ∧ b ≤ 8) ∧ 1 ≤ n ∧ n ≤ 512
  · cases areKeys ks with
    | false => simp
    | true =>
      simp only [c, and_self, decide_true, Bool.and_self, ↓reduceIte, countAll_good a b ks _ (zeros_good n.toNat), List.length_replicate]
      omega
  · simp [c]
theorem spec_CountingOf_ev (a b n : Int) (ks : List ByteArray) (hk : ks.length ≤ 9223372036854775807) (hs : ∀ s ∈ ks, s.size ≤ 9223372036854775807) : Ev (fun k => spec_CountingOf.f k a b n ks) (countedV a b n ks) := by
  unfold spec_CountingOf.f countedV
  simp only [spec_fiSize_eq, Option.bind_some]
  by_cases c : (0 ≤ a ∧ a ≤ 9999) ∧ (1 ≤ b ∧ b ≤ 8) ∧ 1 ≤ n ∧ n ≤ 512
  · simp only [c, and_self, decide_true, ↓reduceIte, Bool.true_and]
    refine Ev.bind (spec_biKeys_ev ks hk hs) ?_
    refine Ev.succ ?_
    cases hks : areKeys ks with
    | false => simp only [spec_CountingOf.j0, Bool.not_false, Bool.false_eq_true, ↓reduceIte]; exact Ev.now _
    | true =>
      have h1 : (0 : Int) ≤ n := by omega
      have h2 : n.toNat ≤ 35184372088832 := by omega
      simp only [spec_CountingOf.j0, Bool.not_true, Bool.false_eq_true, h1, h2, ↓reduceIte]
      exact spec_CountingOf_l0 a b ks n.toNat hs (by have := (areKeys_of hks).1; omega) c.1.1 c.1.2 c.2.1.1 c.2.1.2 (by omega) (by omega) ks.length 0 _ (Nat.zero_add _) (by simp) (zeros_good _)
  · simp only [c, decide_false, Bool.false_eq_true, ↓reduceIte, Bool.false_and]
    refine Ev.succ ?_
    simp only [spec_CountingOf.j0, ↓reduceIte]
    exact Ev.now _
theorem impl_CountingOf_ev (a b n : Int) (ks : List ByteArray) (hk : ks.length ≤ 9223372036854775807) (hs : ∀ s ∈ ks, s.size ≤ 9223372036854775807) : Ev (fun k => impl_CountingOf.f k a b n ks) (countedV a b n ks) := by
  unfold impl_CountingOf.f countedV
  simp only [impl_sizesOk_eq, Option.bind_some]
  by_cases c : (0 ≤ a ∧ a ≤ 9999) ∧ (1 ≤ b ∧ b ≤ 8) ∧ 1 ≤ n ∧ n ≤ 512
  · simp only [c, and_self, decide_true, ↓reduceIte, Bool.true_and]
    refine Ev.bind (impl_AreKeys_ev ks hk hs) ?_
    refine Ev.succ ?_
    cases hks : areKeys ks with
    | false => simp only [impl_CountingOf.j0, Bool.not_false, Bool.false_eq_true, ↓reduceIte]; exact Ev.now _
    | true =>
      have h1 : (0 : Int) ≤ n := by omega
      have h2 : n.toNat ≤ 35184372088832 := by omega
      simp only [impl_CountingOf.j0, Bool.not_true, Bool.false_eq_true, h1, h2, ↓reduceIte]
      exact impl_CountingOf_l0 a b ks n.toNat hs (by have := (areKeys_of hks).1; omega) c.1.1 c.1.2 c.2.1.1 c.2.1.2 (by omega) (by omega) ks.length 0 _ (Nat.zero_add _) (by simp) (zeros_good _)
  · simp only [c, decide_false, Bool.false_eq_true, ↓reduceIte, Bool.false_and]
    refine Ev.succ ?_
    simp only [impl_CountingOf.j0, ↓reduceIte]
    exact Ev.now _
theorem FnExactCountingOf : ∀ (a0 : Int) (a1 : Int) (a2 : Int) (l3 : List ByteArray), ((Lit.int .i64 a0).wf = true) → ((Lit.int .i64 a1).wf = true) → ((Lit.int .i64 a2).wf = true) → (l3.length ≤ maxLen ∧ ∀ l3' ∈ l3, l3'.size ≤ maxLen) → ∃ k, laws_FnExactCountingOf.f k a0 a1 a2 l3 = some true := by
  intro a b n ks h0 h1 h2 hk
  refine Ev.rounds ?_
  have hk1 : ks.length ≤ 9223372036854775807 := by have := hk.1; unfold maxLen at this; exact this
  have hk2 : ∀ s ∈ ks, s.size ≤ 9223372036854775807 := by have := hk.2; unfold maxLen at this; exact this
  obtain ⟨f, hf⟩ := laws_markText_fn
  unfold laws_FnExactCountingOf.f
  refine Ev.bind (laws_szStringS_ev ks _ hk1 hk2 (by omega) (by omega)) ?_
  by_cases z : szTexts ks 1048576 < 0
  · simp only [z, ↓reduceIte]; exact Ev.now _
  simp only [z, ↓reduceIte]
  have zz := szTexts_of z
  have hg := countedV_length a b n ks
  have hi := impl_CountingOf_ev a b n ks hk1 hk2
  refine Ev.bind (laws_toStringS_ev ks (by omega)) ?_
  refine Ev.bind (spec_CountingOf_ev a b n ks hk1 hk2) ?_
  refine Ev.bind (laws_toStringS_ev ks (by omega)) ?_
  refine Ev.bind hi ?_
  generalize countedV a b n ks = v at *
  obtain ⟨x, y, l, o⟩ := v
  simp only at hg
  refine Ev.bind (laws_eqCounting_self x y l (by omega)) ?_
  simp only [↓reduceIte, bne_self_eq_false]
  refine Ev.succ ?_
  simp only [laws_FnExactCountingOf.j0, Bool.false_eq_true, ↓reduceIte]
  refine Ev.bind (laws_toStringS_ev ks (by omega)) ?_
  refine Ev.bind (laws_eqStringS_self ks hk1) ?_
  simp only [↓reduceIte]
  refine Ev.bind (laws_markStringS_ev f hf ks 1 (by omega) (by omega)) ?_
  simp only [show ¬ ((1 : Int) + (ks.length : Int) < 0) from by omega, ↓reduceIte]
  refine Ev.bind (laws_eqCounting_self x y l (by omega)) ?_
  simp only [↓reduceIte, bne_self_eq_false]
  refine Ev.succ ?_
  simp only [laws_FnExactCountingOf.j1, Bool.false_eq_true, ↓reduceIte]
  refine Ev.bind (laws_markCounting_ev x y l (by omega)) ?_
  refine Ev.bind (laws_heldCounting_ev x y l.length (by omega)) ?_
  simp only [show ¬ ((1 : Int) + (l.length : Int) < 0) from by omega, ↓reduceIte]
  refine Ev.bind (laws_toStringS_ev ks (by omega)) ?_
  refine Ev.bind hi ?_
  refine Ev.bind (laws_eqCounting_self x y l (by omega)) ?_
  simp only [↓reduceIte, bne_self_eq_false]
  refine Ev.succ ?_
  simp only [laws_FnExactCountingOf.j2, Bool.false_eq_true, ↓reduceIte]
  refine Ev.bind (laws_heldCounting_ev x y l.length (by omega)) ?_
  simp only [show ¬ ((1 : Int) + (l.length : Int) < 0) from by omega, ↓reduceIte]
  exact Ev.now _

end Go.Proofs.Ytmiekfffaaagpaa.Pure
