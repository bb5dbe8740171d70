/- Plain words for the pure halves: what holds from some number of rounds on, machine integers within their bounds, keys and hashes. -/
import Derived.Test.YthaicmebdgeamaaWWords
import Derived.Test.YthaicmebdgeamaaWMore
namespace Go.Proofs.Ythaicmebdgeamaa.Base
open Go.RowKit Go.Proofs.YthaicmebdgeamaaW.PrintWords
set_option linter.unusedSimpArgs false
set_option linter.unusedVariables false

theorem w64 {n : Int} (h0 : -9223372036854775808 ≤ n) (h1 : n ≤ 9223372036854775807) : wrap64 n = n := by
  unfold wrap64
  omega
theorem Ev.succ {α : Type} {g : Nat → Option α} {r : α} (h : Ev (fun k => g (k + 1)) r) : Ev g r := Ev.step (fun _ => rfl) h
theorem Ev.some_ {α : Type} {a r : α} (h : a = r) : Ev (fun _ => some a) r := h ▸ Ev.now a
/-- A loop that goes from round 0 to round n, and ends there. -/
theorem Ev.walk {σ β : Type} {L : Nat → σ → Option β} (st : Nat → σ) (r : β) (n : Nat) (hend : Ev (fun k => L k (st n)) r)
    (hstep : ∀ j, j < n → Ev (fun k => L k (st (j + 1))) r → Ev (fun k => L k (st j)) r) : Ev (fun k => L k (st 0)) r := by
  suffices h : ∀ d j, j + d = n → Ev (fun k => L k (st j)) r from h n 0 (by omega)
  intro d
  induction d with
  | zero =>
    intro j hj
    obtain rfl : j = n := by omega
    exact hend
  | succ d ih => exact fun j hj => hstep j (by omega) (ih (j + 1) (by omega))
/-- The same, the answer told at each round. -/
theorem Ev.up {β : Type} {L : Nat → Nat → Option β} (r : Nat → β) (n : Nat) (hend : Ev (fun k => L k n) (r n))
    (hstep : ∀ j, j < n → Ev (fun k => L k (j + 1)) (r (j + 1)) → Ev (fun k => L k j) (r j)) : ∀ j, j ≤ n → Ev (fun k => L k j) (r j) := by
  suffices h : ∀ d j, j + d = n → Ev (fun k => L k j) (r j) from fun j hj => h (n - j) j (by omega)
  intro d
  induction d with
  | zero =>
    intro j hj
    obtain rfl : j = n := by omega
    exact hend
  | succ d ih => exact fun j hj => hstep j (by omega) (ih (j + 1) (by omega))

/-! ### lists by index -/
theorem rd_nat (l : List Int) (i : Nat) (h : i < l.length) : rd l (i : Int) = l[i] := by
  unfold rd
  rw [Int.toNat_natCast, List.getD_eq_getElem?_getD, List.getElem?_eq_getElem h]
  rfl
theorem rdOf_nat {α : Type} (d : α) (l : List α) (i : Nat) (h : i < l.length) : rdOf d l (i : Int) = l[i] := by
  unfold rdOf
  rw [Int.toNat_natCast, List.getD_eq_getElem?_getD, List.getElem?_eq_getElem h]
  rfl
theorem bt_nat (s : ByteArray) (i : Nat) (h : i < s.size) : bt s (i : Int) = (bytesOf s)[i]'(by rw [bytesOf_length]; exact h) := by
  rw [← rd_bytesOf, rd_nat _ _ (by rw [bytesOf_length]; exact h)]
theorem bytesOf_range (s : ByteArray) : ∀ b ∈ bytesOf s, 0 ≤ b ∧ b ≤ 255 := by
  intro b hb
  unfold bytesOf at hb
  obtain ⟨x, _, rfl⟩ := List.mem_map.1 hb
  have := x.toNat_lt
  omega
theorem drop_cons {α : Type} (l : List α) (i : Nat) (h : i < l.length) : l.drop i = l[i] :: l.drop (i + 1) := List.drop_eq_getElem_cons h

/-! ### keys -/
def okByte (b : Int) : Bool := decide (33 ≤ b ∧ b ≤ 125)
def isKey (s : ByteArray) : Bool := (bytesOf s).all okByte && decide (1 ≤ (s.size : Int) ∧ (s.size : Int) ≤ 12)
theorem isKey_size {s : ByteArray} (h : isKey s = true) : 1 ≤ s.size ∧ s.size ≤ 12 := by
  unfold isKey at h
  simp at h
  omega

/-! ### hashes -/
def hstep (h b : Int) : Int := (263 * h + b) % 65521
def hashFrom (h : Int) (l : List Int) : Int := (l.foldl hstep h) ^ 11 % 65521
def hash0 (a b : Int) : Int := (31 * a + 977 * b + 7) % 65521
def hashV (a b : Int) (s : ByteArray) : Int := hashFrom (hash0 a b) (bytesOf s)
theorem hash_range (a b : Int) (s : ByteArray) : 0 ≤ hashV a b s ∧ hashV a b s < 65521 := by
  unfold hashV hashFrom
  exact ⟨Int.emod_nonneg _ (by decide), Int.emod_lt_of_pos _ (by decide)⟩
def placeV (a b : Int) (s : ByteArray) (n : Int) : Int := hashV a b s * n / 65521
theorem place_range {a b : Int} {s : ByteArray} {n : Int} (h : 0 < n) : 0 ≤ placeV a b s n ∧ placeV a b s n < n := by
  have := hash_range a b s
  unfold placeV
  constructor
  · exact Int.ediv_nonneg (Int.mul_nonneg this.1 (by omega)) (by decide)
  · apply Int.ediv_lt_of_lt_mul (by decide)
    have h1 : hashV a b s * n ≤ 65520 * n := Int.mul_le_mul_of_nonneg_right (by omega) (by omega)
    omega
theorem tmod_pos {x : Int} (h : 0 ≤ x) (m : Int) : Int.tmod x m = x % m := Int.tmod_eq_emod_of_nonneg h
theorem tdiv_pos {x : Int} (h : 0 ≤ x) (m : Int) : Int.tdiv x m = x / m := Int.tdiv_eq_ediv_of_nonneg h
theorem mul_mod_l (a b : Int) : (a % 65521) * b % 65521 = a * b % 65521 := by rw [Int.mul_emod, Int.emod_emod_of_dvd _ (Int.dvd_refl _), ← Int.mul_emod]
theorem mul_mod_r (a b : Int) : a * (b % 65521) % 65521 = a * b % 65521 := by rw [Int.mul_emod, Int.emod_emod_of_dvd _ (Int.dvd_refl _), ← Int.mul_emod]
/-- Products of what lies below the prime are no machine word's limit. -/
theorem prod_range {a b : Int} (ha : 0 ≤ a) (ha' : a < 65521) (hb : 0 ≤ b) (hb' : b < 65521) : 0 ≤ a * b ∧ a * b ≤ 4293001441 := by
  constructor
  · exact Int.mul_nonneg ha hb
  · have h1 : a * b ≤ a * 65521 := Int.mul_le_mul_of_nonneg_left (by omega) ha
    omega

/-! ### marks -/
def marks (m : Int) (n : Nat) : List Int := (List.range n).map fun i : Nat => m + (i : Int)
theorem marks_length (m : Int) (n : Nat) : (marks m n).length = n := by simp [marks]
theorem marks_succ (m : Int) (n : Nat) : marks m (n + 1) = marks m n ++ [m + n] := by simp [marks, List.range_succ]
theorem take_set_succ {α : Type} (l : List α) (i : Nat) (x : α) (h : i < l.length) : (l.set i x).take (i + 1) = l.take i ++ [x] := by
  rw [List.take_succ_eq_append_getElem (by simpa using h)]
  simp [List.take_set_of_le]
def marksOf {α : Type} (f : Int → α) (m : Int) (n : Nat) : List α := (List.range n).map fun i : Nat => f (m + (i : Int))
theorem marksOf_length {α : Type} (f : Int → α) (m : Int) (n : Nat) : (marksOf f m n).length = n := by simp [marksOf]
theorem marksOf_succ {α : Type} (f : Int → α) (m : Int) (n : Nat) : marksOf f m (n + 1) = marksOf f m n ++ [f (m + n)] := by simp [marksOf, List.range_succ]

/-! ### shifts -/
theorem pow_le_of {n m : Nat} (h : n ≤ m) : (2 : Int) ^ n ≤ 2 ^ m := by
  have h1 : (2 : Nat) ^ n ≤ 2 ^ m := Nat.pow_le_pow_right (by decide) h
  have h2 : ((2 ^ n : Nat) : Int) ≤ ((2 ^ m : Nat) : Int) := Int.ofNat_le.2 h1
  simpa using h2
theorem pow_pos_ (n : Nat) : (0 : Int) < 2 ^ n := Int.pow_pos (by decide)
theorem shl_one {a : Int} (h0 : 0 ≤ a) (h1 : a ≤ 62) : shl .i64 1 a = 2 ^ a.toNat := by
  have h2 := pow_le_of (n := a.toNat) (m := 62) (by omega)
  have h3 := pow_pos_ a.toNat
  unfold shl
  rw [show min a.toNat (IntKind.bits .i64) = a.toNat from by simp [IntKind.bits]; omega, Int.one_mul, IntKind.wrap_i64]
  generalize (2 : Int) ^ a.toNat = t at *
  simp at h2
  omega

/-! ### probes -/
def probesV (a c : Int) (s : ByteArray) (n : Nat) : List Int := (List.range n).map fun i : Nat => placeV a (i : Int) s c
theorem probesV_length (a c : Int) (s : ByteArray) (n : Nat) : (probesV a c s n).length = n := by simp [probesV]
theorem probesV_succ (a c : Int) (s : ByteArray) (n : Nat) : probesV a c s (n + 1) = probesV a c s n ++ [placeV a n s c] := by simp [probesV, List.range_succ]

/-! ### vectors of bits -/
def inB (a b x : Int) : Bool := decide (a ≤ x ∧ x ≤ b)
def lastOk (n : Int) (ws : List Int) : Bool := decide (n % 16 = 0) || (shr .i64 (rd ws ((ws.length : Int) - 1)) (n % 16) == 0)
def goodBits (n : Int) (ws : List Int) : Bool := inB 0 4096 n && (decide ((ws.length : Int) = (n + 15) / 16) && (ws.all (inB 0 65535) && lastOk n ws))
theorem goodBits_size {n : Int} {ws : List Int} (h : goodBits n ws = true) : 0 ≤ n ∧ n ≤ 4096 ∧ (ws.length : Int) = (n + 15) / 16 ∧ ∀ x ∈ ws, 0 ≤ x ∧ x ≤ 65535 := by
  unfold goodBits inB at h
  simp only [Bool.and_eq_true, decide_eq_true_eq, List.all_eq_true] at h
  exact ⟨h.1.1, h.1.2, h.2.1, h.2.2.1⟩

/-! ### the first index -/
def idxV {α : Type} (p : α → Bool) (l : List α) (i : Nat) : Int := match (l.drop i).findIdx? p with | some j => ((i + j : Nat) : Int) | none => -1
theorem idxV_end {α : Type} (p : α → Bool) (l : List α) : idxV p l l.length = -1 := by simp [idxV]
theorem idxV_hit {α : Type} {p : α → Bool} {l : List α} {i : Nat} (hi : i < l.length) (h : p l[i] = true) : idxV p l i = i := by
  unfold idxV
  rw [drop_cons l i hi, List.findIdx?_cons, if_pos h]
  simp
theorem idxV_miss {α : Type} {p : α → Bool} {l : List α} {i : Nat} (hi : i < l.length) (h : p l[i] = false) : idxV p l i = idxV p l (i + 1) := by
  unfold idxV
  rw [drop_cons l i hi, List.findIdx?_cons, h]
  cases (l.drop (i + 1)).findIdx? p with
  | none => rfl
  | some j =>
    simp
    omega
theorem idxV_ge {α : Type} (p : α → Bool) (l : List α) : decide (idxV p l 0 ≥ 0) = l.any p := by
  unfold idxV
  rw [List.drop_zero, ← List.findIdx?_isSome]
  cases l.findIdx? p with
  | none => rfl
  | some j => simp

/-! ### machine words as bits -/
theorem bits_nat64 (a b : Nat) (ha : a < 9223372036854775808) (hb : b < 9223372036854775808) :
    bits .and .i64 (a : Int) (b : Int) = ((a &&& b : Nat) : Int) ∧ bits .or .i64 (a : Int) (b : Int) = ((a ||| b : Nat) : Int) ∧ bits .xor .i64 (a : Int) (b : Int) = ((a ^^^ b : Nat) : Int) ∧ bits .andNot .i64 (a : Int) (b : Int) = ((a &&& (18446744073709551615 - b) : Nat) : Int) := by
  have e64 : (2 : Nat) ^ 64 = 18446744073709551616 := by decide
  have e63 : (2 : Nat) ^ 63 = 9223372036854775808 := by decide
  have wrap : ∀ n : Nat, n < 2 ^ 63 → IntKind.i64.wrap (n : Int) = (n : Int) := by
    intro n hn
    rw [IntKind.wrap_i64]
    omega
  have ma : a % 2 ^ 64 = a := Nat.mod_eq_of_lt (by omega)
  have mb : b % 2 ^ 64 = b := Nat.mod_eq_of_lt (by omega)
  refine ⟨?_, ?_, ?_, ?_⟩
  · show IntKind.i64.wrap (((BitVec.ofInt 64 (a : Int)) &&& (BitVec.ofInt 64 (b : Int))).toNat : Int) = _
    simp only [BitVec.ofInt_natCast, BitVec.toNat_and, BitVec.toNat_ofNat, ma, mb]
    exact wrap _ (Nat.and_lt_two_pow _ (by omega))
  · show IntKind.i64.wrap (((BitVec.ofInt 64 (a : Int)) ||| (BitVec.ofInt 64 (b : Int))).toNat : Int) = _
    simp only [BitVec.ofInt_natCast, BitVec.toNat_or, BitVec.toNat_ofNat, ma, mb]
    exact wrap _ (Nat.or_lt_two_pow (by omega) (by omega))
  · show IntKind.i64.wrap (((BitVec.ofInt 64 (a : Int)) ^^^ (BitVec.ofInt 64 (b : Int))).toNat : Int) = _
    simp only [BitVec.ofInt_natCast, BitVec.toNat_xor, BitVec.toNat_ofNat, ma, mb]
    exact wrap _ (Nat.xor_lt_two_pow (by omega) (by omega))
  · show IntKind.i64.wrap (((BitVec.ofInt 64 (a : Int)) &&& ~~~(BitVec.ofInt 64 (b : Int))).toNat : Int) = _
    simp only [BitVec.ofInt_natCast, BitVec.toNat_and, BitVec.toNat_not, BitVec.toNat_ofNat, ma, mb]
    rw [show 2 ^ 64 - 1 - b = 18446744073709551615 - b from by omega]
    exact wrap _ (Nat.lt_of_le_of_lt Nat.and_le_left (by omega))
def bitI (x : Int) (j : Nat) : Bool := x.toNat.testBit j
theorem and_one_bit {x : Int} {j : Int} (h0 : 0 ≤ x) (h1 : x ≤ 65535) (j0 : 0 ≤ j) (j1 : j ≤ 62) : (bits .and .i64 (shr .i64 x j) 1 == 1) = bitI x j.toNat := by
  obtain ⟨a, rfl⟩ := Int.eq_ofNat_of_zero_le h0
  obtain ⟨t, rfl⟩ := Int.eq_ofNat_of_zero_le j0
  have e : shr .i64 (a : Int) (t : Int) = ((a / 2 ^ t : Nat) : Int) := by
    unfold shr
    rw [show min ((t : Int).toNat) (IntKind.bits .i64) = t from by simp [IntKind.bits]; omega]
    simp
  have hlt : a / 2 ^ t < 9223372036854775808 := Nat.lt_of_le_of_lt (Nat.div_le_self _ _) (by omega)
  have e2 := (bits_nat64 (a / 2 ^ t) 1 hlt (by decide)).1
  rw [e]
  rw [show ((1 : Nat) : Int) = 1 from rfl] at e2
  rw [e2, Nat.and_one_is_mod]
  unfold bitI
  rw [Int.toNat_natCast, Int.toNat_natCast, Nat.testBit_eq_decide_div_mod_eq]
  have := Nat.mod_lt (a / 2 ^ t) (show 0 < 2 by decide)
  by_cases c : a / 2 ^ t % 2 = 1
  · simp [c]
  · have c0 : a / 2 ^ t % 2 = 0 := by omega
    simp [c0]
theorem andNot_zero {x y : Int} (x0 : 0 ≤ x) (x1 : x ≤ 65535) (y0 : 0 ≤ y) (y1 : y ≤ 65535) : bits .andNot .i64 x y = 0 ↔ ∀ j, bitI x j = true → bitI y j = true := by
  obtain ⟨a, rfl⟩ := Int.eq_ofNat_of_zero_le x0
  obtain ⟨b, rfl⟩ := Int.eq_ofNat_of_zero_le y0
  rw [(bits_nat64 a b (by omega) (by omega)).2.2.2]
  unfold bitI
  simp only [Int.toNat_natCast]
  have ht : ∀ j, (18446744073709551615 - b).testBit j = (decide (j < 64) && !b.testBit j) := by
    intro j
    have h := Nat.testBit_two_pow_sub_succ (x := b) (n := 64) (by omega) j
    rw [show 2 ^ 64 - (b + 1) = 18446744073709551615 - b from by omega] at h
    exact h
  constructor
  · intro h j hj
    have h0 : a &&& (18446744073709551615 - b) = 0 := by omega
    have h1 : (a &&& (18446744073709551615 - b)).testBit j = false := by rw [h0]; simp
    rw [Nat.testBit_and, hj, ht, Bool.true_and] at h1
    have h2 : j < 64 := by
      by_cases c : j < 64
      · exact c
      · have h3 : a.testBit j = false := Nat.testBit_lt_two_pow (Nat.lt_of_lt_of_le (show a < 2 ^ 64 by omega) (Nat.pow_le_pow_right (by decide) (by omega)))
        rw [hj] at h3
        cases h3
    simpa [h2] using h1
  · intro h
    have h0 : a &&& (18446744073709551615 - b) = 0 := by
      apply Nat.eq_of_testBit_eq
      intro j
      rw [Nat.testBit_and, ht, Nat.zero_testBit]
      cases hj : a.testBit j with
      | false => rfl
      | true => rw [h j hj]; simp
    rw [h0]
    rfl
/-- Bit i of a vector of words. -/
def bitV (ws : List Int) (i : Nat) : Bool := bitI (rd ws ((i / 16 : Nat) : Int)) (i % 16)
theorem rd_range {ws : List Int} (h : ∀ x ∈ ws, 0 ≤ x ∧ x ≤ 65535) (i : Int) : 0 ≤ rd ws i ∧ rd ws i ≤ 65535 := by
  unfold rd
  rw [List.getD_eq_getElem?_getD]
  cases e : ws[i.toNat]? with
  | none => simp
  | some x => simpa using h x (List.mem_of_getElem? e)
theorem bitI_high {x : Int} (h0 : 0 ≤ x) (h1 : x ≤ 65535) {j : Nat} (hj : 16 ≤ j) : bitI x j = false := by
  unfold bitI
  exact Nat.testBit_lt_two_pow (Nat.lt_of_lt_of_le (show x.toNat < 2 ^ 16 by omega) (Nat.pow_le_pow_right (by decide) hj))
theorem bitI_zero (j : Nat) : bitI 0 j = false := by simp [bitI]
/-- Behind the size all bits are off. -/
theorem bitV_behind {n : Int} {ws : List Int} (h : goodBits n ws = true) {i : Nat} (hi : n ≤ i) : bitV ws i = false := by
  have hs := goodBits_size h
  have hl : lastOk n ws = true := by
    unfold goodBits at h
    simp only [Bool.and_eq_true] at h
    exact h.2.2.2
  unfold bitV
  by_cases c : i / 16 < ws.length
  · unfold lastOk at hl
    simp only [Bool.or_eq_true, decide_eq_true_eq, beq_iff_eq] at hl
    have e : ((i / 16 : Nat) : Int) = (ws.length : Int) - 1 := by omega
    rw [e]
    have hr := rd_range hs.2.2.2 ((ws.length : Int) - 1)
    rcases hl with h0 | h0
    · omega
    · generalize rd ws ((ws.length : Int) - 1) = x at *
      obtain ⟨a, rfl⟩ := Int.eq_ofNat_of_zero_le hr.1
      unfold shr at h0
      rw [show min ((n % 16).toNat) (IntKind.bits .i64) = (n % 16).toNat from by simp [IntKind.bits]; omega] at h0
      have h1 : a / 2 ^ (n % 16).toNat = 0 := by
        have e3 : ((a / 2 ^ (n % 16).toNat : Nat) : Int) = 0 := by simpa using h0
        omega
      have h2 : a < 2 ^ (n % 16).toNat := by
        rcases Nat.lt_or_ge a (2 ^ (n % 16).toNat) with h3 | h3
        · exact h3
        · have := Nat.div_pos h3 (Nat.two_pow_pos _)
          omega
      unfold bitI
      rw [Int.toNat_natCast]
      exact Nat.testBit_lt_two_pow (Nat.lt_of_lt_of_le h2 (Nat.pow_le_pow_right (by decide) (by omega)))
  · have e : rd ws ((i / 16 : Nat) : Int) = 0 := by
      unfold rd
      rw [Int.toNat_natCast, List.getD_eq_getElem?_getD, List.getElem?_eq_none (by omega)]
      rfl
    rw [e]
    exact bitI_zero _
end Go.Proofs.Ythaicmebdgeamaa.Base
