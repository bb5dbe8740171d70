/- Plain words for the pure halves: what holds from some number of rounds on, machine integers within their bounds, keys and hashes. -/
import Derived.Test.YtcccfjpiebihmaaWWords
import Derived.Test.YtcccfjpiebihmaaWMore
namespace Go.Proofs.Ytcccfjpiebihmaa.Base
open Go.RowKit Go.Proofs.YtcccfjpiebihmaaW.PrintWords

theorem w64 {n : Int} (h0 : -9223372036854775808 ≤ n) (h1 : n ≤ 9223372036854775807) : wrap64 n = n := by
  unfold wrap64
  omega
theorem Ev.succ {α : Type} {g : Nat → Option α} {r : α} (h : Ev (fun k => g (k + 1)) r) : Ev g r := Ev.step (fun _ => rfl) h
theorem Ev.some_ {α : Type} {a r : α} (h : a = r) : Ev (fun _ => some a) r := h ▸ Ev.now a
/-- A loop that goes from round 0 to round n, and ends there. -/
theorem Ev.walk {σ β : Type} {L : Nat → σ → Option β} (st : Nat → σ) (r : β) (n : Nat) (hend : Ev (fun k => L k (st n)) r)
    (hstep : ∀ j, j < n → Ev (fun k => L k (st (j + 1))) r → Ev (fun k => L k (st j)) r) : Ev (fun k => L k (st 0)) r := by
  suffices h : ∀ d j, j + d = n → Ev (fun k => L k (st j)) r from h n 0 (by omega)
  intro d
  induction d with
  | zero =>
    intro j hj
    obtain rfl : j = n := by omega
    exact hend
  | succ d ih => exact fun j hj => hstep j (by omega) (ih (j + 1) (by omega))
/-- The same, the answer told at each round. -/
theorem Ev.up {β : Type} {L : Nat → Nat → Option β} (r : Nat → β) (n : Nat) (hend : Ev (fun k => L k n) (r n))
    (hstep : ∀ j, j < n → Ev (fun k => L k (j + 1)) (r (j + 1)) → Ev (fun k => L k j) (r j)) : ∀ j, j ≤ n → Ev (fun k => L k j) (r j) := by
  suffices h : ∀ d j, j + d = n → Ev (fun k => L k j) (r j) from fun j hj => h (n - j) j (by omega)
  intro d
  induction d with
  | zero =>
    intro j hj
    obtain rfl : j = n := by omega
    exact hend
  | succ d ih => exact fun j hj => hstep j (by omega) (ih (j + 1) (by omega))

/-! ### lists by index -/
theorem rd_nat (l : List Int) (i : Nat) (h : i < l.length) : rd l (i : Int) = l[i] := by
  unfold rd
  rw [Int.toNat_natCast, List.getD_eq_getElem?_getD, List.getElem?_eq_getElem h]
  rfl
theorem rdOf_nat {α : Type} (d : α) (l : List α) (i : Nat) (h : i < l.length) : rdOf d l (i : Int) = l[i] := by
  unfold rdOf
  rw [Int.toNat_natCast, List.getD_eq_getElem?_getD, List.getElem?_eq_getElem h]
  rfl
theorem bt_nat (s : ByteArray) (i : Nat) (h : i < s.size) : bt s (i : Int) = (bytesOf s)[i]'(by rw [bytesOf_length]; exact h) := by
  rw [← rd_bytesOf, rd_nat _ _ (by rw [bytesOf_length]; exact h)]
theorem bytesOf_range (s : ByteArray) : ∀ b ∈ bytesOf s, 0 ≤ b ∧ b ≤ 255 := by
  intro b hb
  unfold bytesOf at hb
  obtain ⟨x, _, rfl⟩ := List.mem_map.1 hb
  have := x.toNat_lt
  omega
theorem drop_cons {α : Type} (l : List α) (i : Nat) (h : i < l.length) : l.drop i = l[i] :: l.drop (i + 1) := List.drop_eq_getElem_cons h

/-! ### keys -/
def okByte (b : Int) : Bool := decide (33 ≤ b ∧ b ≤ 125)
def isKey (s : ByteArray) : Bool := (bytesOf s).all okByte && decide (1 ≤ (s.size : Int) ∧ (s.size : Int) ≤ 12)
theorem isKey_size {s : ByteArray} (h : isKey s = true) : 1 ≤ s.size ∧ s.size ≤ 12 := by
  unfold isKey at h
  simp at h
  omega

/-! ### hashes -/
def hstep (h b : Int) : Int := (263 * h + b) % 65521
def hashFrom (h : Int) (l : List Int) : Int := (l.foldl hstep h) ^ 11 % 65521
def hash0 (a b : Int) : Int := (31 * a + 977 * b + 7) % 65521
def hashV (a b : Int) (s : ByteArray) : Int := hashFrom (hash0 a b) (bytesOf s)
theorem hash_range (a b : Int) (s : ByteArray) : 0 ≤ hashV a b s ∧ hashV a b s < 65521 := by
  unfold hashV hashFrom
  exact ⟨Int.emod_nonneg _ (by decide), Int.emod_lt_of_pos _ (by decide)⟩
def placeV (a b : Int) (s : ByteArray) (n : Int) : Int := hashV a b s * n / 65521
theorem place_range {a b : Int} {s : ByteArray} {n : Int} (h : 0 < n) : 0 ≤ placeV a b s n ∧ placeV a b s n < n := by
  have := hash_range a b s
  unfold placeV
  constructor
  · exact Int.ediv_nonneg (Int.mul_nonneg this.1 (by omega)) (by decide)
  · apply Int.ediv_lt_of_lt_mul (by decide)
    have h1 : hashV a b s * n ≤ 65520 * n := Int.mul_le_mul_of_nonneg_right (by omega) (by omega)
    omega
theorem tmod_pos {x : Int} (h : 0 ≤ x) (m : Int) : Int.tmod x m = x % m := Int.tmod_eq_emod_of_nonneg h
theorem tdiv_pos {x : Int} (h : 0 ≤ x) (m : Int) : Int.tdiv x m = x / m := Int.tdiv_eq_ediv_of_nonneg h
theorem mul_mod_l (a b : Int) : (a % 65521) * b % 65521 = a * b % 65521 := by rw [Int.mul_emod, Int.emod_emod_of_dvd _ (Int.dvd_refl _), ← Int.mul_emod]
theorem mul_mod_r (a b : Int) : a * (b % 65521) % 65521 = a * b % 65521 := by rw [Int.mul_emod, Int.emod_emod_of_dvd _ (Int.dvd_refl _), ← Int.mul_emod]
/-- Products of what lies below the prime are no machine word's limit. -/
theorem prod_range {a b : Int} (ha : 0 ≤ a) (ha' : a < 65521) (hb : 0 ≤ b) (hb' : b < 65521) : 0 ≤ a * b ∧ a * b ≤ 4293001441 := by
  constructor
  · exact Int.mul_nonneg ha hb
  · have h1 : a * b ≤ a * 65521 := Int.mul_le_mul_of_nonneg_left (by omega) ha
    omega

/-! ### marks -/
def marks (m : Int) (n : Nat) : List Int := (List.range n).map fun i : Nat => m + (i : Int)
theorem marks_length (m : Int) (n : Nat) : (marks m n).length = n := by simp [marks]
theorem marks_succ (m : Int) (n : Nat) : marks m (n + 1) = marks m n ++ [m + n] := by simp [marks, List.range_succ]
theorem take_set_succ {α : Type} (l : List α) (i : Nat) (x : α) (h : i < l.length) : (l.set i x).take (i + 1) = l.take i ++ [x] := by
  rw [List.take_succ_eq_append_getElem (by simpa using h)]
  simp [List.take_set_of_le]
def marksOf {α : Type} (f : Int → α) (m : Int) (n : Nat) : List α := (List.range n).map fun i : Nat => f (m + (i : Int))
theorem marksOf_length {α : Type} (f : Int → α) (m : Int) (n : Nat) : (marksOf f m n).length = n := by simp [marksOf]
theorem marksOf_succ {α : Type} (f : Int → α) (m : Int) (n : Nat) : marksOf f m (n + 1) = marksOf f m n ++ [f (m + n)] := by simp [marksOf, List.range_succ]

/-! ### shifts -/
theorem pow_le_of {n m : Nat} (h : n ≤ m) : (2 : Int) ^ n ≤ 2 ^ m := by
  have h1 : (2 : Nat) ^ n ≤ 2 ^ m := Nat.pow_le_pow_right (by decide) h
  have h2 : ((2 ^ n : Nat) : Int) ≤ ((2 ^ m : Nat) : Int) := Int.ofNat_le.2 h1
  simpa using h2
theorem pow_pos_ (n : Nat) : (0 : Int) < 2 ^ n := Int.pow_pos (by decide)
theorem shl_small {a : Int} (h0 : 0 ≤ a) (h1 : a ≤ 62) : shl .i64 1 a = 2 ^ a.toNat := by
  have h2 := pow_le_of (n := a.toNat) (m := 62) (by omega)
  have h3 := pow_pos_ a.toNat
  unfold shl
  rw [show min a.toNat (IntKind.bits .i64) = a.toNat from by simp [IntKind.bits]; omega, Int.one_mul, IntKind.wrap_i64]
  generalize (2 : Int) ^ a.toNat = t at *
  simp at h2
  omega

/-! ### probes -/
def probesV (a c : Int) (s : ByteArray) (n : Nat) : List Int := (List.range n).map fun i : Nat => placeV a (i : Int) s c
theorem probesV_length (a c : Int) (s : ByteArray) (n : Nat) : (probesV a c s n).length = n := by simp [probesV]
theorem probesV_succ (a c : Int) (s : ByteArray) (n : Nat) : probesV a c s (n + 1) = probesV a c s n ++ [placeV a n s c] := by simp [probesV, List.range_succ]
end Go.Proofs.Ytcccfjpiebihmaa.Base
