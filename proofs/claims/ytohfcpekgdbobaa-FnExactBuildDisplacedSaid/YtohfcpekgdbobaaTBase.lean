-- made by wip/tools/trimwords.py over the kit's print, for this claim
import Derived.Test.YtohfcpekgdbobaaTWWords
import Derived.Test.YtohfcpekgdbobaaTWMore
namespace Go.Proofs.Ytohfcpekgdbobaa.Base
open Go.RowKit Go.Proofs.YtohfcpekgdbobaaW.PrintWords
set_option linter.unusedSimpArgs false
set_option linter.unusedVariables false
theorem w64 {n : Int} (h0 : -9223372036854775808 ≤ n) (h1 : n ≤ 9223372036854775807) : wrap64 n = n := by
 unfold wrap64
 omega
theorem Ev.succ {α : Type} {g : Nat → Option α} {r : α} (h : Ev (fun k => g (k + 1)) r) : Ev g r := Ev.step (fun _ => rfl) h
theorem Ev.some_ {α : Type} {a r : α} (h : a = r) : Ev (fun _ => some a) r := h ▸ Ev.now a
theorem Ev.up {β : Type} {L : Nat → Nat → Option β} (r : Nat → β) (n : Nat) (hend : Ev (fun k => L k n) (r n))
  (hstep : ∀ j, j < n → Ev (fun k => L k (j + 1)) (r (j + 1)) → Ev (fun k => L k j) (r j)) : ∀ j, j ≤ n → Ev (fun k => L k j) (r j) := by
 suffices h : ∀ d j, j + d = n → Ev (fun k => L k j) (r j) from fun j hj => h (n - j) j (by omega)
 intro d
 induction d with
 | zero =>
  intro j hj
  obtain rfl : j = n := by omega
  exact hend
 | succ d ih => exact fun j hj => hstep j (by omega) (ih (j + 1) (by omega))
theorem rd_nat (l : List Int) (i : Nat) (h : i < l.length) : rd l (i : Int) = l[i] := by
 unfold rd
 rw [Int.toNat_natCast, List.getD_eq_getElem?_getD, List.getElem?_eq_getElem h]
 rfl
theorem rdOf_nat {α : Type} (d : α) (l : List α) (i : Nat) (h : i < l.length) : rdOf d l (i : Int) = l[i] := by
 unfold rdOf
 rw [Int.toNat_natCast, List.getD_eq_getElem?_getD, List.getElem?_eq_getElem h]
 rfl
theorem bt_nat (s : ByteArray) (i : Nat) (h : i < s.size) : bt s (i : Int) = (bytesOf s)[i]'(by rw [bytesOf_length]; exact h) := by
 rw [← rd_bytesOf, rd_nat _ _ (by rw [bytesOf_length]; exact h)]
theorem drop_cons {α : Type} (l : List α) (i : Nat) (h : i < l.length) : l.drop i = l[i] :: l.drop (i + 1) := List.drop_eq_getElem_cons h
def okByte (b : Int) : Bool := decide (33 ≤ b ∧ b ≤ 125)
def isKey (s : ByteArray) : Bool := (bytesOf s).all okByte && decide (1 ≤ (s.size : Int) ∧ (s.size : Int) ≤ 12)
def hstep (h b : Int) : Int := (263 * h + b) % 65521
def hashFrom (h : Int) (l : List Int) : Int := (l.foldl hstep h) ^ 11 % 65521
def hash0 (a b : Int) : Int := (31 * a + 977 * b + 7) % 65521
def hashV (a b : Int) (s : ByteArray) : Int := hashFrom (hash0 a b) (bytesOf s)
theorem hash_range (a b : Int) (s : ByteArray) : 0 ≤ hashV a b s ∧ hashV a b s < 65521 := by
 unfold hashV hashFrom
 exact ⟨Int.emod_nonneg _ (by decide), Int.emod_lt_of_pos _ (by decide)⟩
def placeV (a b : Int) (s : ByteArray) (n : Int) : Int := hashV a b s * n / 65521
theorem place_range {a b : Int} {s : ByteArray} {n : Int} (h : 0 < n) : 0 ≤ placeV a b s n ∧ placeV a b s n < n := by
 have := hash_range a b s
 unfold placeV
 constructor
 ·
  exact Int.ediv_nonneg (Int.mul_nonneg this.1 (by omega)) (by decide)
 ·
  apply Int.ediv_lt_of_lt_mul (by decide)
  have h1 : hashV a b s * n ≤ 65520 * n := Int.mul_le_mul_of_nonneg_right (by omega) (by omega)
  omega
theorem tmod_pos {x : Int} (h : 0 ≤ x) (m : Int) : Int.tmod x m = x % m := Int.tmod_eq_emod_of_nonneg h
theorem tdiv_pos {x : Int} (h : 0 ≤ x) (m : Int) : Int.tdiv x m = x / m := Int.tdiv_eq_ediv_of_nonneg h
theorem mul_mod_l (a b : Int) : (a % 65521) * b % 65521 = a * b % 65521 := by rw [Int.mul_emod, Int.emod_emod_of_dvd _ (Int.dvd_refl _), ← Int.mul_emod]
theorem mul_mod_r (a b : Int) : a * (b % 65521) % 65521 = a * b % 65521 := by rw [Int.mul_emod, Int.emod_emod_of_dvd _ (Int.dvd_refl _), ← Int.mul_emod]
theorem prod_range {a b : Int} (ha : 0 ≤ a) (ha' : a < 65521) (hb : 0 ≤ b) (hb' : b < 65521) : 0 ≤ a * b ∧ a * b ≤ 4293001441 := by
 constructor
 ·
  exact Int.mul_nonneg ha hb
 ·
  have h1 : a * b ≤ a * 65521 := Int.mul_le_mul_of_nonneg_left (by omega) ha
  omega
def marks (m : Int) (n : Nat) : List Int := (List.range n).map fun i : Nat => m + (i : Int)
theorem marks_length (m : Int) (n : Nat) : (marks m n).length = n := by simp [marks]
theorem marks_succ (m : Int) (n : Nat) : marks m (n + 1) = marks m n ++ [m + n] := by simp [marks, List.range_succ]
theorem take_set_succ {α : Type} (l : List α) (i : Nat) (x : α) (h : i < l.length) : (l.set i x).take (i + 1) = l.take i ++ [x] := by
 rw [List.take_succ_eq_append_getElem (by simpa using h)]
 simp [List.take_set_of_le]
def marksOf {α : Type} (f : Int → α) (m : Int) (n : Nat) : List α := (List.range n).map fun i : Nat => f (m + (i : Int))
theorem marksOf_succ {α : Type} (f : Int → α) (m : Int) (n : Nat) : marksOf f m (n + 1) = marksOf f m n ++ [f (m + n)] := by simp [marksOf, List.range_succ]
def inB (a b x : Int) : Bool := decide (a ≤ x ∧ x ≤ b)
end Go.Proofs.Ytohfcpekgdbobaa.Base
