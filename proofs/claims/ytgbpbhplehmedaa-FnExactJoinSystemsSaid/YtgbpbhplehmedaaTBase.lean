-- made by wip/tools/trimwords.py over the kit's print, for this claim
import Derived.Test.YtgbpbhplehmedaaTWWords
import Derived.Test.YtgbpbhplehmedaaTWMore
namespace Go.Proofs.Ytgbpbhplehmedaa.Base
open Go.RowKit Go.Proofs.YtgbpbhplehmedaaW.PrintWords
set_option linter.unusedSimpArgs false
set_option linter.unusedVariables false
theorem w64 {n : Int} (h0 : -9223372036854775808 ≤ n) (h1 : n ≤ 9223372036854775807) : wrap64 n = n := by
 unfold wrap64
 omega
theorem Ev.succ {α : Type} {g : Nat → Option α} {r : α} (h : Ev (fun k => g (k + 1)) r) : Ev g r := Ev.step (fun _ => rfl) h
theorem Ev.some_ {α : Type} {a r : α} (h : a = r) : Ev (fun _ => some a) r := h ▸ Ev.now a
theorem Ev.up {β : Type} {L : Nat → Nat → Option β} (r : Nat → β) (n : Nat) (hend : Ev (fun k => L k n) (r n))
  (hstep : ∀ j, j < n → Ev (fun k => L k (j + 1)) (r (j + 1)) → Ev (fun k => L k j) (r j)) : ∀ j, j ≤ n → Ev (fun k => L k j) (r j) := by
 suffices h : ∀ d j, j + d = n → Ev (fun k => L k j) (r j) from fun j hj => h (n - j) j (by omega)
 intro d
 induction d with
 | zero =>
  intro j hj
  obtain rfl : j = n := by omega
  exact hend
 | succ d ih => exact fun j hj => hstep j (by omega) (ih (j + 1) (by omega))
theorem rd_nat (l : List Int) (i : Nat) (h : i < l.length) : rd l (i : Int) = l[i] := by
 unfold rd
 rw [Int.toNat_natCast, List.getD_eq_getElem?_getD, List.getElem?_eq_getElem h]
 rfl
theorem rdOf_nat {α : Type} (d : α) (l : List α) (i : Nat) (h : i < l.length) : rdOf d l (i : Int) = l[i] := by
 unfold rdOf
 rw [Int.toNat_natCast, List.getD_eq_getElem?_getD, List.getElem?_eq_getElem h]
 rfl
theorem drop_cons {α : Type} (l : List α) (i : Nat) (h : i < l.length) : l.drop i = l[i] :: l.drop (i + 1) := List.drop_eq_getElem_cons h
def hstep (h b : Int) : Int := (263 * h + b) % 65521
theorem tmod_pos {x : Int} (h : 0 ≤ x) (m : Int) : Int.tmod x m = x % m := Int.tmod_eq_emod_of_nonneg h
theorem tdiv_pos {x : Int} (h : 0 ≤ x) (m : Int) : Int.tdiv x m = x / m := Int.tdiv_eq_ediv_of_nonneg h
def marks (m : Int) (n : Nat) : List Int := (List.range n).map fun i : Nat => m + (i : Int)
theorem marks_length (m : Int) (n : Nat) : (marks m n).length = n := by simp [marks]
theorem marks_succ (m : Int) (n : Nat) : marks m (n + 1) = marks m n ++ [m + n] := by simp [marks, List.range_succ]
theorem take_set_succ {α : Type} (l : List α) (i : Nat) (x : α) (h : i < l.length) : (l.set i x).take (i + 1) = l.take i ++ [x] := by
 rw [List.take_succ_eq_append_getElem (by simpa using h)]
 simp [List.take_set_of_le]
def marksOf {α : Type} (f : Int → α) (m : Int) (n : Nat) : List α := (List.range n).map fun i : Nat => f (m + (i : Int))
theorem marksOf_length {α : Type} (f : Int → α) (m : Int) (n : Nat) : (marksOf f m n).length = n := by simp [marksOf]
theorem marksOf_succ {α : Type} (f : Int → α) (m : Int) (n : Nat) : marksOf f m (n + 1) = marksOf f m n ++ [f (m + n)] := by simp [marksOf, List.range_succ]
def inB (a b x : Int) : Bool := decide (a ≤ x ∧ x ≤ b)
def lastOk (n : Int) (ws : List Int) : Bool := decide (n % 16 = 0) || (shr .i64 (rd ws ((ws.length : Int) - 1)) (n % 16) == 0)
def goodBits (n : Int) (ws : List Int) : Bool := inB 0 4096 n && (decide ((ws.length : Int) = (n + 15) / 16) && (ws.all (inB 0 65535) && lastOk n ws))
def idxV {α : Type} (p : α → Bool) (l : List α) (i : Nat) : Int := match (l.drop i).findIdx? p with | some j => ((i + j : Nat) : Int) | none => -1
theorem idxV_end {α : Type} (p : α → Bool) (l : List α) : idxV p l l.length = -1 := by simp [idxV]
theorem idxV_hit {α : Type} {p : α → Bool} {l : List α} {i : Nat} (hi : i < l.length) (h : p l[i] = true) : idxV p l i = i := by
 unfold idxV
 rw [drop_cons l i hi, List.findIdx?_cons, if_pos h]
 simp
theorem idxV_miss {α : Type} {p : α → Bool} {l : List α} {i : Nat} (hi : i < l.length) (h : p l[i] = false) : idxV p l i = idxV p l (i + 1) := by
 unfold idxV
 rw [drop_cons l i hi, List.findIdx?_cons, h]
 cases (l.drop (i + 1)).findIdx? p with
 | none => rfl
 | some j =>
  simp
  omega
theorem idxV_ge {α : Type} (p : α → Bool) (l : List α) : decide (idxV p l 0 ≥ 0) = l.any p := by
 unfold idxV
 rw [List.drop_zero, ← List.findIdx?_isSome]
 cases l.findIdx? p with
 | none => rfl
 | some j => simp
end Go.Proofs.Ytgbpbhplehmedaa.Base
