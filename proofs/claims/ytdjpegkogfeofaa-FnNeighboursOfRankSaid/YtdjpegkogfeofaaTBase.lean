-- made by wip/tools/trimwords.py over the kit's print, for this claim
import Derived.Test.YtdjpegkogfeofaaTWWords
import Derived.Test.YtdjpegkogfeofaaTWMore
namespace Go.Proofs.Ytdjpegkogfeofaa.Base
open Go.RowKit Go.Proofs.YtdjpegkogfeofaaW.PrintWords
set_option linter.unusedSimpArgs false
set_option linter.unusedVariables false
theorem w64 {n : Int} (h0 : -9223372036854775808 ≤ n) (h1 : n ≤ 9223372036854775807) : wrap64 n = n := by
  unfold wrap64
  omega
theorem Ev.succ {α : Type} {g : Nat → Option α} {r : α} (h : Ev (fun k => g (k + 1)) r) : Ev g r := Ev.step (fun _ => rfl) h
theorem Ev.some_ {α : Type} {a r : α} (h : a = r) : Ev (fun _ => some a) r := h ▸ Ev.now a
theorem Ev.walk {σ β : Type} {L : Nat → σ → Option β} (st : Nat → σ) (r : β) (n : Nat) (hend : Ev (fun k => L k (st n)) r)
    (hstep : ∀ j, j < n → Ev (fun k => L k (st (j + 1))) r → Ev (fun k => L k (st j)) r) : Ev (fun k => L k (st 0)) r := by
  suffices h : ∀ d j, j + d = n → Ev (fun k => L k (st j)) r from h n 0 (by omega)
  intro d
  induction d with
  | zero =>
    intro j hj
    obtain rfl : j = n := by omega
    exact hend
  | succ d ih => exact fun j hj => hstep j (by omega) (ih (j + 1) (by omega))
theorem Ev.up {β : Type} {L : Nat → Nat → Option β} (r : Nat → β) (n : Nat) (hend : Ev (fun k => L k n) (r n))
    (hstep : ∀ j, j < n → Ev (fun k => L k (j + 1)) (r (j + 1)) → Ev (fun k => L k j) (r j)) : ∀ j, j ≤ n → Ev (fun k => L k j) (r j) := by
  suffices h : ∀ d j, j + d = n → Ev (fun k => L k j) (r j) from fun j hj => h (n - j) j (by omega)
  intro d
  induction d with
  | zero =>
    intro j hj
    obtain rfl : j = n := by omega
    exact hend
  | succ d ih => exact fun j hj => hstep j (by omega) (ih (j + 1) (by omega))
theorem rd_nat (l : List Int) (i : Nat) (h : i < l.length) : rd l (i : Int) = l[i] := by
  unfold rd
  rw [Int.toNat_natCast, List.getD_eq_getElem?_getD, List.getElem?_eq_getElem h]
  rfl
theorem drop_cons {α : Type} (l : List α) (i : Nat) (h : i < l.length) : l.drop i = l[i] :: l.drop (i + 1) := List.drop_eq_getElem_cons h
theorem tmod_pos {x : Int} (h : 0 ≤ x) (m : Int) : Int.tmod x m = x % m := Int.tmod_eq_emod_of_nonneg h
theorem tdiv_pos {x : Int} (h : 0 ≤ x) (m : Int) : Int.tdiv x m = x / m := Int.tdiv_eq_ediv_of_nonneg h
def inB (a b x : Int) : Bool := decide (a ≤ x ∧ x ≤ b)
def lastOk (n : Int) (ws : List Int) : Bool := decide (n % 16 = 0) || (shr .i64 (rd ws ((ws.length : Int) - 1)) (n % 16) == 0)
def goodBits (n : Int) (ws : List Int) : Bool := inB 0 4096 n && (decide ((ws.length : Int) = (n + 15) / 16) && (ws.all (inB 0 65535) && lastOk n ws))
theorem goodBits_size {n : Int} {ws : List Int} (h : goodBits n ws = true) : 0 ≤ n ∧ n ≤ 4096 ∧ (ws.length : Int) = (n + 15) / 16 ∧ ∀ x ∈ ws, 0 ≤ x ∧ x ≤ 65535 := by
  unfold goodBits inB at h
  simp only [Bool.and_eq_true, decide_eq_true_eq, List.all_eq_true] at h
  exact ⟨h.1.1, h.1.2, h.2.1, h.2.2.1⟩
end Go.Proofs.Ytdjpegkogfeofaa.Base
