-- made by wip/tools/trimwords.py over the kit's print, for this claim
import Derived.Test.YtllaofiopnhdgaaTWWords
import Derived.Test.YtllaofiopnhdgaaTWMore
namespace Go.Proofs.Ytllaofiopnhdgaa.Base
open Go.RowKit Go.Proofs.YtllaofiopnhdgaaW.PrintWords
set_option linter.unusedSimpArgs false
set_option linter.unusedVariables false
theorem w64 {n : Int} (h0 : -9223372036854775808 ≤ n) (h1 : n ≤ 9223372036854775807) : wrap64 n = n := by
 unfold wrap64
 omega
theorem Ev.succ {α : Type} {g : Nat → Option α} {r : α} (h : Ev (fun k => g (k + 1)) r) : Ev g r := Ev.step (fun _ => rfl) h
theorem Ev.some_ {α : Type} {a r : α} (h : a = r) : Ev (fun _ => some a) r := h ▸ Ev.now a
theorem Ev.walk {σ β : Type} {L : Nat → σ → Option β} (st : Nat → σ) (r : β) (n : Nat) (hend : Ev (fun k => L k (st n)) r)
  (hstep : ∀ j, j < n → Ev (fun k => L k (st (j + 1))) r → Ev (fun k => L k (st j)) r) : Ev (fun k => L k (st 0)) r := by
 suffices h : ∀ d j, j + d = n → Ev (fun k => L k (st j)) r from h n 0 (by omega)
 intro d
 induction d with
 | zero =>
  intro j hj
  obtain rfl : j = n := by omega
  exact hend
 | succ d ih => exact fun j hj => hstep j (by omega) (ih (j + 1) (by omega))
theorem Ev.up {β : Type} {L : Nat → Nat → Option β} (r : Nat → β) (n : Nat) (hend : Ev (fun k => L k n) (r n))
  (hstep : ∀ j, j < n → Ev (fun k => L k (j + 1)) (r (j + 1)) → Ev (fun k => L k j) (r j)) : ∀ j, j ≤ n → Ev (fun k => L k j) (r j) := by
 suffices h : ∀ d j, j + d = n → Ev (fun k => L k j) (r j) from fun j hj => h (n - j) j (by omega)
 intro d
 induction d with
 | zero =>
  intro j hj
  obtain rfl : j = n := by omega
  exact hend
 | succ d ih => exact fun j hj => hstep j (by omega) (ih (j + 1) (by omega))
theorem rd_nat (l : List Int) (i : Nat) (h : i < l.length) : rd l (i : Int) = l[i] := by
 unfold rd
 rw [Int.toNat_natCast, List.getD_eq_getElem?_getD, List.getElem?_eq_getElem h]
 rfl
theorem drop_cons {α : Type} (l : List α) (i : Nat) (h : i < l.length) : l.drop i = l[i] :: l.drop (i + 1) := List.drop_eq_getElem_cons h
def hstep (h b : Int) : Int := (263 * h + b) % 65521
theorem tmod_pos {x : Int} (h : 0 ≤ x) (m : Int) : Int.tmod x m = x % m := Int.tmod_eq_emod_of_nonneg h
theorem tdiv_pos {x : Int} (h : 0 ≤ x) (m : Int) : Int.tdiv x m = x / m := Int.tdiv_eq_ediv_of_nonneg h
theorem pow_le_of {n m : Nat} (h : n ≤ m) : (2 : Int) ^ n ≤ 2 ^ m := by
 have h1 : (2 : Nat) ^ n ≤ 2 ^ m := Nat.pow_le_pow_right (by decide) h
 have h2 : ((2 ^ n : Nat) : Int) ≤ ((2 ^ m : Nat) : Int) := Int.ofNat_le.2 h1
 simpa using h2
theorem pow_pos_ (n : Nat) : (0 : Int) < 2 ^ n := Int.pow_pos (by decide)
theorem shl_one {a : Int} (h0 : 0 ≤ a) (h1 : a ≤ 62) : shl .i64 1 a = 2 ^ a.toNat := by
 have h2 := pow_le_of (n := a.toNat) (m := 62) (by omega)
 have h3 := pow_pos_ a.toNat
 unfold shl
 rw [show min a.toNat (IntKind.bits .i64) = a.toNat from by simp [IntKind.bits]; omega, Int.one_mul, IntKind.wrap_i64]
 generalize (2 : Int) ^ a.toNat = t at *
 simp at h2
 omega
def inB (a b x : Int) : Bool := decide (a ≤ x ∧ x ≤ b)
def lastOk (n : Int) (ws : List Int) : Bool := decide (n % 16 = 0) || (shr .i64 (rd ws ((ws.length : Int) - 1)) (n % 16) == 0)
def goodBits (n : Int) (ws : List Int) : Bool := inB 0 4096 n && (decide ((ws.length : Int) = (n + 15) / 16) && (ws.all (inB 0 65535) && lastOk n ws))
theorem goodBits_size {n : Int} {ws : List Int} (h : goodBits n ws = true) : 0 ≤ n ∧ n ≤ 4096 ∧ (ws.length : Int) = (n + 15) / 16 ∧ ∀ x ∈ ws, 0 ≤ x ∧ x ≤ 65535 := by
 unfold goodBits inB at h
 simp only [Bool.and_eq_true, decide_eq_true_eq, List.all_eq_true] at h
 exact ⟨h.1.1, h.1.2, h.2.1, h.2.2.1⟩
theorem bits_nat64 (a b : Nat) (ha : a < 9223372036854775808) (hb : b < 9223372036854775808) :
  bits .and .i64 (a : Int) (b : Int) = ((a &&& b : Nat) : Int) ∧ bits .or .i64 (a : Int) (b : Int) = ((a ||| b : Nat) : Int) ∧ bits .xor .i64 (a : Int) (b : Int) = ((a ^^^ b : Nat) : Int) ∧ bits .andNot .i64 (a : Int) (b : Int) = ((a &&& (18446744073709551615 - b) : Nat) : Int) := by
 have e64 : (2 : Nat) ^ 64 = 18446744073709551616 := by decide
 have e63 : (2 : Nat) ^ 63 = 9223372036854775808 := by decide
 have wrap : ∀ n : Nat, n < 2 ^ 63 → IntKind.i64.wrap (n : Int) = (n : Int) := by
  intro n hn
  rw [IntKind.wrap_i64]
  omega
 have ma : a % 2 ^ 64 = a := Nat.mod_eq_of_lt (by omega)
 have mb : b % 2 ^ 64 = b := Nat.mod_eq_of_lt (by omega)
 refine ⟨?_, ?_, ?_, ?_⟩
 ·
  show IntKind.i64.wrap (((BitVec.ofInt 64 (a : Int)) &&& (BitVec.ofInt 64 (b : Int))).toNat : Int) = _
  simp only [BitVec.ofInt_natCast, BitVec.toNat_and, BitVec.toNat_ofNat, ma, mb]
  exact wrap _ (Nat.and_lt_two_pow _ (by omega))
 ·
  show IntKind.i64.wrap (((BitVec.ofInt 64 (a : Int)) ||| (BitVec.ofInt 64 (b : Int))).toNat : Int) = _
  simp only [BitVec.ofInt_natCast, BitVec.toNat_or, BitVec.toNat_ofNat, ma, mb]
  exact wrap _ (Nat.or_lt_two_pow (by omega) (by omega))
 ·
  show IntKind.i64.wrap (((BitVec.ofInt 64 (a : Int)) ^^^ (BitVec.ofInt 64 (b : Int))).toNat : Int) = _
  simp only [BitVec.ofInt_natCast, BitVec.toNat_xor, BitVec.toNat_ofNat, ma, mb]
  exact wrap _ (Nat.xor_lt_two_pow (by omega) (by omega))
 ·
  show IntKind.i64.wrap (((BitVec.ofInt 64 (a : Int)) &&& ~~~(BitVec.ofInt 64 (b : Int))).toNat : Int) = _
  simp only [BitVec.ofInt_natCast, BitVec.toNat_and, BitVec.toNat_not, BitVec.toNat_ofNat, ma, mb]
  rw [show 2 ^ 64 - 1 - b = 18446744073709551615 - b from by omega]
  exact wrap _ (Nat.lt_of_le_of_lt Nat.and_le_left (by omega))
def bitI (x : Int) (j : Nat) : Bool := x.toNat.testBit j
theorem and_one_bit {x : Int} {j : Int} (h0 : 0 ≤ x) (h1 : x ≤ 65535) (j0 : 0 ≤ j) (j1 : j ≤ 62) : (bits .and .i64 (shr .i64 x j) 1 == 1) = bitI x j.toNat := by
 obtain ⟨a, rfl⟩ := Int.eq_ofNat_of_zero_le h0
 obtain ⟨t, rfl⟩ := Int.eq_ofNat_of_zero_le j0
 have e : shr .i64 (a : Int) (t : Int) = ((a / 2 ^ t : Nat) : Int) := by
  unfold shr
  rw [show min ((t : Int).toNat) (IntKind.bits .i64) = t from by simp [IntKind.bits]; omega]
  simp
 have hlt : a / 2 ^ t < 9223372036854775808 := Nat.lt_of_le_of_lt (Nat.div_le_self _ _) (by omega)
 have e2 := (bits_nat64 (a / 2 ^ t) 1 hlt (by decide)).1
 rw [e]
 rw [show ((1 : Nat) : Int) = 1 from rfl] at e2
 rw [e2, Nat.and_one_is_mod]
 unfold bitI
 rw [Int.toNat_natCast, Int.toNat_natCast, Nat.testBit_eq_decide_div_mod_eq]
 have := Nat.mod_lt (a / 2 ^ t) (show 0 < 2 by decide)
 by_cases c : a / 2 ^ t % 2 = 1
 ·
  simp [c]
 ·
  have c0 : a / 2 ^ t % 2 = 0 := by omega
  simp [c0]
def bitV (ws : List Int) (i : Nat) : Bool := bitI (rd ws ((i / 16 : Nat) : Int)) (i % 16)
theorem rd_range {ws : List Int} (h : ∀ x ∈ ws, 0 ≤ x ∧ x ≤ 65535) (i : Int) : 0 ≤ rd ws i ∧ rd ws i ≤ 65535 := by
 unfold rd
 rw [List.getD_eq_getElem?_getD]
 cases e : ws[i.toNat]? with
 | none => simp
 | some x => simpa using h x (List.mem_of_getElem? e)
theorem bitI_high {x : Int} (h0 : 0 ≤ x) (h1 : x ≤ 65535) {j : Nat} (hj : 16 ≤ j) : bitI x j = false := by
 unfold bitI
 exact Nat.testBit_lt_two_pow (Nat.lt_of_lt_of_le (show x.toNat < 2 ^ 16 by omega) (Nat.pow_le_pow_right (by decide) hj))
theorem bitI_zero (j : Nat) : bitI 0 j = false := by simp [bitI]
end Go.Proofs.Ytllaofiopnhdgaa.Base
