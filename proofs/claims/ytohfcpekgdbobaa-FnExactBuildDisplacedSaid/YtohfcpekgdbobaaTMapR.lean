-- made by wip/tools/trimwords.py over the kit's print, for this claim
import Derived.Maps.OwnOps
import Derived.Test.YtohfcpekgdbobaaProg
import Derived.Test.YtohfcpekgdbobaaTSeen
import Derived.Test.YtohfcpekgdbobaaTUp
import Derived.Test.YtohfcpekgdbobaaTWApart
set_option linter.unusedVariables false
namespace Go.Proofs.Ytohfcpekgdbobaa.MapR
open Go Go.RowKit Go.Maps Go.Proofs.Ytohfcpekgdbobaa.Seen Go.Proofs.YtohfcpekgdbobaaW.PrintWords
variable {w w1 : World} {b base : Nat} {S : List Int} {v : Value}
def MapC (w : World) (b : Nat) (S : List Int) : Prop := ∃ n, n ≤ S.length ∧ w.ownsMap Try.prog 3 (plainElem Try.prog 4) b n (seenD .i64 S)
def MapR (w : World) (base : Nat) (ok : Nat → Prop) (v : Value) (S : List Int) : Prop := ∃ b, v = .map (some b) ∧ base ≤ b ∧ MapC w b S
abbrev inW (x : Int) : Prop := -9223372036854775808 ≤ x ∧ x ≤ 9223372036854775807
theorem MC_block (h : MapC w b S) : ∃ es cl, w.heap[b]? = some (.map es cl) := by
 obtain ⟨n, hn, es, cl, hb, r⟩ := h
 exact ⟨es, cl, hb⟩
theorem MC_lt (h : MapC w b S) : b < w.heap.size := by
 obtain ⟨n, hn, h⟩ := h
 exact h.lt
theorem MC_move (h : MapC w b S) (e : w1.heap[b]? = w.heap[b]?) : MapC w1 b S := by
 obtain ⟨n, hn, es, cl, hb, r⟩ := h
 exact ⟨n, hn, es, cl, e.trans hb, r⟩
theorem MC_below (h : MapC w b S) (hb : Below w.heap.size w w1) : MapC w1 b S := MC_move h (hb.block b (MC_lt h))
theorem MC_set (h : MapC w b S) (p : Addr) (u : Value) : MapC (w.setCell p u) b S := by
 obtain ⟨n, hn, es, cl, hb, r⟩ := h
 refine ⟨n, hn, es, cl, ?_, r⟩
 unfold World.setCell
 simp only [Array.getElem?_modify]
 by_cases c : p.block = b
 ·
  simp [c, hb]
 ·
  simp [c, hb]
variable {ok ok' : Nat → Prop}
theorem MR_any (h : MapR w base ok v S) : MapR w base ok' v S := h
theorem MR_mono (h : MapR w base ok v S) (_ : ∀ k, ok k → ok' k) : MapR w base ok' v S := h
theorem MR_below (h : MapR w base ok v S) (hb : Below w.heap.size w w1) : MapR w1 base ok v S := by
 obtain ⟨b, e, hl, h⟩ := h
 exact ⟨b, e, hl, MC_below h hb⟩
theorem MR_alloc (h : MapR w base ok v S) (o : Obj) : MapR (w.alloc o) base ok v S := MR_below h (below_alloc (Below.refl _ _) o)
theorem MR_drew (h : MapR w base ok v S) : MapR w.drew base ok v S := MR_below h (below_drew (Below.refl _ _))
theorem MR_drewN (h : MapR w base ok v S) (m : Nat) : MapR (w.drewN m) base ok v S := MR_below h (pw_below_drewN (Below.refl _ _) m)
theorem MR_lower {base' : Nat} (h : MapR w base ok v S) (hb : base' ≤ base) : MapR w base' ok v S := by
 obtain ⟨b, e, hl, h⟩ := h
 exact ⟨b, e, Nat.le_trans hb hl, h⟩
theorem MR_set (h : MapR w base ok v S) (p : Addr) (u : Value) : MapR (w.setCell p u) base ok v S := by
 obtain ⟨b, e, hl, h⟩ := h
 exact ⟨b, e, hl, MC_set h p u⟩
theorem MR_far (h : MapR w base ok v S) {p : Addr} (_ : ∀ k, ok k → k ≠ p.block) (u : Value) : MapR (w.setCell p u) base ok v S := MR_set h p u
theorem MR_types (h : MapR w base ok v S) {g t : Nat} {cells : Array Value} (_ : w.heap[g]? = some (.cells cells t (0, 0))) {pr : Prop} (_ : pr) : MapR w base (fun k => ok k ∧ k ≠ g) v S := h
theorem MR_none (h : MapR w base ok v S) : v.ownBlock = none := by
 obtain ⟨b, rfl, _⟩ := h
 rfl
theorem MR_lt (h : MapR w base ok v S) : ∀ k, v.ownBlock = some k → k < w.heap.size := fun k hk => by rw [MR_none h] at hk; cases hk
theorem MR_base (h : MapR w base ok v S) {n : Nat} : ∀ k, v.ownBlock = some k → n ≤ k := fun k hk => by rw [MR_none h] at hk; cases hk
theorem MR_elder' {u : Value} (h : MapR w base ok v S) (_ : ∀ k, u.ownBlock = some k → w.heap.size ≤ k) (hb : Below w.heap.size w w1) : MapR w1 base (fun k => ok k ∧ some k ≠ u.ownBlock) v S := MR_below h hb
theorem MR_new' {u : Value} {W : World} (h : MapR w1 W.heap.size ok v S) (_ : ∀ k, u.ownBlock = some k → k < W.heap.size) : MapR w1 W.heap.size (fun k => ok k ∧ some k ≠ u.ownBlock) v S := h
theorem MR_C (h : MapR w base ok (.map (some b)) S) : MapC w b S := by
 obtain ⟨_, e, _, h⟩ := h
 cases e
 exact h
theorem uM {W : World} (h : Aside0 (MapR w base ok v S)) [u : Up w W] : MapR W base ok v S := MR_below h.out u.b
theorem uMC {W : World} (h : Aside0 (MapR w base ok (.map (some b)) S)) [u : Up w W] : MapC W b S := MR_C (uM h)
theorem MC_ne (h : MapC w b S) {k q : Nat} {cells : Array Value} (hk : w.heap[k]? = some (.cells cells q (0, 0))) : b ≠ k := by
 intro e
 subst e
 obtain ⟨es, cl, hb⟩ := MC_block h
 rw [hb] at hk
 cases hk
theorem MR_after {α : Type} {d : Kd α} {e base' : Nat} {okv : Nat → Prop} {ok ok0 : Nat → Prop} {u v v1 : Value} {xs : List α} (h : MapR w base ok0 u S) (hv : d.R e w base' okv v xs) (hg : w.grownBy w1 v.ownBlock) (_ : v1.ownBlock = v.ownBlock ∨ ∃ b, v1.ownBlock = some b ∧ w.heap.size ≤ b) : MapR w1 base (fun k => ok k ∧ some k ≠ v1.ownBlock) u S := by
 obtain ⟨b, e, hl, h⟩ := h
 refine ⟨b, e, hl, MC_move h (hg.block b (MC_lt h) (fun e => ?_))⟩
 obtain ⟨_, _, _, q, _, cells, hcell⟩ := (Kd.R_bound hv).1 b e.symm
 exact MC_ne h hcell rfl
theorem MR_keptB {α : Type} {d : Kd α} {e base' : Nat} {okv : Nat → Prop} {u v : Value} {xs : List α} {K : Nat → Prop} (h : MapR w base ok u S) (hv : d.R e w base' okv v xs) (hk : Kept w w1 K) (hK : ∀ k, K k → some k = v.ownBlock) : MapR w1 base ok' u S := by
 obtain ⟨b, e, hl, h⟩ := h
 refine ⟨b, e, hl, MC_move h (hk.2 b (MC_lt h) (fun e => ?_))⟩
 obtain ⟨_, _, _, q, _, cells, hcell⟩ := (Kd.R_bound hv).1 b (hK b e).symm
 exact MC_ne h hcell rfl
theorem R_mapped {α : Type} {d : Kd α} {e : Nat} {ok : Nat → Prop} {u : Value} {xs : List α} (h : d.R e w base ok u xs) (hc : MapC w b S) (hg : w.grownBy w1 (some b)) : d.R e w1 base ok u xs :=
 Kd.R_mono (Kd.R_move (Kd.R_bound h) (fun k hk => by
  obtain ⟨_, _, hlt, q, _, cells, hcell⟩ := hk
  exact hg.block k hlt (fun e => MC_ne hc hcell (Option.some.inj e).symm))) (fun _ hk => hk.1)
theorem S_mapped {α : Type} {d : Kd α} {e : Nat} {ok : Nat → Prop} {u : Value} {xs : List α} (h : Kd.S d e w base ok u xs) (hc : MapC w b S) (hg : w.grownBy w1 (some b)) : Kd.S d e w1 base ok u xs :=
 Kd.S_mono (Kd.S_move (Kd.S_bound h) (fun k hk => by
  obtain ⟨_, _, hlt, q, _, cells, hcell⟩ := hk
  exact hg.block k hlt (fun e => MC_ne hc hcell (Option.some.inj e).symm))) (fun _ hk => hk.1)
theorem R_mappedA {α : Type} {d : Kd α} {e : Nat} {ok : Nat → Prop} {u v : Value} {xs : List α} (h : d.R e w base (fun k => ok k ∧ some k ≠ v.ownBlock) u xs) (hc : MapC w b S) (hg : w.grownBy w1 (some b)) : d.R e w1 base (fun k => ok k ∧ some k ≠ v.ownBlock) u xs := R_mapped h hc hg
theorem S_mappedA {α : Type} {d : Kd α} {e : Nat} {ok : Nat → Prop} {u v : Value} {xs : List α} (h : Kd.S d e w base (fun k => ok k ∧ some k ≠ v.ownBlock) u xs) (hc : MapC w b S) (hg : w.grownBy w1 (some b)) : Kd.S d e w1 base (fun k => ok k ∧ some k ≠ v.ownBlock) u xs := S_mapped h hc hg
theorem blk_mapped {k q : Nat} {cells : Array Value} (h : w.heap[k]? = some (.cells cells q (0, 0))) (hc : MapC w b S) (hg : w.grownBy w1 (some b)) : w1.heap[k]? = some (.cells cells q (0, 0)) :=
 (hg.block k (blk_lt h) (fun e => MC_ne hc h (Option.some.inj e).symm)).trans h
theorem bool_zero (w : World) : (zeroValue 4).run Try.prog w = .ok (.bool false) w := by kernel_rfl
theorem keyed3 : Keyed Try.prog 3 := int_keyed Try.underlying3
theorem key_of {x : Int} (hx : inW x) : keyOf Try.prog 3 (.int .i64 x) = some (.int .i64 x) := keyOf_int_mk Try.underlying3 (WalkArith.wf_i64 (by unfold inW at hx; omega))
def mapHas (S : List Int) (x : Int) : Option Bool := if inW x then some (decide (x ∈ S)) else none
theorem mapHas_some {x : Int} {r : Bool} (h : mapHas S x = some r) : inW x ∧ decide (x ∈ S) = r := by
 unfold mapHas at h
 by_cases c : inW x
 ·
  rw [if_pos c] at h
  exact ⟨c, Option.some.inj h⟩
 ·
  rw [if_neg c] at h
  cases h
theorem make_step {ops : Array Oper} {rest : List Oper} {o : Oper} {a : Act} {Q : Exit → Act → World → Prop}
  (hg : o.guard = none) (hop : o.op = Op.makeMap 42 none)
  (hK : ∀ b w1, MapR w1 w.heap.size (fun _ => True) (.map (some b)) [] → Below w.heap.size w w1 → wpList Try.prog ops Q rest (a.put o.dst (.map (some b))) w1) : wpList Try.prog ops Q (o :: rest) a w := by
 refine wpList_plain hg fun K' hK' => ?_
 unfold Oper.wp
 simp [execOp, hop, run_makeMap, Result.andThen]
 exact hK' _ _ (hK _ _ ⟨_, rfl, Nat.le_refl _, 0, Nat.zero_le _, World.ownsMap_made _ _ _ _⟩ (below_alloc (Below.refl _ _) _))
theorem look_step {ops : Array Oper} {rest : List Oper} {o : Oper} {a : Act} {Q : Exit → Act → World → Prop}
  (hg : o.guard = none) (m x : Operand) (hop : o.op = Op.lookup 42 m x false) (hm : a.eval m = .map (some b)) (t : Int) (hx : a.eval x = .int .i64 t)
  (r : Bool) (h : MapC w b S) (ht : mapHas S t = some r) (hK : wpList Try.prog ops Q rest (a.put o.dst (.bool r)) w) : wpList Try.prog ops Q (o :: rest) a w := by
 refine wpList_plain hg fun K' hK' => ?_
 obtain ⟨n, hn, h⟩ := h
 obtain ⟨hin, rfl⟩ := mapHas_some ht
 have hrun := lookup_seen h keyed3 Try.underlying42 Try.underlying4 (bool_zero w) (key_of hin)
 unfold Oper.wp
 simp [execOp, hop, hm, hx, hrun, Result.andThen]
 exact hK' _ _ hK
theorem mark_step {ops : Array Oper} {rest : List Oper} {o : Oper} {a : Act} {Q : Exit → Act → World → Prop}
  (hg : o.guard = none) (m x : Operand) (hop : o.op = Op.mapUpdate 42 m x (.const (.bool true))) (hm : a.eval m = v) (t : Int) (hx : a.eval x = .int .i64 t)
  {w0 : World} (hB : Below w0.heap.size w0 w) (h : MapR w w0.heap.size ok v S) (ht : inW t) (hl : S.length < 17592186044416) (hK : ∀ b w1, MapC w b S → MapR w1 w0.heap.size ok v (S ++ [t]) → Below w0.heap.size w0 w1 → w.grownBy w1 (some b) → wpList Try.prog ops Q rest (a.put o.dst undef) w1) : wpList Try.prog ops Q (o :: rest) a w := by
 obtain ⟨b, rfl, hb, n, hn, h⟩ := h
 refine wpList_mapUpdate_own w hg m x _ _ hop 3 4 keyed3 Try.underlying42 (plainElem (H := Unit) Try.prog 4) b n _ hm h (by unfold maxLen; omega) _ _ _ hx rfl (key_of ht) (.lit (.bool true)) [] (plainElem_bool Try.underlying4 true) ?_
 intro w1 hown hgr
 exact hK b w1 ⟨n, hn, h⟩ ⟨b, rfl, hb, n + 1, by simp; omega, by rw [seenD_snoc]; exact hown⟩ (hB.grown hgr hB.size (fun j hj => by cases hj; exact hb)) hgr
end Go.Proofs.Ytohfcpekgdbobaa.MapR
