-- made by wip/tools/trimwords.py over the kit's print, for this claim
import Derived.Shelf.Spec.SlicesInsert
import Derived.Shelf.Spec.SlicesInsertGrow
import Derived.Ground.Names2Prog
import Derived.Test.YthaicmebdgeamaaTSorts
namespace Go.Proofs.Ythaicmebdgeamaa.Inserts
open Go Go.RowKit Go.Sort Go.Shelf Go.Proofs Go.Proofs.YthaicmebdgeamaaW.PrintWords
set_option linter.unusedVariables false
set_option linter.unusedSimpArgs false
theorem row_of {w : World} {base g cap : Nat} {T : Nat} {ok : Nat → Prop} {cur : Array Value} {xs : List ByteArray} (hb : w.heap[g]? = some (.cells cur T (0, 0))) (hbase : base ≤ g) (h1 : xs.length ≤ cap) (h2 : cap ≤ maxLen) (h3 : cur.size = cap * 1) (h4 : cur.toList.take (xs.length * 1) = xs.map Value.string) (hok : ok g) : Kd.R Kd.string T w base ok (.slice (some ⟨g, 0, none⟩) xs.length cap) xs :=
  Kd.R_of_own ⟨by simp [encs], .inr ⟨g, cap, cur, rfl, hbase, hb, h1, h2, h3, by simpa [encs] using h4⟩⟩ (fun k hk => by simp [Value.ownBlock] at hk; rw [← hk]; exact hok)
theorem insert_length (l : List ByteArray) (i : Nat) (x : ByteArray) (hi : i ≤ l.length) : (l.take i ++ x :: l.drop i).length = l.length + 1 := by
  rw [List.length_append, List.length_cons, List.length_take, List.length_drop]; omega
theorem new_blk (w : World) (o : Obj) : (w.alloc o).heap[w.heap.size]? = some o := by
  show (w.heap.push o)[w.heap.size]? = _
  simp
theorem zero_one (n : Nat) : (Builtin.zeroCells (Value.string ⟨#[]⟩).cells n).size = n := by
  simp [Builtin.zeroCells, Value.cells]
theorem list_ins {α : Type} (A D E m : List α) (x : α) (i n : Nat) (hA : A = m.take (i + 1)) (hD : D = m.drop i) (hm : m.length = n) (hi : i < n) : ((A ++ D ++ E).take i ++ [x] ++ (A ++ D ++ E).drop (i + 1)).take (n + 1) = m.take i ++ x :: m.drop i := by
  have hAl : A.length = i + 1 := by rw [hA, List.length_take]; omega
  have q1 : (A ++ D ++ E).take i = m.take i := by
    rw [List.append_assoc, List.take_append_of_le_length (by omega), hA, List.take_take, Nat.min_eq_left (by omega)]
  have q2 : (A ++ D ++ E).drop (i + 1) = D ++ E := by
    rw [List.append_assoc, List.drop_left' hAl]
  rw [q1, q2, ← List.append_assoc, List.take_left' (by rw [List.length_append, List.length_append, List.length_take, hD, List.length_drop, List.length_singleton]; omega), hD, List.append_assoc]
  rfl
theorem insert_row {P : Program} {ρ : Ren} (L : Lays2.n22 P ρ) (T : Nat) (hT : ρ.t 9 = T) (P0 : Nat → Prop) (u : Value) (l : List ByteArray) (i : Nat) (x : ByteArray) (vb vc : Nat) (w0 w : World) (hB : Below w0.heap.size w0 w) (ho : Kd.R Kd.string T w w0.heap.size P0 u l) (hi : i ≤ l.length) (hl : l.length ≤ 1000) (cv : Array Value) (hv : w.heap[vb]? = some (.cells cv T (0, 0))) (hv0 : cv[0]? = some (.string x)) (hvn : some vb ≠ u.ownBlock) :
    Calls P (ρ.f 22) #[u, .int .i64 i, .slice (some ⟨vb, 0, none⟩) 1 vc] w fun e w' => ∃ v0_ : Value, e = .returned v0_ ∧ Kd.R Kd.string T w' w0.heap.size (fun k_ => (P0 k_ ∨ w.heap.size ≤ k_)) v0_ (l.take i ++ x :: l.drop i) ∧ Below w0.heap.size w0 w' ∧ Kept w w' (fun k_ => P0 k_) := by
  have hP := ho.1
  have hown := Kd.own_of_R ho
  have hlen := insert_length l i x hi
  have hvc : ∀ j v, ([Value.string x] : List Value)[j]? = some v → w.cell? ⟨vb, 0 + j, none⟩ = some v := by
    intro j v hj
    rw [Nat.zero_add, blk_cell hv j]
    match j, hj with
    | 0, hj => rw [hv0]; simpa using hj
    | j + 1, hj => simp at hj
  have h1v : ∀ v ∈ ([Value.string x] : List Value), v.oneCell' = true := by
    intro v hv
    rw [List.mem_singleton.1 hv]
    rfl
  have hge := grownCap_ge w (l.length + 1)
  have hle := grownCap_le_maxLen w (l.length + 1)
  rcases hown.2 with ⟨rfl, hn⟩ | ⟨g, cap, cur, rfl, hbase, hb, h1, h2, h3, h4⟩
  · have hl0 : l = [] := List.eq_nil_of_length_eq_zero hn
    subst hl0
    obtain rfl : i = 0 := by simpa using hi
    refine (Any2.slices_Insert_string_end_grow L none 0 0 vb 0 1 vc [] [.string x] w (by decide) (by decide) (by decide) (by decide) rfl rfl (fun _ => rfl) (fun a ha => by cases ha) hvc h1v).mono ?_
    rintro e w' ⟨rfl, rfl⟩
    subst hT
    refine ⟨_, rfl, ?_, ?_, ?_⟩
    · refine row_of (T := ρ.t 9) (g := w.heap.size) (xs := [x]) (cap := grownCap w (0 + 1) 0 (ρ.t 9)) (cur := ((([] : List Value) ++ [Value.string x]).toArray ++ Builtin.zeroCells (Value.string ⟨#[]⟩).cells (grownCap w (0 + 1) 0 (ρ.t 9) - (0 + 1)))) ?_ hB.size (hge 0 _) (hle 0 _ (by decide)) ?_ ?_ (.inr (Nat.le_refl _))
      · exact new_blk w.drew _
      · have := hge 0 (ρ.t 9); simp [zero_one]; simp at this; omega
      · simp
    · exact below_alloc (below_drew1 hB) _
    · exact Kept.alloc (Kept.drew (Kept.refl _ _)) _
  · have hcs : ∀ j v, (l.map Value.string)[j]? = some v → w.cell? ⟨g, 0 + j, none⟩ = some v := by
      intro j v hj
      have hj' : j < l.length := by
        have := (List.getElem?_eq_some_iff.1 hj).1
        simpa using this
      rw [Nat.zero_add, blk_cell hb j, ← Array.getElem?_toList, ← List.getElem?_take_of_lt (show j < l.length * 1 by omega), h4]
      simpa [encs] using hj
    have hne : vb ≠ g := fun e => hvn (by simp [Value.ownBlock, e])
    have hcapz : cur.size = cap := by omega
    have hcl : (l.map Value.string).length = l.length := by simp
    have hfst : cur.toList.take l.length = l.map Value.string := by rw [show l.length = l.length * 1 from by omega, h4]; rfl
    have hsome : ∀ j, j < cap → (w.cell? ⟨g, j, none⟩).isSome = true := fun j hj => by rw [blk_cell hb j, Array.getElem?_eq_getElem (by omega)]; rfl
    have hfz : ∀ j, w.frozen? ⟨g, j, none⟩ = false := fun j => blk_frozen hb j
    have h63 : cap ≤ 9223372036854775807 := h2
    have hkeep : ∀ W : World, w.grownBy W (some g) → Below w0.heap.size w0 W ∧ Kept w W (fun k_ => P0 k_) := fun W hg => ⟨hB.grown hg hB.size (fun j hj => by cases hj; exact hbase), Kept.of_grown hg (Kept.refl _ _) (fun k hk => by cases hk; exact .inl (hP g rfl))⟩
    by_cases hroom : l.length + 1 ≤ cap
    · by_cases hin : i < l.length
      · refine (Any2.slices_Insert_string_shift L g 0 l.length cap i vb 0 1 vc (l.map Value.string) [.string x] w hin (by decide) hroom h63 hne hcl rfl hcs (fun j hj => by rw [Nat.zero_add]; exact hsome j (by omega)) (fun j _ => hfz _) hvc (fun v hv => by obtain ⟨y, _, rfl⟩ := List.mem_map.1 hv; rfl) h1v T T cv.size cap (by simp [World.shape?, hv]) (by simp [World.shape?, hb, hcapz]) (by omega) (blk_frozen hv 0) (blk_frozen hv _)).mono ?_
        rintro e w' ⟨rfl, rfl⟩
        obtain ⟨cur1, b1, s1, l1⟩ := setCells_row ((l.map Value.string).drop i) (0 + (i + 1)) w.drew cur hb (by simp; omega)
        obtain ⟨cur2, b2, s2, l2⟩ := setCells_row [Value.string x] (0 + i) _ cur1 b1 (by simp; omega)
        have hg : w.grownBy ((w.drew.setCells g (0 + (i + 1)) ((l.map Value.string).drop i)).setCells g (0 + i) [.string x]) (some g) := by
          have a1 := setCells_same g ((l.map Value.string).drop i) (0 + (i + 1)) w.drew
          have a2 := setCells_same g [Value.string x] (0 + i) (w.drew.setCells g (0 + (i + 1)) ((l.map Value.string).drop i))
          refine ⟨by rw [a2.1, a1.1]; rfl, by rw [a2.2.1, a1.2.1]; rfl, by rw [a2.2.2.1, a1.2.2.1]; rfl, by rw [a2.2.2.2, a1.2.2.2]; exact Nat.le_refl _, fun k hk hne2 => ?_⟩
          have hkg : k ≠ g := fun e => hne2 (by rw [e])
          rw [setCells_far _ _ k hkg, setCells_far _ _ k hkg]
          rfl
        refine ⟨_, rfl, ?_, hkeep _ hg⟩
        rw [← hlen]
        refine row_of b2 hbase (by omega) h2 (by omega) ?_ (.inl (hP g rfl))
        rw [l2, l1, hlen, Nat.mul_one, Nat.zero_add, Nat.zero_add]
        have e1 : cur.toList.take (i + 1) = (l.map Value.string).take (i + 1) := by
          rw [← hfst, List.take_take, Nat.min_eq_left (by omega)]
        have e2 : (cur.toList.take (i + 1)).length = i + 1 := by rw [e1]; simp; omega
        have hd : ((l.map Value.string).drop i).length = l.length - i := by simp
        have q := list_ins (cur.toList.take (i + 1)) ((l.map Value.string).drop i) (cur.toList.drop (i + 1 + ((l.map Value.string).drop i).length)) (l.map Value.string) (Value.string x) i l.length e1 rfl hcl hin
        rw [List.map_append, List.map_cons, List.map_take, List.map_drop]
        exact q
      · obtain rfl : i = l.length := by omega
        refine (Any2.slices_Insert_string_end_room L g 0 l.length cap vb 0 1 vc [.string x] w (by decide) hroom h63 rfl (fun j hj => by rw [Nat.zero_add]; exact hsome _ (by omega)) (fun j _ => hfz _) hvc h1v).mono ?_
        rintro e w' ⟨rfl, rfl⟩
        obtain ⟨cur1, b1, s1, l1⟩ := setCells_row [Value.string x] (0 + l.length) w cur hb (by simp; omega)
        have hg : w.grownBy (w.setCells g (0 + l.length) [.string x]) (some g) := by
          have a1 := setCells_same g [Value.string x] (0 + l.length) w
          exact ⟨a1.1, a1.2.1, a1.2.2.1, by rw [a1.2.2.2]; exact Nat.le_refl _, fun k hk hne2 => setCells_far _ _ k (fun e => hne2 (by rw [e]))⟩
        refine ⟨_, rfl, ?_, hkeep _ hg⟩
        rw [← hlen]
        refine row_of b1 hbase (by omega) h2 (by omega) ?_ (.inl (hP g rfl))
        rw [l1, hlen, Nat.mul_one, Nat.zero_add, hfst, List.take_left' (by simp), List.map_append, List.map_cons, List.take_length, List.drop_length]
        rfl
    · have hlt : g < w.heap.size := (Array.getElem?_eq_some_iff.1 hb).1
      by_cases hin : i < l.length
      · refine (Any2.slices_Insert_string_grow L g 0 l.length cap i vb 0 1 vc (l.map Value.string) [.string x] w hin (by decide) h1 (by omega) (by omega) hcl rfl hcs hvc (fun v hv => by obtain ⟨y, _, rfl⟩ := List.mem_map.1 hv; rfl) h1v).mono ?_
        rintro e w' ⟨rfl, rfl⟩
        subst hT
        have hcp := hge cap (ρ.t 9)
        have hlm : ((l.map Value.string).take i).length = i := by rw [List.length_take, hcl]; omega
        have hz : ∀ n : Nat, (Builtin.zeroCells (Value.string ⟨#[]⟩).cells n).size = n := zero_one
        generalize hc0 : (((l.map Value.string).take i).toArray ++ Builtin.zeroCells (Value.string ⟨#[]⟩).cells (l.length + 1 - i) ++ Builtin.zeroCells (Value.string ⟨#[]⟩).cells (grownCap w (l.length + 1) cap (ρ.t 9) - (l.length + 1))) = cur0
        have s0 : cur0.size = grownCap w (l.length + 1) cap (ρ.t 9) := by
          rw [← hc0, Array.size_append, Array.size_append, hz, hz, List.size_toArray, hlm]
          omega
        have t0 : cur0.toList.take i = (l.map Value.string).take i := by
          rw [← hc0, Array.toList_append, Array.toList_append, List.append_assoc, List.take_left' hlm]
        have b0 : ((w.alloc (.cells cur0 (ρ.t 9) (0, 0))).drew).heap[w.heap.size]? = some (.cells cur0 (ρ.t 9) (0, 0)) := new_blk w _
        obtain ⟨cur1, b1, s1, l1⟩ := setCells_row [Value.string x] i _ cur0 b0 (by simp; omega)
        obtain ⟨cur2, b2, s2, l2⟩ := setCells_row ((l.map Value.string).drop i) (i + 1) _ cur1 (show ((((w.alloc (.cells cur0 (ρ.t 9) (0, 0))).drew).setCells w.heap.size i [Value.string x]).drew).heap[w.heap.size]? = some (.cells cur1 (ρ.t 9) (0, 0)) from b1) (by simp; omega)
        have a1 := setCells_same w.heap.size [Value.string x] i ((w.alloc (.cells cur0 (ρ.t 9) (0, 0))).drew)
        have a2 := setCells_same w.heap.size ((l.map Value.string).drop i) (i + 1) ((((w.alloc (.cells cur0 (ρ.t 9) (0, 0))).drew).setCells w.heap.size i [Value.string x]).drew)
        have hba : Below w.heap.size w ((w.alloc (.cells cur0 (ρ.t 9) (0, 0))).drew) := below_drew1 (below_alloc (Below.refl _ _) _)
        have hbW : Below w.heap.size w (((((w.alloc (.cells cur0 (ρ.t 9) (0, 0))).drew).setCells w.heap.size i [Value.string x]).drew).setCells w.heap.size (i + 1) ((l.map Value.string).drop i)) := by
          refine ⟨by rw [a2.1]; exact a1.1.trans hba.os, by rw [a2.2.1]; exact a1.2.1.trans hba.tape, by rw [a2.2.2.1]; exact a1.2.2.1.trans hba.output, by rw [a2.2.2.2]; exact Nat.le_trans hba.size (Nat.le_of_eq a1.2.2.2.symm), fun k hk => ?_⟩
          rw [setCells_far _ _ k (by omega)]
          exact (setCells_far _ _ k (by omega)).trans (hba.block k hk)
        refine ⟨_, rfl, ?_, below_step hB hbW, Kept.of_below hbW _⟩
        rw [← hlen]
        refine row_of (T := ρ.t 9) (g := w.heap.size) b2 hB.size (by rw [hlen]; exact hcp) (by rw [hlen]; exact hle _ _ (by unfold maxLen; omega)) (by rw [s2, s1, s0, hlen, Nat.mul_one]) ?_ (.inr (Nat.le_refl _))
        have ht1 : (cur0.toList.take i ++ [Value.string x]).length = i + 1 := by rw [List.length_append, t0, hlm]; rfl
        rw [l2, l1, List.length_singleton, List.take_left' ht1, List.take_left' (by rw [List.length_append, ht1, List.length_drop, hcl, hlen]; omega), t0, List.map_append, List.map_cons, List.map_take, List.map_drop, List.append_assoc]
        rfl
      · obtain rfl : i = l.length := by omega
        refine (Any2.slices_Insert_string_end_grow L (some ⟨g, 0, none⟩) l.length cap vb 0 1 vc (l.map Value.string) [.string x] w (by decide) h1 (by omega) (by omega) hcl rfl (fun h => by cases h) (fun a ha j v hj => by cases ha; rw [Addr.add_lit]; exact hcs j v hj) hvc h1v).mono ?_
        rintro e w' ⟨rfl, rfl⟩
        subst hT
        refine ⟨_, rfl, ?_, below_alloc (below_drew1 hB) _, Kept.alloc (Kept.drew (Kept.refl _ _)) _⟩
        rw [← hlen]
        refine row_of (T := ρ.t 9) (g := w.heap.size) (new_blk w.drew _) hB.size (by rw [hlen]; exact hge _ _) (by rw [hlen]; exact hle _ _ (by unfold maxLen; omega)) ?_ ?_ (.inr (Nat.le_refl _))
        · have := hge cap (ρ.t 9)
          rw [hlen]
          simp only [Array.size_append, zero_one, List.size_toArray, List.length_append, hcl, List.length_singleton]
          omega
        · rw [hlen, Nat.mul_one, Array.toList_append, List.take_left' (by simp), List.map_append, List.map_cons, List.take_length, List.drop_length]
          rfl
end Go.Proofs.Ythaicmebdgeamaa.Inserts
