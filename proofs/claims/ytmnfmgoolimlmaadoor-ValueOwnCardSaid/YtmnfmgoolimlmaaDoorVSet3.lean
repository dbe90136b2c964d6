/- value.Set of three numbers. -/
import Derived.Test.YtmnfmgoolimlmaaDoorVCompact
import Derived.Test.YtmnfmgoolimlmaaDoorVSize2
import Derived.Test.YtmnfmgoolimlmaaDoorVCheck
namespace Go.Proofs.YtmnfmgoolimlmaaDoor
set_option linter.unusedSimpArgs false
set_option linter.unusedVariables false
open Go.RowKit Go.Sort
theorem blk_sort {α : Type} [Inhabited α] (enc : α → List Value) (k : Nat) {w : World} {g : Nat} {vs : List Value} {t : TypeId} (h : Blk w g vs t) (m : Nat) (dk : Array α) (os : Array Obj) : ∃ vs', Blk (sortWorldK enc k w g 0 m dk os) g vs' t := by
  have hlt := h.lt
  refine ⟨(putCells id 0 (flatK enc k dk) vs.toArray).toList, ?_⟩
  unfold sortWorldK grow putRowK putRow mapBlock Sort.ahead Blk
  simp only [Array.getElem?_append, Array.size_modify]
  rw [if_pos hlt, Array.getElem?_modify, if_pos rfl, h]
  rfl
theorem flat_eq : ∀ x y z : Int, flatK longRow 7 #[x, y, z] = (longCells [x, y, z]).toArray := fun _ _ _ => by kernel_rfl
theorem holds_of_blk {w : World} {g : Nat} {vs : List Value} {t : TypeId} {x y z : Int} (h : Blk w g vs t) (hvs : ∀ (i : Nat) (v : Value), (longCells [x, y, z])[i]? = some v → vs[i]? = some v) : HoldsK longRow 7 w g 0 #[x, y, z] := by
  unfold HoldsK
  rw [flat_eq]
  intro j hj
  rw [Nat.zero_add]
  refine ⟨?_, h.free j⟩
  rw [h.cell, getElem!_pos _ j hj]
  refine hvs j _ ?_
  simp
theorem blk_of_holds {w : World} {g : Nat} {vs : List Value} {t : TypeId} {x y z : Int} (h : Blk w g vs t) (hH : HoldsK longRow 7 w g 0 #[x, y, z]) : ∀ (i : Nat) (v : Value), (longCells [x, y, z])[i]? = some v → vs[i]? = some v := by
  unfold HoldsK at hH
  rw [flat_eq] at hH
  intro i v hi
  have hlt := (List.getElem?_eq_some_iff.1 hi).1
  have h1 := (hH i (by simpa using hlt)).1
  rw [Nat.zero_add, h.cell, getElem!_pos _ i (by simpa using hlt)] at h1
  rw [h1]
  have := (List.getElem?_eq_some_iff.1 hi).2
  simp [this]
theorem setRow_one (g c : Nat) : ∀ v ∈ setRow g c, v.oneCell' = true := by
  intro v hv
  simp only [setRow, vRow, List.mem_cons, List.not_mem_nil, or_false] at hv
  rcases hv with rfl | rfl | rfl | rfl | rfl | rfl | rfl <;> rfl
set_option maxRecDepth 100000 in
set_option maxHeartbeats 1000000 in
theorem set3_w (b c : Nat) (w : World) (hb : b < w.heap.size) (hc : ∀ (j : Nat) (v : Value), (longCells [2, 1, 2])[j]? = some v → w.cell? ⟨b, j, none⟩ = some v) :
    Calls Tryd.prog 16 #[.slice (some ⟨b, 0, none⟩) 3 c] w fun e w' => ∃ (g cap : Nat) (vs : List Value), e = .returned (.tuple #[.agg (setRow g cap).toArray, .int .i64 0]) ∧ Blk w' g vs 37 ∧ (∀ (i : Nat) (v : Value), (longCells [1, 2])[i]? = some v → vs[i]? = some v) ∧ Below w.heap.size w w' := by
  have k1 := Blk.new w zeroRow 37
  have b1 := below_alloc w (.cells zeroRow.toArray 37)
  have hs1 : (w.alloc (.cells zeroRow.toArray 37)).heap.size = w.heap.size + 1 := Array.size_push _
  obtain ⟨W1, HW1⟩ := named (w.alloc (.cells zeroRow.toArray 37))
  have HW0 := HW1.out
  unfold zeroRow vRow at HW0
  have HW2 : W1 = w.alloc (.cells #[.int .u8 0, .bool false, .int .i64 0, .string ⟨#[]⟩, .string ⟨#[]⟩, .slice none 0 0, .slice none 0 0] 37) := HW0
  have HW3 := hide HW2
  clear HW0 HW2
  go_enter Tryd.func16, Tryd.ntmps16
  go_upto_region 1 with (go_quiet (fail))
  rw [← HW3.out]
  rw [← HW1.out] at k1 b1 hs1
  clear HW1 HW3
  have hc1 : ∀ (j : Nat) (v : Value), (longCells [2, 1, 2])[j]? = some v → W1.cell? ⟨b, j, none⟩ = some v := fun j v h => cell_below (hc j v h) b1
  have h1 := hasLong_w [2, 1, 2] b c W1 (by decide) (by omega) hc1
  go_wp2_with fail
  refine h1.mono ?_
  rintro e w2 ⟨rfl, hb2⟩
  replace k1 := k1.below hb2
  have hlt1 : w.heap.size < w2.heap.size := k1.lt
  have hc2 : ∀ (j : Nat) (v : Value), (longCells [2, 1, 2])[j]? = some v → w2.cell? ⟨b, j, none⟩ = some v := fun j v h => cell_below (hc1 j v h) hb2
  replace b1 := bt b1 hb2
  clear h1 hc1 hb2 hc hs1
  have h2 := ownLong_w [2, 1, 2] b c w2 (by decide) hc2
  go_wp2_with fail
  refine h2.mono ?_
  rintro e w3 ⟨g, cap, vs, rfl, hg, hk, hvs, hcap, hb2⟩
  have hH := holds_of_blk hk hvs
  have h3 := sortLong_w #[2, 1, 2] g cap w3 (by decide) hH hk.lt
  rw [show (#[2, 1, 2] : Array Int).size = 3 from rfl, sorted3] at h3
  clear h2 hc2 hvs
  have hle3 := hb2.size
  go_wp2_with fail
  refine h3.mono ?_
  rintro e w4 ⟨rfl, m, os, rfl⟩
  have hb3 := below_sort longRow 7 w3 g 0 m #[1, 2, 2] os (B := w2.heap.size) hg hle3
  have hH4 := holdsK_sortWorldK_c longRow 7 w3 g 0 #[2, 1, 2] #[1, 2, 2] m os hH hk.lt rfl
  obtain ⟨vs4, hk4⟩ := blk_sort longRow 7 hk m #[1, 2, 2] os
  have hvs4 := blk_of_holds hk4 hH4
  have b24 : Below w2.heap.size w2 (sortWorldK longRow 7 w3 g 0 m #[1, 2, 2] os) := hb2.trans hb3
  obtain ⟨W4, HW4⟩ := named (sortWorldK longRow 7 w3 g 0 m #[1, 2, 2] os)
  rw [← HW4.out] at hk4 b24 ⊢
  clear HW4 hH4 hb3 hH h3 hk hb2
  have h5 := compact3_w 1 2 (by omega) g cap vs4 w2 W4 hg hcap hk4 hvs4 b24
  obtain ⟨Q, hQ⟩ := named (fun w' : World => ∃ vs' : List Value, Blk w' g vs' 37 ∧ (∀ (i : Nat) (v : Value), (longCells [1, 2])[i]? = some v → vs'[i]? = some v) ∧ Below w2.heap.size w2 w')
  have h6 : Calls Tryd.prog 41 #[.slice (some ⟨g, 0, none⟩) 3 cap, .func (.func 42) #[] #[]] W4 fun e w' => e = .returned (.slice (some ⟨g, 0, none⟩) 2 cap) ∧ Q w' := by
    refine h5.mono ?_
    rintro e w' ⟨rfl, h⟩
    exact ⟨rfl, by rw [hQ.out]; exact h⟩
  clear h5
  go_wp2_with fail
  refine h6.mono ?_
  rintro e w5 ⟨rfl, hq⟩
  rw [hQ.out] at hq
  obtain ⟨vs5, hk5, hvs5, b5⟩ := hq
  clear h6 hQ hk4 hvs4 b24
  have k5 := k1.below b5
  have bw5 := bt b1 b5
  have h7 := checked_of (setRow g cap) rfl (setRow_one g cap) 0 w5 (fun W hW => by
    have hch := check_of (setRow g cap) rfl 2 3 true W (fun W2 hW2 => sizeSet2_w 1 2 g cap W2 (by omega) (fun i v hi => by
      refine cell_below (cell_below ?_ hW) hW2
      rw [hk5.cell]
      exact hvs5 i v hi))
    exact hch)
  rw [if_pos rfl] at h7
  have h8 : Calls Tryd.prog 43 #[.agg #[.int .u8 4, .bool false, .int .i64 0, .string ⟨#[]⟩, .string ⟨#[]⟩, .slice none 0 0, .slice (some ⟨g, 0, none⟩) 2 cap]] w5 fun e w' => e = .returned (.tuple #[.agg (setRow g cap).toArray, .int .i64 0]) ∧ Below w5.heap.size w5 w' := h7
  clear h7
  go_wp2_with fail
  refine h8.mono ?_
  rintro e w6 ⟨rfl, hb6⟩
  replace hk5 := hk5.below hb6
  replace k5 := k5.below hb6
  have bw6 := bt bw5 hb6
  clear h8
  obtain ⟨r, hr⟩ := named (setRow g cap)
  have h7 : r.length = 7 := by rw [hr.out]; rfl
  have h71 : ∀ v ∈ r, v.oneCell' = true := by rw [hr.out]; exact setRow_one g cap
  rw [← hr.out]
  go_wp2_with (refine wpList_store_row rfl 37 _ _ rfl _ r.toArray rfl rfl 37 zeroRow.toArray k5 (kV7 h7) (by simp [h7, zeroRow, vRow]) (all_one h71) ?_)
  have k7 := k5.vrow r
  have hk7 : Blk (w6.setRow w.heap.size r.toArray) g vs5 37 := (vrow_far w6 w.heap.size g r.toArray (by omega)).trans hk5
  refine bodyPost_ret (vret2 rfl _ rfl k7 h7 rfl) rfl ?_
  exact ⟨g, cap, vs5, by rw [hr.out]; rfl, hk7, hvs5, below_vrow bw6 (Nat.le_refl _) _⟩
end Go.Proofs.YtmnfmgoolimlmaaDoor
