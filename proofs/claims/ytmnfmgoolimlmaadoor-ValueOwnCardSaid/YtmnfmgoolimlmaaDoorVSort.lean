/- The kit's insertion sort and slices.ContainsFunc at api.Value, at numbers. -/
import Derived.Test.YtmnfmgoolimlmaaDoorVLong
import Derived.Test.YtmnfmgoolimlmaaDoorShelf2
namespace Go.Proofs.YtmnfmgoolimlmaaDoor
set_option linter.unusedSimpArgs false
set_option linter.unusedVariables false
open Go.RowKit Go.Sort
theorem aggV : ∀ w, (isAgg 37).run Tryd.prog w = .ok true w := fun w => by kernel_rfl
theorem sizeV : ∀ w, (Go.sizeOf 37).run Tryd.prog w = .ok 7 w := fun w => by kernel_rfl
theorem longRow_one (n : Int) : ∀ v ∈ longRow n, v.oneCell' = true := by
  intro v hv
  simp only [longRow, vRow, List.mem_cons, List.not_mem_nil, or_false] at hv
  rcases hv with rfl | rfl | rfl | rfl | rfl | rfl | rfl <;> rfl
theorem below_sort {α : Type} [Inhabited α] (enc : α → List Value) (k : Nat) (w : World) (blk off m : Nat) (dk : Array α) (os : Array Obj) {B : Nat} (hB : B ≤ blk) (hs : B ≤ w.heap.size) : Below B w (sortWorldK enc k w blk off m dk os) := by
  unfold sortWorldK grow putRowK putRow mapBlock Sort.ahead
  refine ⟨rfl, rfl, rfl, by simp, fun j hj => ?_⟩
  simp only [Array.getElem?_append, Array.size_modify]
  rw [if_pos (by omega), Array.getElem?_modify, if_neg (by omega)]
theorem insLong_w (d : Array Int) (blk cap a b : Nat) (w : World) (hH : HoldsK longRow 7 w blk 0 d) (hblk : blk < w.heap.size) (hab : a ≤ b) (hb : b ≤ d.size) (hsz : d.size < 4611686018427387904) :
    Calls Tryd.prog 75 #[.slice (some ⟨blk, 0, none⟩) d.size cap, .int .i64 a, .int .i64 b, .func (.func 34) #[] #[]] w fun e w' =>
      e = .returned (.tuple #[]) ∧ ∃ n os, w' = sortWorldK longRow 7 w blk 0 n (Sort.insertionSort (ltOf cmpI) d a b) os :=
  AnyQ.insertionSortCmpFunc Tryd.laysIns 7 aggV sizeV longRow (fun _ => rfl) longRow_one cmpI 34 #[] blk 0 cap a b d w (fun _ _ => by kernel_rfl)
    (fun m os dk _ x y => by
      refine (cmpLong_w x y _).mono ?_
      rintro e w' ⟨rfl, rfl⟩
      exact ⟨rfl, 0, _, by rw [alloc_eq_grow, alloc_eq_grow, grow_grow]; rfl⟩) hH hblk hab hb hsz
theorem sorted3 : Sort.insertionSort (ltOf cmpI) #[2, 1, 2] 0 3 = #[1, 2, 2] := by
  simp [Sort.insertionSort, Sort.insOuter, Sort.insInner, ltOf, cmpI, Sort.swp]
end Go.Proofs.YtmnfmgoolimlmaaDoor
