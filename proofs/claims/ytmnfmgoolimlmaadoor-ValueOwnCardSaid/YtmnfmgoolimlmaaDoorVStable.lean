/- slices.SortStableFunc at few numbers. -/
import Derived.Test.YtmnfmgoolimlmaaDoorVOwn2
namespace Go.Proofs.YtmnfmgoolimlmaaDoor
set_option linter.unusedSimpArgs false
set_option linter.unusedVariables false
open Go.RowKit Go.Sort
set_option maxRecDepth 100000 in
set_option maxHeartbeats 1000000 in
theorem stableLong_w (d : Array Int) (blk cap : Nat) (w : World) (hd : d.size < 20) (hH : HoldsK longRow 7 w blk 0 d) (hblk : blk < w.heap.size) :
    Calls Tryd.prog 64 #[.slice (some ⟨blk, 0, none⟩) d.size cap, .int .i64 (d.size : Int), .func (.func 34) #[] #[]] w fun e w' =>
      e = .returned (.tuple #[]) ∧ ∃ n os, w' = sortWorldK longRow 7 w blk 0 n (Sort.insertionSort (ltOf cmpI) d 0 d.size) os := by
  have hins := insLong_w d blk cap 0 d.size w hH hblk (Nat.zero_le _) (Nat.le_refl _) (by omega)
  have h1 : ¬ (20 : Int) ≤ (d.size : Int) := by omega
  have h2 : ¬ (20 : Int) < (d.size : Int) := by omega
  obtain ⟨Q, hQ⟩ := named (fun w' : World => ∃ n os, w' = sortWorldK longRow 7 w blk 0 n (Sort.insertionSort (ltOf cmpI) d 0 d.size) os)
  have hins2 : Calls Tryd.prog 75 #[.slice (some ⟨blk, 0, none⟩) d.size cap, .int .i64 0, .int .i64 (d.size : Int), .func (.func 34) #[] #[]] w fun e w' => e = .returned (.tuple #[]) ∧ Q w' := by
    refine hins.mono ?_
    rintro e w' ⟨rfl, h⟩
    exact ⟨rfl, by rw [hQ.out]; exact h⟩
  have hgoal : ∀ w', Q w' → ∃ n os, w' = sortWorldK longRow 7 w blk 0 n (Sort.insertionSort (ltOf cmpI) d 0 d.size) os := fun w' h => by rw [hQ.out] at h; exact h
  obtain ⟨n, hn⟩ := named d.size
  rw [← hn.out] at hins2 h1 h2 hgoal ⊢
  have HG := hide hgoal
  clear hins hgoal hQ hH hn hd
  go_enter Tryd.func64, Tryd.ntmps64
  go_wp2_with (first | (at_builtin; fail))
  go_loopw [7, 8] (fun a b wr => a = .int .i64 0 ∧ b = .int .i64 20 ∧ wr = w) (fun _ _ _ => 0)
  case atStart => exact ⟨rfl, rfl, rfl⟩
  case round =>
    obtain ⟨rfl, rfl, rfl⟩ := hrel
    go_upto_region 6 with (go_quiet (fail))
    go_wp2_with fail
    refine hins2.mono ?_
    rintro e w1 ⟨rfl, hq⟩
    go_wp2_with (first | (at_builtin; fail))
    go_loopw [6] (fun a wr => a = .int .i64 20 ∧ wr = w1) (fun _ _ => 0)
    case atStart => exact ⟨rfl, rfl⟩
    case round =>
      obtain ⟨rfl, rfl⟩ := hrel
      go_wp2_with (first | (at_builtin; fail))
      go_end0
      exact ⟨rfl, HG.out _ hq⟩
set_option maxRecDepth 100000 in
theorem sortLong_w (d : Array Int) (blk cap : Nat) (w : World) (hd : d.size < 20) (hH : HoldsK longRow 7 w blk 0 d) (hblk : blk < w.heap.size) :
    Calls Tryd.prog 40 #[.slice (some ⟨blk, 0, none⟩) d.size cap, .func (.func 34) #[] #[]] w fun e w' =>
      e = .returned (.tuple #[]) ∧ ∃ n os, w' = sortWorldK longRow 7 w blk 0 n (Sort.insertionSort (ltOf cmpI) d 0 d.size) os := by
  have h1 := stableLong_w d blk cap w hd hH hblk
  obtain ⟨Q, hQ⟩ := named (fun w' : World => ∃ n os, w' = sortWorldK longRow 7 w blk 0 n (Sort.insertionSort (ltOf cmpI) d 0 d.size) os)
  have h2 : Calls Tryd.prog 64 #[.slice (some ⟨blk, 0, none⟩) d.size cap, .int .i64 (d.size : Int), .func (.func 34) #[] #[]] w fun e w' => e = .returned (.tuple #[]) ∧ Q w' := by
    refine h1.mono ?_
    rintro e w' ⟨rfl, h⟩
    exact ⟨rfl, by rw [hQ.out]; exact h⟩
  have hgoal : ∀ w', Q w' → ∃ n os, w' = sortWorldK longRow 7 w blk 0 n (Sort.insertionSort (ltOf cmpI) d 0 d.size) os := fun w' h => by rw [hQ.out] at h; exact h
  have HG := hide hgoal
  clear h1 hgoal hQ hH hd
  go_enter Tryd.func40, Tryd.ntmps40
  go_wp2_with fail
  refine h2.mono ?_
  rintro e w1 ⟨rfl, hq⟩
  go_wp2_with fail
  go_end0
  exact ⟨rfl, HG.out _ hq⟩
end Go.Proofs.YtmnfmgoolimlmaaDoor
