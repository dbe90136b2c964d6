/- value.Check, value.checked, value.Set's first closure, out of what value.size hands back. -/
import Derived.Test.YtmnfmgoolimlmaaDoorVal0
namespace Go.Proofs.YtmnfmgoolimlmaaDoor
set_option linter.unusedSimpArgs false
set_option linter.unusedVariables false
open Go.RowKit
/-- What Check says of a depth, a count, and whether it is right. -/
def chk (d c : Int) (ok : Bool) : Int := if ok = false then 7 else if 8 < d then 4 else if 128 < c then 2 else 0
set_option maxRecDepth 100000 in
set_option maxHeartbeats 1000000 in
theorem check_of (r : List Value) (h7 : r.length = 7) (d c : Int) (ok : Bool) (w : World)
    (hz : ∀ W, Below w.heap.size w W → Calls Tryd.prog 47 #[.agg r.toArray] W fun e w' => e = .returned (.tuple #[.int .i64 d, .int .i64 c, .bool ok]) ∧ Below W.heap.size W w') :
    Calls Tryd.prog 20 #[.agg r.toArray] w fun e w' => e = .returned (.int .i64 (chk d c ok)) ∧ Below w.heap.size w w' := by
  have k1 := Blk.new w r 37
  have b1 := below_alloc w (.cells r.toArray 37)
  obtain ⟨R, HR⟩ := named (chk d c ok)
  rw [← HR.out]
  obtain ⟨W1, HW1⟩ := named (w.alloc (.cells r.toArray 37))
  go_enter Tryd.func20, Tryd.ntmps20
  go_upto_region 1 with (go_quiet (fail))
  rw [← HW1.out] at k1 b1 ⊢
  clear HW1
  go_wp2_with (refine wpList_load_row rfl 37 _ rfl _ rfl 37 r.toArray (0, 0) _ k1 Tryd.underlying37 rfl (kV7 h7) ?_)
  refine (hz _ b1).mono ?_
  rintro e w2 ⟨rfl, hb2⟩
  have b2 := bt b1 hb2
  clear hz k1 b1 hb2
  cases ok with
  | false =>
    go_wp2_with (go_quiet (fail))
    go_ret
    exact ⟨by rw [HR.out]; rfl, b2⟩
  | true =>
    by_cases h1 : (8 : Int) < d
    · go_wp2_with (go_quiet (fail))
      go_ret
      exact ⟨by rw [HR.out]; unfold chk; rw [if_neg (by decide), if_pos h1]; rfl, b2⟩
    · by_cases h2 : (128 : Int) < c
      · go_wp2_with (go_quiet (fail))
        go_ret
        exact ⟨by rw [HR.out]; unfold chk; rw [if_neg (by decide), if_neg (by omega), if_pos h2]; rfl, b2⟩
      · go_wp2_with (go_quiet (fail))
        go_ret
        exact ⟨by rw [HR.out]; unfold chk; rw [if_neg (by decide), if_neg (by omega), if_neg (by omega)]; rfl, b2⟩
set_option maxRecDepth 100000 in
theorem setBad_of (r : List Value) (h7 : r.length = 7) (why : Int) (w : World)
    (hz : ∀ W, Below w.heap.size w W → Calls Tryd.prog 20 #[.agg r.toArray] W fun e w' => e = .returned (.int .i64 why) ∧ Below W.heap.size W w') :
    Calls Tryd.prog 38 #[.agg r.toArray] w fun e w' => e = .returned (.bool (why == 7)) ∧ Below w.heap.size w w' := by
  have k1 := Blk.new w r 37
  have b1 := below_alloc w (.cells r.toArray 37)
  obtain ⟨R, HR⟩ := named (why == 7)
  rw [← HR.out]
  obtain ⟨W1, HW1⟩ := named (w.alloc (.cells r.toArray 37))
  go_enter Tryd.func38, Tryd.ntmps38
  go_upto_region 1 with (go_quiet (fail))
  rw [← HW1.out] at k1 b1 ⊢
  clear HW1
  go_wp2_with (refine wpList_load_row rfl 37 _ rfl _ rfl 37 r.toArray (0, 0) _ k1 Tryd.underlying37 rfl (kV7 h7) ?_)
  refine (hz _ b1).mono ?_
  rintro e w2 ⟨rfl, hb2⟩
  have hq := HR.out.symm
  go_wp2_with (go_quiet (fail))
  go_ret
  exact ⟨rfl, bt b1 hb2⟩
set_option maxRecDepth 100000 in
set_option maxHeartbeats 1000000 in
theorem checked_of (r : List Value) (h7 : r.length = 7) (h1 : ∀ v ∈ r, v.oneCell' = true) (why : Int) (w : World)
    (hz : ∀ W, Below w.heap.size w W → Calls Tryd.prog 20 #[.agg r.toArray] W fun e w' => e = .returned (.int .i64 why) ∧ Below W.heap.size W w') :
    Calls Tryd.prog 43 #[.agg r.toArray] w fun e w' => e = .returned (.tuple #[.agg (if why = 0 then r else zeroRow).toArray, .int .i64 why]) ∧ Below w.heap.size w w' := by
  obtain ⟨F, HF⟩ := named (if why = 0 then r else zeroRow)
  rw [← HF.out]
  obtain ⟨k1, k2, b1⟩ := box2 w r zeroRow 37
  obtain ⟨W1, HW1⟩ := named ((w.alloc (.cells r.toArray 37)).alloc (.cells zeroRow.toArray 37))
  have HW0 := HW1.out
  unfold zeroRow vRow at HW0
  have HW2 : W1 = (w.alloc (.cells r.toArray 37)).alloc (.cells #[.int .u8 0, .bool false, .int .i64 0, .string ⟨#[]⟩, .string ⟨#[]⟩, .slice none 0 0, .slice none 0 0] 37) := HW0
  clear HW0
  have HW3 := hide HW2
  clear HW2
  go_enter Tryd.func43, Tryd.ntmps43
  go_upto_region 1 with (go_quiet (fail))
  rw [← HW3.out]
  rw [← HW1.out] at k1 k2 b1
  clear HW1 HW3
  go_wp2_with (refine wpList_load_row rfl 37 _ rfl _ rfl 37 r.toArray (0, 0) _ k1 Tryd.underlying37 rfl (kV7 h7) ?_)
  refine (hz _ b1).mono ?_
  rintro e w2 ⟨rfl, hb2⟩
  have b2 := bt b1 hb2
  replace k1 := k1.below hb2
  replace k2 := k2.below hb2
  clear hz b1 hb2
  by_cases h : why = 0
  · subst h
    have h0 : ((0 : Int) == 0) = true := rfl
    have hF : F = r := by have := HF.out; rw [if_pos rfl] at this; exact this
    clear HF
    obtain rfl := hF.symm
    go_upto_region 4 with (go_quiet (fail))
    go_wp2_with (first
      | refine wpList_load_row rfl 37 _ rfl _ rfl 37 r.toArray (0, 0) _ k1 Tryd.underlying37 rfl (kV7 h7) ?_
      | refine wpList_store_row rfl 37 _ _ rfl _ r.toArray rfl rfl 37 zeroRow.toArray k2 (kV7 h7) (by simp [h7, zeroRow, vRow]) (all_one h1) ?_)
    refine bodyPost_ret (vret2 rfl _ rfl (k2.vrow r) h7 rfl) rfl ⟨rfl, below_vrow b2 (by omega) _⟩
  · have h0 : (why == 0) = false := by rw [beq_eq_false_iff_ne]; exact h
    obtain rfl : F = zeroRow := by rw [HF.out, if_neg h]
    clear HF
    go_upto_region 3 with (go_quiet (fail))
    go_wp2_with (first
      | refine wpList_store_row rfl 37 _ _ rfl _ zeroRow.toArray rfl rfl 37 zeroRow.toArray k2 (kV7 rfl) rfl (by kernel_rfl) ?_)
    refine bodyPost_ret (vret2 rfl _ rfl (k2.vrow zeroRow) rfl rfl) rfl ⟨rfl, below_vrow b2 (by omega) _⟩
end Go.Proofs.YtmnfmgoolimlmaaDoor
