/- lictorlaw06.lives. -/
import Derived.Test.YtmnfmgoolimlmaaDoorVSet3
import Derived.Test.YtmnfmgoolimlmaaDoorNamesW
import Derived.Test.YtmnfmgoolimlmaaDoorSums3
namespace Go.Proofs.YtmnfmgoolimlmaaDoor
set_option linter.unusedSimpArgs false
set_option linter.unusedVariables false
open Go.RowKit Sums
set_option maxRecDepth 100000 in
set_option maxHeartbeats 2000000 in
theorem lives6_w (w : World) (htab : Tb w) :
    Calls Tryd.prog 13 #[] w fun e w' => e = .returned (.bool true) ∧ Below w.heap.size w w' := by
  have hlong : ∀ (n : Int) (W : World), Calls Tryd.prog 33 #[.int .i64 n] W fun e w' => e = .returned (.agg #[.int .u8 1, .bool false, .int .i64 n, .string ⟨#[]⟩, .string ⟨#[]⟩, .slice none 0 0, .slice none 0 0]) ∧ Below W.heap.size W w' := fun n W => long_w n W
  go_enter Tryd.func13, Tryd.ntmps13
  go_wp2_with fail
  refine (hlong 2 _).mono ?_
  rintro e w1 ⟨rfl, hb1⟩
  go_wp2_with fail
  refine (hlong 1 _).mono ?_
  rintro e w2 ⟨rfl, hb2⟩
  go_wp2_with fail
  refine (hlong 2 _).mono ?_
  rintro e w3 ⟨rfl, hb3⟩
  have hbw := bt (bt hb1 hb2) hb3
  clear hb1 hb2 hb3
  go_wp2_with fail
  have k4 := Blk.new w3 (longCells [2, 1, 2]) 37
  have b4 := bt hbw (below_alloc w3 (.cells (longCells [2, 1, 2]).toArray 37))
  have hset := set3_w w3.heap.size 3 (w3.alloc (.cells (longCells [2, 1, 2]).toArray 37)) k4.lt (fun j v hj => by rw [k4.cell]; exact hj)
  have e4 : (longCells [2, 1, 2]).toArray = #[.int .u8 1, .bool false, .int .i64 2, .string ⟨#[]⟩, .string ⟨#[]⟩, .slice none 0 0, .slice none 0 0, .int .u8 1, .bool false, .int .i64 1, .string ⟨#[]⟩, .string ⟨#[]⟩, .slice none 0 0, .slice none 0 0, .int .u8 1, .bool false, .int .i64 2, .string ⟨#[]⟩, .string ⟨#[]⟩, .slice none 0 0, .slice none 0 0] := by kernel_rfl
  rw [e4] at k4 b4 hset
  obtain ⟨W4, HW4⟩ := named (w3.alloc (.cells #[.int .u8 1, .bool false, .int .i64 2, .string ⟨#[]⟩, .string ⟨#[]⟩, .slice none 0 0, .slice none 0 0, .int .u8 1, .bool false, .int .i64 1, .string ⟨#[]⟩, .string ⟨#[]⟩, .slice none 0 0, .slice none 0 0, .int .u8 1, .bool false, .int .i64 2, .string ⟨#[]⟩, .string ⟨#[]⟩, .slice none 0 0, .slice none 0 0] 37))
  rw [← HW4.out] at b4 hset ⊢
  clear HW4 k4 e4 hbw
  refine hset.mono ?_
  rintro e w5 ⟨g, cap, vs, rfl, hk, hvs, hb5⟩
  have b5 := bt b4 hb5
  clear hset b4 hb5
  have e5 : (setRow g cap).toArray = #[.int .u8 4, .bool false, .int .i64 0, .string ⟨#[]⟩, .string ⟨#[]⟩, .slice none 0 0, .slice (some ⟨g, 0, none⟩) 2 cap] := rfl
  rw [e5]
  have hsum : ∀ W, Calls Tryd.prog 14 #[.int .u8 43, .int .i64 9223372036854775807, .int .i64 1] W fun e w' => e = .returned (.tuple #[.int .i64 0, .int .i64 11]) ∧ W = w' := fun W => by
    have := vsum_plus 9223372036854775807 1 W ⟨by decide, by decide⟩ ⟨by decide, by decide⟩
    rw [show sumN (some (9223372036854775807 + 1)) = 0 from by decide, show sumE (some (9223372036854775807 + 1)) = 11 from by decide] at this
    exact this
  go_wp2_with fail
  refine (hsum _).mono ?_
  rintro e w6 ⟨rfl, rfl⟩
  have k6 := Blk.new w5 (setRow g cap) 37
  have b6 := bt b5 (below_alloc w5 (.cells (setRow g cap).toArray 37))
  have hk6 := hk.below (below_alloc w5 (.cells (setRow g cap).toArray 37))
  rw [e5] at k6 b6 hk6
  obtain ⟨W6, HW6⟩ := named (w5.alloc (.cells #[.int .u8 4, .bool false, .int .i64 0, .string ⟨#[]⟩, .string ⟨#[]⟩, .slice none 0 0, .slice (some ⟨g, 0, none⟩) 2 cap] 37))
  rw [← HW6.out] at k6 b6 hk6 ⊢
  have x6 : W6.cell? ⟨w5.heap.size, 6, none⟩ = some (.slice (some ⟨g, 0, none⟩) 2 cap) := k6.cell 6
  have y2 : W6.cell? ⟨g, 2, none⟩ = some (.int .i64 1) := (hk6.cell 2).trans (hvs 2 _ rfl)
  clear HW6 k6 hk6 hk hvs hsum e5 b5
  have h1 : ∀ (W : World), Below w.heap.size w W → Calls Tryd.prog 7 #[.string ⟨#[65, 58, 58, 66]⟩] W fun e w' => e = .returned (.bool true) ∧ Below W.heap.size W w' := fun W h => by
    have := type_w ⟨#[65, 58, 58, 66]⟩ W (by decide) (htab.below h)
    rw [show (⟨#[65, 58, 58, 66]⟩ : ByteArray).data.toList = [65, 58, 58, 66] from rfl, typeL_ab] at this
    exact this
  have h2 : ∀ (W : World), Below w.heap.size w W → Calls Tryd.prog 8 #[.string ⟨#[105, 102]⟩] W fun e w' => e = .returned (.bool false) ∧ Below W.heap.size W w' := fun W h => by
    have := name_w ⟨#[105, 102]⟩ W (by decide) (space_below htab.space h)
    rw [show (⟨#[105, 102]⟩ : ByteArray).data.toList = [105, 102] from rfl, nameL_if] at this
    exact this
  have h3 : ∀ (W : World), Calls Tryd.prog 20 #[.agg #[.int .u8 0, .bool false, .int .i64 1, .string ⟨#[]⟩, .string ⟨#[]⟩, .slice none 0 0, .slice none 0 0]] W fun e w' => e = .returned (.int .i64 7) ∧ Below W.heap.size W w' := fun W => by
    have := checkNum_w 0 1 W (by decide) (fun _ => rfl)
    rw [if_neg (by decide)] at this
    exact this
  have h4 : ∀ (W : World), Calls Tryd.prog 34 #[.agg #[.int .u8 1, .bool false, .int .i64 1, .string ⟨#[]⟩, .string ⟨#[]⟩, .slice none 0 0, .slice none 0 0], .agg #[.int .u8 1, .bool false, .int .i64 2, .string ⟨#[]⟩, .string ⟨#[]⟩, .slice none 0 0, .slice none 0 0]] W fun e w' => e = .returned (.int .i64 (-1)) ∧ Below W.heap.size W w' := fun W => by
    refine (cmpLong_w 1 2 W).mono ?_
    rintro e w' ⟨rfl, rfl⟩
    exact ⟨by rfl, (box2 W _ _ _).2.2⟩
  go_wp2_with fail
  refine (h1 _ b6).mono ?_
  rintro e w7 ⟨rfl, hb7⟩
  replace b6 := bt b6 hb7
  clear h1 hb7 x6 y2
  go_wp2_with fail
  refine (h2 _ b6).mono ?_
  rintro e w8 ⟨rfl, hb8⟩
  replace b6 := bt b6 hb8
  clear h2 hb8
  go_wp2_with fail
  refine (h3 _).mono ?_
  rintro e w9 ⟨rfl, hb9⟩
  replace b6 := bt b6 hb9
  clear h3 hb9
  go_wp2_with fail
  refine (hlong 1 _).mono ?_
  rintro e w10 ⟨rfl, hb10⟩
  replace b6 := bt b6 hb10
  clear hb10
  go_wp2_with fail
  refine (hlong 2 _).mono ?_
  rintro e w11 ⟨rfl, hb11⟩
  replace b6 := bt b6 hb11
  clear hb11
  go_wp2_with fail
  refine (h4 _).mono ?_
  rintro e w12 ⟨rfl, hb12⟩
  replace b6 := bt b6 hb12
  clear hb12
  go_wp2_with fail
  go_ret
  exact ⟨rfl, b6⟩
end Go.Proofs.YtmnfmgoolimlmaaDoor
