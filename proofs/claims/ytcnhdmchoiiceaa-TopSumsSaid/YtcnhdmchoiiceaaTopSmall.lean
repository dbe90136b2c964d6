/- The walks of begins, summed and good. -/
import Derived.Test.YtcnhdmchoiiceaaCrcA
import Derived.Test.YtcnhdmchoiiceaaTopPlain
import Derived.Test.YtcnhdmchoiiceaaLawFull
import Derived.Test.YtcnhdmchoiiceaaBox
import Derived.Lib.BufferWrite
import Derived.Deep.RegionHeld3
namespace Go.Proofs.Ytcnhdmchoiiceaa
open Go.RowKit
open Crc
def nineL : List UInt8 := [49, 50, 51, 52, 53, 54, 55, 56, 57]
theorem nine_sum : (more 0#32 nineL).toNat = 3421780262 := by decide +kernel
theorem nine_w (w : World) : Calls Try.prog 50 #[.string ⟨#[49, 50, 51, 52, 53, 54, 55, 56, 57]⟩] w fun e w' => e = .returned (.int .u32 3421780262) ∧ w = w' := by
  have := sum_w ⟨#[49, 50, 51, 52, 53, 54, 55, 56, 57]⟩ w (by decide)
  rw [show (⟨#[49, 50, 51, 52, 53, 54, 55, 56, 57]⟩ : ByteArray).data.toList = nineL from rfl, nine_sum] at this
  exact this
theorem new1 : newE 1 = 0 ∧ (newD 1).secs.length = 1 ∧ (newD 1).fuse = -1 := by simp [newD, newE]
set_option maxRecDepth 100000 in
set_option maxHeartbeats 1000000 in
theorem begins_w (w : World) : Calls Try.prog 26 #[] w fun e w' => e = .returned (.bool true) ∧ Below w.heap.size w w' := by
  obtain ⟨q1, q2, q3⟩ := new1
  obtain ⟨D, HD⟩ := named (newD 1)
  rw [← HD.out] at q2 q3
  have Q2 := hide q2
  have Q3 := hide q3
  clear q2 q3
  go_enter Try.func26, Try.ntmps26
  go_wp2_with fail
  refine (new_w 1 _ (by decide)).mono ?_
  rw [← HD.out, q1]
  rintro e w1 ⟨v1, rfl, ⟨P, p, Q, q, rfl, t1, u1, l1, m1, f1, g1⟩, hb1⟩
  have B := Box.new w1 ⟨P, p, Q, q, rfl, t1, u1, l1, m1, f1, g1⟩
  have hw1 := bt hb1 (below_alloc w1 (.cells #[.slice P D.secs.length p, .slice Q D.pend.length q, .bool D.off, .int .i64 D.fuse] 25))
  have y0 := (B.blk.cell 0).trans (show some (Value.slice P D.secs.length p) = some (Value.slice P 1 p) by rw [Q2.out])
  have y3 := (B.blk.cell 3).trans (show some (Value.int .i64 D.fuse) = some (Value.int .i64 (-1)) by rw [Q3.out])
  clear t1 u1
  go_wp2_with fail
  refine (nine_w _).mono ?_
  rintro e w2 ⟨rfl, rfl⟩
  go_wp2
  go_ret
  exact ⟨by simp, hw1⟩
theorem made_60 : madeCells #[Value.int .u8 0] 60 = (cellsOf (List.replicate 60 0)).toArray := by rw [made_rep]; simp [cellsOf]
set_option maxRecDepth 100000 in
set_option maxHeartbeats 1000000 in
theorem summed_no (s : ByteArray) (w : World) (h : 60 < s.size) : Calls Try.prog 27 #[.string s] w fun e w' => e = .returned (.tuple #[.string ⟨#[]⟩, .bool false]) ∧ Below w.heap.size w w' := by
  have hz : (60 : Int) < (s.size : Int) := by omega
  go_enter Try.func27, Try.ntmps27
  go_wp2
  go_ret2
  exact ⟨rfl, Below.refl _ _⟩
set_option maxRecDepth 100000 in
set_option maxHeartbeats 1000000 in
theorem summed_yes (s : ByteArray) (w : World) (h : s.size ≤ 60) : Calls Try.prog 27 #[.string s] w fun e w' => e = .returned (.tuple #[.string (str (bodyL (padL s.data.toList))), .bool true]) ∧ Below w.heap.size w w' := by
  have hz : (s.size : Int) ≤ 60 := by omega
  have hmk := run_make_row' (P := Try.prog) 74 5 (.int .u8 0) 1 Try.underlying74 Try.info5 rfl .i64 .i64 60 (by omega) (by omega)
  rw [made_60] at hmk
  obtain ⟨cs, hcs⟩ := named (cellsOf (List.replicate 60 0)).toArray
  rw [← hcs.out] at hmk
  have hmk' : ∀ w, (Instr.makeSlice 74 (.int .i64 60) (.int .i64 60)).run Try.prog w = .ok (.slice (some ⟨w.heap.size, 0, none⟩) 60 60) (w.alloc (.cells cs 5)) := hmk
  have hcp := Lib.run_copy_row_string (P := Try.prog) (w.alloc (.cells cs 5)) 74 9 3 5 w.heap.size 0 60 60 s cs 5 Try.underlying74 (by kernel_rfl) (heap_alloc_new w _) h (by rw [hcs.out]; simp [cellsOf]; omega)
  have e1 : (cs.toList.take 0 ++ Lib.byteCells s.data.toList ++ cs.toList.drop (0 + s.size)).toArray = (cellsOf (padL s.data.toList)).toArray := by
    rw [hcs.out]
    have h1 : (cellsOf (List.replicate 60 0)).toArray.toList = cellsOf (List.replicate 60 0) := rfl
    have h2 : (cellsOf (List.replicate 60 0)).drop (0 + s.size) = cellsOf (List.replicate (60 - s.data.toList.length) 0) := by
      unfold cellsOf
      rw [← List.map_drop, List.drop_replicate, Nat.zero_add, data_length]
    rw [h1, h2, padL, cellsOf_append]
    rfl
  rw [e1] at hcp
  obtain ⟨W1, hW1⟩ := named ((w.alloc (.cells cs 5)).setRow w.heap.size (cellsOf (padL s.data.toList)).toArray)
  rw [← hW1.out] at hcp
  have hK : Blk W1 w.heap.size (cellsOf (padL s.data.toList)) 5 := by rw [hW1.out]; exact setRow_heap _ _ _ _ _ _ (heap_alloc_new w _)
  have hb1 : Below w.heap.size w W1 := by rw [hW1.out]; exact below_setRow (below_alloc w _) (Nat.le_refl _) _
  have hl : (padL s.data.toList).length = 60 := padL_length (by rw [data_length]; exact h)
  have hcv : ∀ w', Blk w' w.heap.size (cellsOf (padL s.data.toList)) 5 → (convert 74 9 (.slice (some ⟨w.heap.size, 0, none⟩) 60 60)).run Try.prog w' = .ok (.string (str (padL s.data.toList))) w' :=
    fun w' hK => blk_string 74 9 5 hl Try.underlying74 Try.underlying5 Try.underlying9 hK
  have hcv1 := hcv W1.drew hK
  have Hbody : Hid (str (padL s.data.toList) ++ str (putL (crcN (padL s.data.toList)) 4) = str (bodyL (padL s.data.toList))) := by show _ = _; rw [str_append]; rfl
  have hsz : (str (padL s.data.toList)).size = 60 := by rw [str_size, hl]
  obtain ⟨T, HT⟩ := named (str (padL s.data.toList))
  have Hsum : Hid (T.data.toList = padL s.data.toList) := by show _ = _; rw [HT.out, str_data]
  obtain ⟨R, HR⟩ := named (str (bodyL (padL s.data.toList)))
  obtain ⟨C, HC⟩ := named (str (putL (crcN (padL s.data.toList)) 4))
  rw [← HT.out] at hcv hcv1 hsz
  rw [← HR.out]
  have hTs : T.size ≤ maxLen := by rw [hsz]; decide
  have hT60 : T.size ≤ 60 := by omega
  have hKd : Blk W1.drew w.heap.size (cellsOf (padL s.data.toList)) 5 := hK
  have hC4 : C.size ≤ 4 := by rw [HC.out, str_size, putL_length]; omega
  have hTC : ¬ (9223372036854775807 < T.size + C.size) := by omega
  have hadd : ∀ w', (Op.stringOp .add T C).run Try.prog w' = .ok (.string (T ++ C)) w' := fun w' => run_string_add_sum w' T C (by omega)
  have Hsz := hide hsz
  clear hsz hl hcs hmk e1
  go_enter Try.func27, Try.ntmps27
  go_wp2_with fail
  clear hmk' hcp
  go_region_held3 (fun w' => (convert 74 9 (.slice (some ⟨w.heap.size, 0, none⟩) 60 60)).run Try.prog w' = .ok (.string T) w')
    (first
      | (go_keep; done)
      | exact hcv _ (hKd.below hb2)
      | exact hcv _ hKd)
    ((first
      | (go_at_call 50
         refine (sum_w T _ hTs).mono ?_
         rw [Hsum.out]
         rintro e wS ⟨rfl, rfl⟩)
      | (go_at_call 51
         refine (put32_w (crcN (padL s.data.toList)) _ (crcN_lt _)).mono ?_
         rw [← HC.out]
         rintro e w2 ⟨rfl, hb2⟩)))
  all_goals (
    go_wp2
    go_ret2
    refine ⟨?_, bt hb1.drew hb2⟩
    rw [HR.out, ← Hbody.out, HT.out, HC.out]
    rfl)
theorem summed_w (s : ByteArray) (w : World) : Calls Try.prog 27 #[.string s] w fun e w' => e = .returned (.tuple #[.string (sumS s), .bool (sumOk s)]) ∧ Below w.heap.size w w' := by
  by_cases h : s.size ≤ 60
  · rw [show sumS s = str (bodyL (padL s.data.toList)) by simp [sumS, h], show sumOk s = true by simp [sumOk, h]]
    exact summed_yes s w h
  · rw [show sumS s = ⟨#[]⟩ by simp [sumS, h], show sumOk s = false by simp [sumOk, h]]
    exact summed_no s w (by omega)
set_option maxRecDepth 100000 in
set_option maxHeartbeats 1000000 in
theorem good_w (s : ByteArray) (w : World) (hs : s.size = 64) : Calls Try.prog 28 #[.string s] w fun e w' => e = .returned (.bool (goodB s)) ∧ Below w.heap.size w w' := by
  have hz : ((s.size : Int) != 64) = false := by simp; omega
  have h1 : (60 : Int) ≤ (s.size : Int) := by omega
  have hl : s.data.toList.length = 64 := by rw [data_length]; exact hs
  have x1 : s.extract 60 s.size = str (s.data.toList.drop 60) := by rw [extract_str, List.take_of_length_le (by rw [List.length_drop]; omega)]
  have x2 : s.extract 0 60 = str (s.data.toList.take 60) := by rw [extract_str]; simp
  obtain ⟨A, HA⟩ := named (str (s.data.toList.take 60))
  obtain ⟨B, HB⟩ := named (str (s.data.toList.drop 60))
  rw [← HA.out] at x2
  rw [← HB.out] at x1
  have HAd : Hid (A.data.toList = s.data.toList.take 60) := by show _ = _; rw [HA.out, str_data]
  have HBd : Hid (B.data.toList = s.data.toList.drop 60) := by show _ = _; rw [HB.out, str_data]
  have hAs : A.size ≤ maxLen := by rw [HA.out, str_size, List.length_take]; simp only [maxLen]; omega
  have hBs : B.size ≤ maxLen := by rw [HB.out, str_size, List.length_drop, hl]; decide
  have HG := hide (got_yes 4 (s.data.toList.drop 60) (by rw [List.length_drop, hl]))
  have Hlast : Hid (((getL (s.data.toList.drop 60) : Int) == (crcN (s.data.toList.take 60) : Int)) = goodB s) := by
    show _ = _
    rw [Bool.eq_iff_iff, goodB, goodL]
    simp [hl]
    omega
  have hle : s.size ≤ 64 := by omega
  have hge : 60 ≤ s.size := by omega
  clear hl hs
  go_enter Try.func28, Try.ntmps28
  go_wp2_with fail
  refine (get32_w B _ hBs).mono ?_
  rw [HBd.out, HG.out.1, HG.out.2]
  rintro e w1 ⟨rfl, rfl⟩
  go_wp2_with fail
  refine (sum_w A _ hAs).mono ?_
  rw [HAd.out]
  rintro e w2 ⟨rfl, rfl⟩
  go_wp2
  go_ret
  refine ⟨?_, Below.refl _ _⟩
  rw [← Hlast.out]
  rfl
end Go.Proofs.Ytcnhdmchoiiceaa
