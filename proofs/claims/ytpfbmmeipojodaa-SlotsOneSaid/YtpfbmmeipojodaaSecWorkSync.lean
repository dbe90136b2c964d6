/- The walk of sector.work as Sync asks it. -/
import Derived.Test.YtpfbmmeipojodaaGC
import Derived.Deep.DeepCutAuto
namespace Go.Proofs.Ytpfbmmeipojodaa
open Go.RowKit
set_option maxRecDepth 100000 in
set_option maxHeartbeats 40000000 in
theorem work_sync_w (A1 A2 : Option Addr) (c1 c2 : Nat) (d : Dk) (w : World) (h1 : Texts w A1 d.secs) (h2 : Writes w A2 d.pend) (hr : right d = true) (hf1 : -9223372036854775808 ≤ d.fuse) (hf2 : d.fuse ≤ 9223372036854775807) :
    Calls Try.prog 79 #[.agg #[.slice A1 d.secs.length c1, .slice A2 d.pend.length c2, .bool d.off, .int .i64 d.fuse], .func (.func 84) #[] #[], .func (.func 82) #[] #[], .func (.func 85) #[] #[]] w (DkRet (workD 0 d d (settled fun _ => true)) (workE 0 d) w) := by
  obtain ⟨S, P, off, fuse⟩ := d
  simp only at h1 h2 hf1 hf2
  obtain ⟨D, HD⟩ := named (workD 0 ⟨S, P, off, fuse⟩ ⟨S, P, off, fuse⟩ (settled fun _ => true))
  obtain ⟨E, HE⟩ := named (workE 0 ⟨S, P, off, fuse⟩)
  change Calls _ _ _ _ (DkRet (workD 0 ⟨S, P, off, fuse⟩ ⟨S, P, off, fuse⟩ (settled fun _ => true)) (workE 0 ⟨S, P, off, fuse⟩) w)
  rw [← HD.out, ← HE.out]
  have hin := right_in hr
  simp only at hin
  have hl : S.length ≤ 1024 ∧ P.length ≤ 4096 := by
    simp [right, sizeOk] at hr
    omega
  obtain ⟨hl1, hl2⟩ := hl
  have hE := hide (show checkE ⟨S, P, off, fuse⟩ = 0 by simp [checkE, hr])
  clear hr
  have k1 := (Blk.new w [.slice A1 S.length c1, .slice A2 P.length c2, .bool off, .int .i64 fuse] 28).alloc (.cells #[.slice none 0 0, .slice none 0 0, .bool false, .int .i64 0] 28)
  have k2 := Blk.new (w.alloc (.cells #[.slice A1 S.length c1, .slice A2 P.length c2, .bool off, .int .i64 fuse] 28)) [.slice none 0 0, .slice none 0 0, .bool false, .int .i64 0] 28
  have b0 := bt (below_alloc w (.cells #[.slice A1 S.length c1, .slice A2 P.length c2, .bool off, .int .i64 fuse] 28)) (below_alloc _ (.cells #[.slice none 0 0, .slice none 0 0, .bool false, .int .i64 0] 28))
  go_enter Try.func79, Try.ntmps79
  go_wp2_with fail
  refine (check_w A1 A2 c1 c2 ⟨S, P, off, fuse⟩ _ (h1.below b0) (h2.below b0) (by simp only; omega) (by simp only; omega)).mono ?_
  rw [hE.out]
  rintro e w1 ⟨rfl, hb⟩
  have p1 := k1.below hb
  have p2 := k2.below hb
  have hbw := bt b0 hb
  have hs1 := h1.below hbw
  have hs2 := h2.below hbw
  clear k1 k2 b0 hb
  go_wp2_with fail
  rw [show (w.alloc (.cells #[.slice A1 S.length c1, .slice A2 P.length c2, .bool off, .int .i64 fuse] 28)).heap.size = w.heap.size + 1 by simp] at p2
  have q1 : Blk w1.drew w.heap.size _ _ := p1
  have q2 : Blk w1.drew (w.heap.size + 1) _ _ := p2
  have r1 : Texts w1.drew A1 S := hs1
  have r2 : Writes w1.drew A2 P := hs2
  have e0 := q1.cell 0
  have e1 := q1.cell 1
  go_cut [19, 20, 21, 22, 23, 24, 25, 26] (fun _ _ _ _ _ _ _ _ wx => ∃ B2 d2 B3 d3, Blk wx w.heap.size [.slice B2 S.length d2, .slice B3 P.length d3, .bool off, .int .i64 fuse] 28 ∧ Blk wx (w.heap.size + 1) [.slice none 0 0, .slice none 0 0, .bool false, .int .i64 0] 28 ∧
      wx.ownsRow w1.heap.size 9 1 (.slice B2 S.length d2) S.length (strs S) ∧ wx.ownsRow w1.heap.size 66 2 (.slice B3 P.length d3) P.length (wrs P) ∧ Below w.heap.size w wx ∧ w.heap.size + 1 < w1.heap.size ∧ w1.heap.size ≤ wx.heap.size)
  case first =>
    go_region_with (first
      | (go_at_call 27
         refine (cloneS_w A1 c1 S _ r1 (by omega)).mono ?_
         rintro e w2 ⟨v2, rfl, ho2, hb2⟩
         obtain ⟨B2, d2, rfl, _⟩ := Lies.of_own ho2
         have e0' := (q1.below hb2).cell 0
         have e1' := (q1.below hb2).cell 1)
      | (go_at_call 28
         refine (cloneW_w A2 c2 P _ (r2.below hb2) (by omega)).mono ?_
         rintro e w3 ⟨v3, rfl, ho3, hb3⟩
         obtain ⟨B3, d3, rfl, _⟩ := Lies.of_own ho3
         have f0 := ((q1.below hb2).below hb3).cell 0
         have f1 := ((q1.below hb2).below hb3).cell 1
         have f0' := ((q1.below hb2).below hb3).free 0
         have f1' := ((q1.below hb2).below hb3).free 1))
    all_goals (
      go_wp2_with fail
      go_meet
      exact ⟨_, _, _, _, front_end (d := ⟨S, P, off, fuse⟩) (u := w1.drew) (M := w1.heap.size) rfl hbw.drew q1 q2 ho2 hb2 ho3 hb3⟩)
  case rest =>
    clear p1 p2 hbw hs1 hs2 q1 q2 r1 r2 e0 e1 hE
    obtain ⟨B2, d2, B3, d3, K1, K2, O1, O2, hb4, hNM, hMW⟩ := hcut
    obtain ⟨W4, H4⟩ := named wc
    rw [← H4.out] at K1 K2 O1 O2 hb4 hMW ⊢
    clear H4
    have x0 := K1.cell 0
    have x1 := K1.cell 1
    have x2 := K1.cell 2
    have x3 := K1.cell 3
    have hM5 : w1.heap.size ≤ (W4.alloc (.cells #[.slice B2 S.length d2, .slice B3 P.length d3, .bool off, .int .i64 fuse] 70)).heap.size := by simp; omega
    have A5 : At (W4.alloc (.cells #[.slice B2 S.length d2, .slice B3 P.length d3, .bool off, .int .i64 fuse] 70)) w1.heap.size W4.heap.size (.slice B2 S.length d2) (.slice B3 P.length d3) ⟨S, P, off, fuse⟩ := ⟨Blk.new W4 _ _, O1.alloc _, hMW⟩
    have P5 := O2.alloc (.cells #[.slice B2 S.length d2, .slice B3 P.length d3, .bool off, .int .i64 fuse] 70)
    have R5 := K2.alloc (.cells #[.slice B2 S.length d2, .slice B3 P.length d3, .bool off, .int .i64 fuse] 70)
    have hb5 := hb4.alloc hb4.size (.cells #[.slice B2 S.length d2, .slice B3 P.length d3, .bool off, .int .i64 fuse] 70)
    have hN4 : w.heap.size + 1 ≠ W4.heap.size := by omega
    have r0 := R5.cell 0
    have r1 := R5.cell 1
    have r2 := R5.cell 2
    have r3 := R5.cell 3
    have z0 := R5.free 0
    have z1 := R5.free 1
    have z2 := R5.free 2
    have z3 := R5.free 3
    cases off
    · go_wp2_with fail
      refine (fine_w _ _).mono ?_
      obtain ⟨W6, H6⟩ := named (W4.alloc (.cells #[.slice B2 S.length d2, .slice B3 P.length d3, .bool false, .int .i64 fuse] 70))
      rw [← H6.out] at A5 P5 R5 hb5 ⊢
      rintro e W6' ⟨rfl, rfl⟩
      have A6 := A5
      have P6 := P5
      have R6 := R5
      have hw6 := hb5
      clear r0 r1 r2 r3 z0 z1 z2 z3 x0 x1 x2 x3 A5 P5 R5 hb5 K1 K2 O1 O2 hb4 hM5 H6
      have r0 := R6.cell 0
      have r1 := R6.cell 1
      have r2 := R6.cell 2
      have r3 := R6.cell 3
      have z0 := R6.free 0
      have z1 := R6.free 1
      have z2 := R6.free 2
      have z3 := R6.free 3
      have y0 := A6.blk.cell 0
      have y1 := A6.blk.cell 1
      have y2 := A6.blk.cell 2
      have y3 := A6.blk.cell 3
      go_wp2_with fail
      refine (nothing_w _ _).mono ?_
      rintro e W7 ⟨rfl, rfl⟩
      by_cases hz : fuse = 0
      · subst hz
        have Hx := hide (show workD 0 ⟨S, P, false, 0⟩ ⟨S, P, false, 0⟩ (settled fun _ => true) = ⟨S, P, true, 0⟩ ∧ workE 0 ⟨S, P, false, 0⟩ = 15 from by exact work_out rfl rfl rfl rfl)
        have A8 := At.setOff A6 true
        have P8 := own_far P6 (p := ⟨W4.heap.size, 2, none⟩) (own_blk_ne P6 A6.blk (by decide)) (.bool true)
        have R8 := R6.far (p := ⟨W4.heap.size, 2, none⟩) hN4 (.bool true)
        have hw8 := hw6.setCell (p := ⟨W4.heap.size, 2, none⟩) (show w.heap.size ≤ W4.heap.size by omega) (.bool true)
        have f2 := A6.blk.free 2
        go_wp2_with fail
        refine bodyPost_ret (v := .tuple #[.agg #[.slice B2 S.length d2, .slice B3 P.length d3, .bool true, .int .i64 0], .int .i64 15]) (by simp [results, Try.results79, go_sem, r0, r1, r2, r3]) rfl ?_
        have hret := ret_end A8 P8 R8 hw8 (by omega) (by simp only; omega) (by simp only; omega) (show (-9223372036854775808 : Int) ≤ 0 by decide) (show (0 : Int) ≤ 9223372036854775807 by decide)
        exact dkRet_of hret (HD.out.trans Hx.out.1) (HE.out.trans Hx.out.2)
      · have hz' : (fuse == 0) = false := by simp [hz]
        by_cases hp : 0 < fuse
        · have Hx := hide (show workD 0 ⟨S, P, false, fuse⟩ ⟨S, P, false, fuse⟩ (settled fun _ => true) = settled (fun _ => true) ⟨S, P, false, (fuse - 1)⟩ ∧ workE 0 ⟨S, P, false, fuse⟩ = 0 from by exact work_pos rfl hp)
          have hfu : fuse - 1 ≤ 9223372036854775807 := by omega
          have hfl : -9223372036854775808 ≤ fuse - 1 := by omega
          have A8 := At.setFuse A6 (fuse - 1)
          have P8 := own_far P6 (p := ⟨W4.heap.size, 3, none⟩) (own_blk_ne P6 A6.blk (by decide)) (.int .i64 (fuse - 1))
          have R8 := R6.far (p := ⟨W4.heap.size, 3, none⟩) hN4 (.int .i64 (fuse - 1))
          have hw8 := hw6.setCell (p := ⟨W4.heap.size, 3, none⟩) (show w.heap.size ≤ W4.heap.size by omega) (.int .i64 (fuse - 1))
          have f3 := A6.blk.free 3
          go_wp2_with fail
          refine (done_w w1.heap.size W4.heap.size ⟨S, P, false, (fuse - 1)⟩ _ ⟨_, _, A8, P8⟩ hin (by simp only; omega)).mono ?_
          rintro e W9 ⟨rfl, ⟨sv, pv, A9, P9⟩, hb9⟩
          have hlen := stl_length (fun _ => true) 0 P S
          have R9 := R8.belowAt hb9 hNM
          have hw9 := hw8.trans (hb9.mono (by omega))
          obtain ⟨B4, d4, rfl, _⟩ := Lies.of_own A9.own
          obtain ⟨B5, d5, rfl, _⟩ := Lies.of_own P9
          clear r0 r1 r2 r3 z0 z1 z2 z3 y0 y1 y2 y3
          have r0 := R9.cell 0
          have r1 := R9.cell 1
          have r2 := R9.cell 2
          have r3 := R9.cell 3
          have z0 := R9.free 0
          have z1 := R9.free 1
          have z2 := R9.free 2
          have z3 := R9.free 3
          have y0 := A9.blk.cell 0
          have y1 := A9.blk.cell 1
          have y2 := A9.blk.cell 2
          have y3 := A9.blk.cell 3
          go_wp2_with fail
          refine bodyPost_ret (v := .tuple #[.agg #[.slice B4 (settled (fun _ => true) ⟨S, P, false, (fuse - 1)⟩).secs.length d4, .slice B5 (settled (fun _ => true) ⟨S, P, false, (fuse - 1)⟩).pend.length d5, .bool false, .int .i64 (fuse - 1)], .int .i64 0]) (by simp [results, Try.results79, go_sem, r0, r1, r2, r3, settled]) rfl ?_
          have hret := ret_end A9 P9 R9 hw9 (by omega) (by simp only [settled, hlen]; omega) (by simp [settled]) (by simp only [settled]; omega) (by simp only [settled]; omega)
          exact dkRet_of hret (HD.out.trans Hx.out.1) (HE.out.trans Hx.out.2)
        · have hp' : fuse < 0 := by omega
          have Hx := hide (show workD 0 ⟨S, P, false, fuse⟩ ⟨S, P, false, fuse⟩ (settled fun _ => true) = settled (fun _ => true) ⟨S, P, false, fuse⟩ ∧ workE 0 ⟨S, P, false, fuse⟩ = 0 from by exact work_neg rfl hp')
          go_wp2_with fail
          refine (done_w w1.heap.size W4.heap.size ⟨S, P, false, fuse⟩ _ ⟨_, _, A6, P6⟩ hin (by simp only; omega)).mono ?_
          rintro e W9 ⟨rfl, ⟨sv, pv, A9, P9⟩, hb9⟩
          have hlen := stl_length (fun _ => true) 0 P S
          have R9 := R6.belowAt hb9 hNM
          have hw9 := hw6.trans (hb9.mono (by omega))
          obtain ⟨B4, d4, rfl, _⟩ := Lies.of_own A9.own
          obtain ⟨B5, d5, rfl, _⟩ := Lies.of_own P9
          clear r0 r1 r2 r3 z0 z1 z2 z3 y0 y1 y2 y3
          have r0 := R9.cell 0
          have r1 := R9.cell 1
          have r2 := R9.cell 2
          have r3 := R9.cell 3
          have z0 := R9.free 0
          have z1 := R9.free 1
          have z2 := R9.free 2
          have z3 := R9.free 3
          have y0 := A9.blk.cell 0
          have y1 := A9.blk.cell 1
          have y2 := A9.blk.cell 2
          have y3 := A9.blk.cell 3
          go_wp2_with fail
          refine bodyPost_ret (v := .tuple #[.agg #[.slice B4 (settled (fun _ => true) ⟨S, P, false, fuse⟩).secs.length d4, .slice B5 (settled (fun _ => true) ⟨S, P, false, fuse⟩).pend.length d5, .bool false, .int .i64 fuse], .int .i64 0]) (by simp [results, Try.results79, go_sem, r0, r1, r2, r3, settled]) rfl ?_
          have hret := ret_end A9 P9 R9 hw9 (by omega) (by simp only [settled, hlen]; omega) (by simp [settled]) (by simp only [settled]; omega) (by simp only [settled]; omega)
          exact dkRet_of hret (HD.out.trans Hx.out.1) (HE.out.trans Hx.out.2)
    · have Hx := hide (show workD 0 ⟨S, P, true, fuse⟩ ⟨S, P, true, fuse⟩ (settled fun _ => true) = ⟨S, P, true, fuse⟩ ∧ workE 0 ⟨S, P, true, fuse⟩ = 15 from by exact work_off rfl)
      go_wp2_with fail
      refine bodyPost_ret (v := .tuple #[.agg #[.slice B2 S.length d2, .slice B3 P.length d3, .bool true, .int .i64 fuse], .int .i64 15]) (by simp [results, Try.results79, go_sem, r0, r1, r2, r3]) rfl ?_
      have hret := ret_end A5 P5 R5 hb5 (by omega) (by simp only; omega) (by simp only; omega) hf1 hf2
      exact dkRet_of hret (HD.out.trans Hx.out.1) (HE.out.trans Hx.out.2)
end Go.Proofs.Ytpfbmmeipojodaa
