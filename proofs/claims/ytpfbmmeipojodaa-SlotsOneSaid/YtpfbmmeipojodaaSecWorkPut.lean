/- The walk of sector.work as Put asks it. -/
import Derived.Test.YtpfbmmeipojodaaGC
import Derived.Deep.DeepCutAuto
namespace Go.Proofs.Ytpfbmmeipojodaa
open Go.RowKit
set_option maxRecDepth 100000 in
set_option maxHeartbeats 40000000 in
theorem work_put_w (A1 A2 : Option Addr) (c1 c2 : Nat) (d : Dk) (n : Int) (data : ByteArray) (w : World) (h1 : Texts w A1 d.secs) (h2 : Writes w A2 d.pend) (hr : right d = true) (hf1 : -9223372036854775808 ≤ d.fuse) (hf2 : d.fuse ≤ 9223372036854775807) :
    Calls Try.prog 79 #[.agg #[.slice A1 d.secs.length c1, .slice A2 d.pend.length c2, .bool d.off, .int .i64 d.fuse], .func (.func 80) #[.agg #[.int .i64 n, .string data]] #[], .func (.func 81) #[.agg #[.int .i64 n, .string data]] #[], .func (.func 82) #[] #[]] w (DkRet (workD (refE d n data) d { d with pend := d.pend ++ [⟨n, data⟩] } id) (workE (refE d n data) d) w) := by
  obtain ⟨S, P, off, fuse⟩ := d
  simp only at h1 h2 hf1 hf2
  obtain ⟨D, HD⟩ := named (workD (refE ⟨S, P, off, fuse⟩ n data) ⟨S, P, off, fuse⟩ ⟨S, P ++ [⟨n, data⟩], off, fuse⟩ id)
  obtain ⟨E, HE⟩ := named (workE (refE ⟨S, P, off, fuse⟩ n data) ⟨S, P, off, fuse⟩)
  change Calls _ _ _ _ (DkRet (workD (refE ⟨S, P, off, fuse⟩ n data) ⟨S, P, off, fuse⟩ ⟨S, P ++ [⟨n, data⟩], off, fuse⟩ id) (workE (refE ⟨S, P, off, fuse⟩ n data) ⟨S, P, off, fuse⟩) w)
  rw [← HD.out, ← HE.out]
  have hl : S.length ≤ 1024 ∧ P.length ≤ 4096 := by
    simp [right, sizeOk] at hr
    omega
  obtain ⟨hl1, hl2⟩ := hl
  have hE := hide (show checkE ⟨S, P, off, fuse⟩ = 0 by simp [checkE, hr])
  clear hr
  have k1 := (Blk.new w [.slice A1 S.length c1, .slice A2 P.length c2, .bool off, .int .i64 fuse] 28).alloc (.cells #[.slice none 0 0, .slice none 0 0, .bool false, .int .i64 0] 28)
  have k2 := Blk.new (w.alloc (.cells #[.slice A1 S.length c1, .slice A2 P.length c2, .bool off, .int .i64 fuse] 28)) [.slice none 0 0, .slice none 0 0, .bool false, .int .i64 0] 28
  have b0 := bt (below_alloc w (.cells #[.slice A1 S.length c1, .slice A2 P.length c2, .bool off, .int .i64 fuse] 28)) (below_alloc _ (.cells #[.slice none 0 0, .slice none 0 0, .bool false, .int .i64 0] 28))
  go_enter Try.func79, Try.ntmps79
  go_wp2_with fail
  refine (check_w A1 A2 c1 c2 ⟨S, P, off, fuse⟩ _ (h1.below b0) (h2.below b0) (by simp only; omega) (by simp only; omega)).mono ?_
  rw [hE.out]
  rintro e w1 ⟨rfl, hb⟩
  have p1 := k1.below hb
  have p2 := k2.below hb
  have hbw := bt b0 hb
  have hs1 := h1.below hbw
  have hs2 := h2.below hbw
  clear k1 k2 b0 hb
  go_wp2_with fail
  rw [show (w.alloc (.cells #[.slice A1 S.length c1, .slice A2 P.length c2, .bool off, .int .i64 fuse] 28)).heap.size = w.heap.size + 1 by simp] at p2
  have q1 : Blk w1.drew w.heap.size _ _ := p1
  have q2 : Blk w1.drew (w.heap.size + 1) _ _ := p2
  have r1 : Texts w1.drew A1 S := hs1
  have r2 : Writes w1.drew A2 P := hs2
  have e0 := q1.cell 0
  have e1 := q1.cell 1
  go_cut [19, 20, 21, 22, 23, 24, 25, 26] (fun _ _ _ _ _ _ _ _ wx => ∃ B2 d2 B3 d3, Blk wx w.heap.size [.slice B2 S.length d2, .slice B3 P.length d3, .bool off, .int .i64 fuse] 28 ∧ Blk wx (w.heap.size + 1) [.slice none 0 0, .slice none 0 0, .bool false, .int .i64 0] 28 ∧
      wx.ownsRow w1.heap.size 9 1 (.slice B2 S.length d2) S.length (strs S) ∧ wx.ownsRow w1.heap.size 66 2 (.slice B3 P.length d3) P.length (wrs P) ∧ Below w.heap.size w wx ∧ w.heap.size + 1 < w1.heap.size ∧ w1.heap.size ≤ wx.heap.size)
  case first =>
    go_region_with (first
      | (go_at_call 27
         refine (cloneS_w A1 c1 S _ r1 (by omega)).mono ?_
         rintro e w2 ⟨v2, rfl, ho2, hb2⟩
         obtain ⟨B2, d2, rfl, _⟩ := Lies.of_own ho2
         have e0' := (q1.below hb2).cell 0
         have e1' := (q1.below hb2).cell 1)
      | (go_at_call 28
         refine (cloneW_w A2 c2 P _ (r2.below hb2) (by omega)).mono ?_
         rintro e w3 ⟨v3, rfl, ho3, hb3⟩
         obtain ⟨B3, d3, rfl, _⟩ := Lies.of_own ho3
         have f0 := ((q1.below hb2).below hb3).cell 0
         have f1 := ((q1.below hb2).below hb3).cell 1
         have f0' := ((q1.below hb2).below hb3).free 0
         have f1' := ((q1.below hb2).below hb3).free 1))
    all_goals (
      go_wp2_with fail
      go_meet
      exact ⟨_, _, _, _, front_end (d := ⟨S, P, off, fuse⟩) (u := w1.drew) (M := w1.heap.size) rfl hbw.drew q1 q2 ho2 hb2 ho3 hb3⟩)
  case rest =>
    clear p1 p2 hbw hs1 hs2 q1 q2 r1 r2 e0 e1 hE
    obtain ⟨B2, d2, B3, d3, K1, K2, O1, O2, hb4, hNM, hMW⟩ := hcut
    obtain ⟨W4, H4⟩ := named wc
    rw [← H4.out] at K1 K2 O1 O2 hb4 hMW ⊢
    clear H4
    have x0 := K1.cell 0
    have x1 := K1.cell 1
    have x2 := K1.cell 2
    have x3 := K1.cell 3
    have hM5 : w1.heap.size ≤ (W4.alloc (.cells #[.slice B2 S.length d2, .slice B3 P.length d3, .bool off, .int .i64 fuse] 70)).heap.size := by simp; omega
    have A5 : At (W4.alloc (.cells #[.slice B2 S.length d2, .slice B3 P.length d3, .bool off, .int .i64 fuse] 70)) w1.heap.size W4.heap.size (.slice B2 S.length d2) (.slice B3 P.length d3) ⟨S, P, off, fuse⟩ := ⟨Blk.new W4 _ _, O1.alloc _, hMW⟩
    have P5 := O2.alloc (.cells #[.slice B2 S.length d2, .slice B3 P.length d3, .bool off, .int .i64 fuse] 70)
    have R5 := K2.alloc (.cells #[.slice B2 S.length d2, .slice B3 P.length d3, .bool off, .int .i64 fuse] 70)
    have hb5 := hb4.alloc hb4.size (.cells #[.slice B2 S.length d2, .slice B3 P.length d3, .bool off, .int .i64 fuse] 70)
    have hN4 : w.heap.size + 1 ≠ W4.heap.size := by omega
    have r0 := R5.cell 0
    have r1 := R5.cell 1
    have r2 := R5.cell 2
    have r3 := R5.cell 3
    have z0 := R5.free 0
    have z1 := R5.free 1
    have z2 := R5.free 2
    have z3 := R5.free 3
    cases off
    · go_wp2_with fail
      refine (refuses_w n data w1.heap.size W4.heap.size ⟨S, P, false, fuse⟩ _ ⟨_, _, A5, P5⟩ (by simp only; omega)).mono ?_
      obtain ⟨ref, Href⟩ := named (refE ⟨S, P, false, fuse⟩ n data)
      rw [← Href.out]
      rintro e W6 ⟨rfl, hb6⟩
      have A6 := A5.below hb6
      have P6 := own_below P5 hb6
      have R6 := R5.below hb6
      have hw6 := hb5.trans (hb6.mono hb5.size)
      clear r0 r1 r2 r3 z0 z1 z2 z3 x0 x1 x2 x3 A5 P5 R5 hb5 K1 K2 O1 O2 hb4 hM5 hb6
      have r0 := R6.cell 0
      have r1 := R6.cell 1
      have r2 := R6.cell 2
      have r3 := R6.cell 3
      have z0 := R6.free 0
      have z1 := R6.free 1
      have z2 := R6.free 2
      have z3 := R6.free 3
      have y0 := A6.blk.cell 0
      have y1 := A6.blk.cell 1
      have y2 := A6.blk.cell 2
      have y3 := A6.blk.cell 3
      by_cases hq : ref = 0
      · subst hq
        go_wp2_with fail
        refine (always_w n data w1.heap.size W4.heap.size ⟨S, P, false, fuse⟩ W6 ⟨_, _, A6, P6⟩ (by simp only; omega)).mono ?_
        rintro e W7 ⟨rfl, ⟨sv, pv, A7', P7'⟩, hb7⟩
        obtain ⟨Q, HQ⟩ := named (P ++ [⟨n, data⟩])
        have A7 : At W7 w1.heap.size W4.heap.size sv pv ⟨S, Q, false, fuse⟩ := by rw [HQ.out]; exact A7'
        have P7 : W7.ownsRow w1.heap.size 66 2 pv Q.length (wrs Q) := by rw [HQ.out]; exact P7'
        have hQ : Q.length ≤ 4097 := by rw [HQ.out]; simp; omega
        obtain ⟨B4, d4, rfl, _⟩ := Lies.of_own A7.own
        obtain ⟨B5, d5, rfl, _⟩ := Lies.of_own P7
        have R7 := R6.belowAt hb7 hNM
        have hw7 := hw6.trans (hb7.mono (by omega))
        clear r0 r1 r2 r3 z0 z1 z2 z3 y0 y1 y2 y3 A7' P7' A6 P6 R6 hw6
        have r0 := R7.cell 0
        have r1 := R7.cell 1
        have r2 := R7.cell 2
        have r3 := R7.cell 3
        have z0 := R7.free 0
        have z1 := R7.free 1
        have z2 := R7.free 2
        have z3 := R7.free 3
        have y0 := A7.blk.cell 0
        have y1 := A7.blk.cell 1
        have y2 := A7.blk.cell 2
        have y3 := A7.blk.cell 3
        by_cases hz : fuse = 0
        · subst hz
          have Hx := hide (show workD (refE ⟨S, P, false, 0⟩ n data) ⟨S, P, false, 0⟩ ⟨S, P ++ [⟨n, data⟩], false, 0⟩ id = ⟨S, Q, true, 0⟩ ∧ workE (refE ⟨S, P, false, 0⟩ n data) ⟨S, P, false, 0⟩ = 15 from by rw [HQ.out]; exact work_out rfl Href.out.symm rfl rfl)
          have A8 := At.setOff A7 true
          have P8 := own_far P7 (p := ⟨W4.heap.size, 2, none⟩) (own_blk_ne P7 A7.blk (by decide)) (.bool true)
          have R8 := R7.far (p := ⟨W4.heap.size, 2, none⟩) hN4 (.bool true)
          have hw8 := hw7.setCell (p := ⟨W4.heap.size, 2, none⟩) (show w.heap.size ≤ W4.heap.size by omega) (.bool true)
          have f2 := A7.blk.free 2
          go_wp2_with fail
          refine bodyPost_ret (v := .tuple #[.agg #[.slice B4 S.length d4, .slice B5 Q.length d5, .bool true, .int .i64 0], .int .i64 15]) (by simp [results, Try.results79, go_sem, r0, r1, r2, r3]) rfl ?_
          have hret := ret_end A8 P8 R8 hw8 (by omega) (by simp only; omega) (by simp only; omega) (show (-9223372036854775808 : Int) ≤ 0 by decide) (show (0 : Int) ≤ 9223372036854775807 by decide)
          exact dkRet_of hret (HD.out.trans Hx.out.1) (HE.out.trans Hx.out.2)
        · have hz' : (fuse == 0) = false := by simp [hz]
          by_cases hp : 0 < fuse
          · have Hx := hide (show workD (refE ⟨S, P, false, fuse⟩ n data) ⟨S, P, false, fuse⟩ ⟨S, P ++ [⟨n, data⟩], false, fuse⟩ id = ⟨S, Q, false, fuse - 1⟩ ∧ workE (refE ⟨S, P, false, fuse⟩ n data) ⟨S, P, false, fuse⟩ = 0 from by rw [HQ.out]; exact work_pos Href.out.symm hp)
            have hfu : fuse - 1 ≤ 9223372036854775807 := by omega
            have hfl : -9223372036854775808 ≤ fuse - 1 := by omega
            have A8 := At.setFuse A7 (fuse - 1)
            have P8 := own_far P7 (p := ⟨W4.heap.size, 3, none⟩) (own_blk_ne P7 A7.blk (by decide)) (.int .i64 (fuse - 1))
            have R8 := R7.far (p := ⟨W4.heap.size, 3, none⟩) hN4 (.int .i64 (fuse - 1))
            have hw8 := hw7.setCell (p := ⟨W4.heap.size, 3, none⟩) (show w.heap.size ≤ W4.heap.size by omega) (.int .i64 (fuse - 1))
            have f3 := A7.blk.free 3
            go_wp2_with fail
            refine (nothing_w _ _).mono ?_
            rintro e W9 ⟨rfl, rfl⟩
            go_wp2_with fail
            refine bodyPost_ret (v := .tuple #[.agg #[.slice B4 S.length d4, .slice B5 Q.length d5, .bool false, .int .i64 (fuse - 1)], .int .i64 0]) (by simp [results, Try.results79, go_sem, r0, r1, r2, r3]) rfl ?_
            have hret := ret_end A8 P8 R8 hw8 (by omega) (by simp only; omega) (by simp only; omega) (by simp only; omega) (by simp only; omega)
            exact dkRet_of hret (HD.out.trans Hx.out.1) (HE.out.trans Hx.out.2)
          · have hp' : fuse < 0 := by omega
            have Hx := hide (show workD (refE ⟨S, P, false, fuse⟩ n data) ⟨S, P, false, fuse⟩ ⟨S, P ++ [⟨n, data⟩], false, fuse⟩ id = ⟨S, Q, false, fuse⟩ ∧ workE (refE ⟨S, P, false, fuse⟩ n data) ⟨S, P, false, fuse⟩ = 0 from by rw [HQ.out]; exact work_neg Href.out.symm hp')
            go_wp2_with fail
            refine (nothing_w _ _).mono ?_
            rintro e W9 ⟨rfl, rfl⟩
            go_wp2_with fail
            refine bodyPost_ret (v := .tuple #[.agg #[.slice B4 S.length d4, .slice B5 Q.length d5, .bool false, .int .i64 fuse], .int .i64 0]) (by simp [results, Try.results79, go_sem, r0, r1, r2, r3]) rfl ?_
            have hret := ret_end A7 P7 R7 hw7 (by omega) (by simp only; omega) (by simp only; omega) (by simp only; omega) (by simp only; omega)
            exact dkRet_of hret (HD.out.trans Hx.out.1) (HE.out.trans Hx.out.2)
      · have hq' : (ref == 0) = false := by simp [hq]
        have hq3 : (ref != 0) = true := by simp [hq]
        have Hx := hide (show workD (refE ⟨S, P, false, fuse⟩ n data) ⟨S, P, false, fuse⟩ ⟨S, P ++ [⟨n, data⟩], false, fuse⟩ id = ⟨S, P, false, fuse⟩ ∧ workE (refE ⟨S, P, false, fuse⟩ n data) ⟨S, P, false, fuse⟩ = ref from by rw [← Href.out]; exact work_ref rfl hq)
        go_wp2_with fail
        refine bodyPost_ret (v := .tuple #[.agg #[.slice B2 S.length d2, .slice B3 P.length d3, .bool false, .int .i64 fuse], .int .i64 ref]) (by simp [results, Try.results79, go_sem, r0, r1, r2, r3]) rfl ?_
        have hret := ret_end A6 P6 R6 hw6 (by omega) (by simp only; omega) (by simp only; omega) hf1 hf2
        exact dkRet_of hret (HD.out.trans Hx.out.1) (HE.out.trans Hx.out.2)
    · have Hx := hide (show workD (refE ⟨S, P, true, fuse⟩ n data) ⟨S, P, true, fuse⟩ ⟨S, P ++ [⟨n, data⟩], true, fuse⟩ id = ⟨S, P, true, fuse⟩ ∧ workE (refE ⟨S, P, true, fuse⟩ n data) ⟨S, P, true, fuse⟩ = 15 from by exact work_off rfl)
      go_wp2_with fail
      refine bodyPost_ret (v := .tuple #[.agg #[.slice B2 S.length d2, .slice B3 P.length d3, .bool true, .int .i64 fuse], .int .i64 15]) (by simp [results, Try.results79, go_sem, r0, r1, r2, r3]) rfl ?_
      have hret := ret_end A5 P5 R5 hb5 (by omega) (by simp only; omega) (by simp only; omega) hf1 hf2
      exact dkRet_of hret (HD.out.trans Hx.out.1) (HE.out.trans Hx.out.2)
end Go.Proofs.Ytpfbmmeipojodaa
