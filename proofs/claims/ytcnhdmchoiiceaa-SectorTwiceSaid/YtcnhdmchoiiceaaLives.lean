/- The law's lives: answers that the document gives. -/
import Derived.Test.YtcnhdmchoiiceaaBox
import Derived.Test.YtcnhdmchoiiceaaLawFull
import Derived.Test.YtcnhdmchoiiceaaSecDoPut
import Derived.Test.YtcnhdmchoiiceaaSecReadAll
import Derived.Test.YtcnhdmchoiiceaaSecNew
namespace Go.Proofs.Ytcnhdmchoiiceaa
open Go.RowKit
theorem zero64_size : zero64.size = 64 := by simp [zero64, str_size]
theorem live_new : newD 2 = ⟨[zero64, zero64], [], false, -1⟩ ∧ newE 2 = 0 := by simp [newD, newE]
theorem live_right {a b : ByteArray} {P : List Wr} (ha : a.size = 64) (hb : b.size = 64) (hP : P = [] ∨ ∃ x : ByteArray, x.size = 64 ∧ P = [⟨0, x⟩]) : right ⟨[a, b], P, false, -1⟩ = true := by
  rcases hP with rfl | ⟨x, hx, rfl⟩ <;> simp [right, sizeOk, odd, wrongW, there, *]
theorem live_put {a b x : ByteArray} (ha : a.size = 64) (hb : b.size = 64) (hx : x.size = 64) : putD ⟨[a, b], [], false, -1⟩ 0 x = ⟨[a, b], [⟨0, x⟩], false, -1⟩ ∧ putE ⟨[a, b], [], false, -1⟩ 0 x = 0 := by
  have hr := live_right ha hb (.inl rfl)
  have he : refE ⟨[a, b], [], false, -1⟩ 0 x = 0 := by simp [refE, there, hx]
  simp [putD, putE, hr, he, workD, workE, burn]
theorem live_sync {a b x : ByteArray} (ha : a.size = 64) (hb : b.size = 64) (hx : x.size = 64) : syncD ⟨[a, b], [⟨0, x⟩], false, -1⟩ = ⟨[x, b], [], false, -1⟩ ∧ syncE ⟨[a, b], [⟨0, x⟩], false, -1⟩ = 0 := by
  have hr := live_right (P := [⟨0, x⟩]) ha hb (.inr ⟨x, hx, rfl⟩)
  simp [syncD, syncE, hr, workD, workE, burn, settled, stl]
theorem live_read {a b y : ByteArray} (ha : a.size = 64) (hb : b.size = 64) (hy : y.size = 64) : readS ⟨[a, b], [⟨0, y⟩], false, -1⟩ 0 = y ∧ readE ⟨[a, b], [⟨0, y⟩], false, -1⟩ 0 = 0 := by
  have hr := live_right (P := [⟨0, y⟩]) ha hb (.inr ⟨y, hy, rfl⟩)
  have h1 : readE ⟨[a, b], [⟨0, y⟩], false, -1⟩ 0 = 0 := by simp [readE, hr, there]
  simp [readS, h1, holdsOf]
theorem live_crash {a b y : ByteArray} (ha : a.size = 64) (hb : b.size = 64) (hy : y.size = 64) : crashD ⟨[a, b], [⟨0, y⟩], false, -1⟩ [] = ⟨[a, b], [], false, -1⟩ ∧ checkE ⟨[a, b], [⟨0, y⟩], false, -1⟩ = 0 := by
  have hr := live_right (P := [⟨0, y⟩]) ha hb (.inr ⟨y, hy, rfl⟩)
  simp [crashD, checkE, hr, stl, mayOf]
theorem live_read0 {a b : ByteArray} (ha : a.size = 64) (hb : b.size = 64) : readS ⟨[a, b], [], false, -1⟩ 0 = a ∧ readE ⟨[a, b], [], false, -1⟩ 0 = 0 := by
  have hr := live_right ha hb (.inl rfl)
  have h1 : readE ⟨[a, b], [], false, -1⟩ 0 = 0 := by simp [readE, hr, there]
  simp [readS, h1, holdsOf]
/-- A variable that holds a disk, somewhere. -/
def InBox (w : World) (N : Nat) (d : Dk) : Prop := ∃ A1 c1 A2 c2, Box w N A1 c1 A2 c2 d
theorem full120_w (w : World) : Calls Try.prog 39 #[.int .u8 120] w fun e w' => e = .returned (.string (fullB 120)) ∧ Below w.heap.size w w' := full_w 120 w
theorem full121_w (w : World) : Calls Try.prog 39 #[.int .u8 121] w fun e w' => e = .returned (.string (fullB 121)) ∧ Below w.heap.size w w' := full_w 121 w
set_option maxRecDepth 100000 in
set_option maxHeartbeats 8000000 in
theorem lives_w (w : World) : Calls Try.prog 16 #[] w fun e w' => e = .returned (.bool true) ∧ Below w.heap.size w w' := by
  have hx := fullB_size 120
  have hy := fullB_size 121
  obtain ⟨x, Hx⟩ := named (fullB 120)
  obtain ⟨y, Hy⟩ := named (fullB 121)
  have hfx := full120_w
  have hfy := full121_w
  rw [← Hx.out] at hx hfx
  rw [← Hy.out] at hy hfy
  obtain ⟨D0, H0⟩ := named (newD 2)
  have K0 : Hid (D0 = ⟨[zero64, zero64], [], false, -1⟩) := H0.out.trans live_new.1
  obtain ⟨D1, H1⟩ := named (putD D0 0 x)
  have K1 : Hid (D1 = ⟨[zero64, zero64], [⟨0, x⟩], false, -1⟩) := by show _ = _; rw [H1.out, K0.out]; exact (live_put zero64_size zero64_size hx).1
  have L1 : Hid (putE D0 0 x = 0) := by show _ = _; rw [K0.out]; exact (live_put zero64_size zero64_size hx).2
  obtain ⟨D2, H2⟩ := named (syncD D1)
  have K2 : Hid (D2 = ⟨[x, zero64], [], false, -1⟩) := by show _ = _; rw [H2.out, K1.out]; exact (live_sync zero64_size zero64_size hx).1
  have L2 : Hid (syncE D1 = 0) := by show _ = _; rw [K1.out]; exact (live_sync zero64_size zero64_size hx).2
  obtain ⟨D3, H3⟩ := named (putD D2 0 y)
  have K3 : Hid (D3 = ⟨[x, zero64], [⟨0, y⟩], false, -1⟩) := by show _ = _; rw [H3.out, K2.out]; exact (live_put hx zero64_size hy).1
  have L3 : Hid (putE D2 0 y = 0) := by show _ = _; rw [K2.out]; exact (live_put hx zero64_size hy).2
  have L4 : Hid (readE D3 0 = 0) := by show _ = _; rw [K3.out]; exact (live_read hx zero64_size hy).2
  have K4 : Hid (readS D3 0 = y) := by show _ = _; rw [K3.out]; exact (live_read hx zero64_size hy).1
  obtain ⟨D5, H5⟩ := named (crashD D3 [])
  have K5 : Hid (D5 = ⟨[x, zero64], [], false, -1⟩) := by show _ = _; rw [H5.out, K3.out]; exact (live_crash hx zero64_size hy).1
  have L5 : Hid (checkE D3 = 0) := by show _ = _; rw [K3.out]; exact (live_crash hx zero64_size hy).2
  have L6 : Hid (readE D5 0 = 0) := by show _ = _; rw [K5.out]; exact (live_read0 hx zero64_size).2
  have K6 : Hid (readS D5 0 = x) := by show _ = _; rw [K5.out]; exact (live_read0 hx zero64_size).1
  clear hx hy K0 K1 K2 K3 K5
  go_enter Try.func16, Try.ntmps16
  go_wp2_with fail
  refine (new_w 2 _ (by decide)).mono ?_
  rw [← H0.out, live_new.2]
  rintro e w1 ⟨v1, rfl, ⟨A1, c1, A2, c2, rfl, t1, t2, l1, l2, f1, f2⟩, hb1⟩
  have B1 := Box.new w1 ⟨A1, c1, A2, c2, rfl, t1, t2, l1, l2, f1, f2⟩
  have hw1 := bt hb1 (below_alloc w1 (.cells #[.slice A1 D0.secs.length c1, .slice A2 D0.pend.length c2, .bool D0.off, .int .i64 D0.fuse] 25))
  have hN : w.heap.size ≤ w1.heap.size := hb1.size
  obtain ⟨N, HN⟩ := named w1.heap.size
  obtain ⟨W1, HW1⟩ := named (w1.alloc (.cells #[.slice A1 D0.secs.length c1, .slice A2 D0.pend.length c2, .bool D0.off, .int .i64 D0.fuse] 25))
  go_upto_region 2 with fail
  rw [← HW1.out] at B1 hw1 ⊢
  rw [← HN.out] at B1 hN ⊢
  clear t1 t2 l1 l2 f1 f2 hb1 HW1 HN
  have Bd1 : Box W1.drew N A1 c1 A2 c2 D0 := ⟨B1.blk, B1.tx, B1.wr, B1.l1, B1.l2, B1.f1, B1.f2⟩
  have x0 := Bd1.blk.cell 0
  have x1 := Bd1.blk.cell 1
  have x2 := Bd1.blk.cell 2
  have x3 := Bd1.blk.cell 3
  go_cut [3, 16, 17, 18, 19, 20, 21] (fun u _ _ _ _ _ _ wx => u = .int .i64 0 ∧ ∃ A c A' c', Box wx N A c A' c' D1 ∧ Below w.heap.size w wx)
  case first =>
    go_region_with (first
      | (go_at_call 39
         refine (hfx _).mono ?_
         rintro e wF ⟨rfl, hbF⟩
         have Bf := Bd1.below hbF
         have y0 := Bf.blk.cell 0
         have y1 := Bf.blk.cell 1
         have y2 := Bf.blk.cell 2
         have y3 := Bf.blk.cell 3
         skip)
      | (go_at_call 12
         refine (put_w _ D0 0 x _ Bf.is).mono ?_
         rw [← H1.out, L1.out]
         rintro e wP ⟨vP, rfl, ⟨A3, c3, A4, c4, rfl, t1, t2, l1, l2, f1, f2⟩, hbP⟩
         have Bp := Bf.below hbP
         have z0 := Bp.blk.cell 0
         have z1 := Bp.blk.cell 1
         have z2 := Bp.blk.cell 2
         have z3 := Bp.blk.cell 3
         have g0 := Bp.blk.free 0
         have g1 := Bp.blk.free 1
         have g2 := Bp.blk.free 2
         have g3 := Bp.blk.free 3
         skip))
    all_goals (
      go_wp2_with fail
      go_meet
      have hwP := (hw1.drew.trans (hbF.mono (by have := hw1.size; exact this))).trans (hbP.mono (by have h1 := hw1.size; have h2 := hbF.size; exact Nat.le_trans h1 h2))
      have hbox := Box.set (d' := D1) (e1 := c3) (e2 := c4) Bp t1 t2 l1 l2 f1 f2
      have hbel := below4 hwP hN (.slice A3 D1.secs.length c3) (.slice A4 D1.pend.length c4) (.bool D1.off) (.int .i64 D1.fuse)
      exact ⟨rfl, _, _, _, _, hbox, hbel⟩)
  case rest =>
    obtain ⟨rfl, A3, c3, A4, c4, B2, hw2⟩ := hcut
    obtain ⟨W2, HW2⟩ := named wc
    rw [← HW2.out] at B2 hw2 ⊢
    clear HW2 Bd1 x0 x1 x2 x3 B1 hw1
    have x0 := B2.blk.cell 0
    have x1 := B2.blk.cell 1
    have x2 := B2.blk.cell 2
    have x3 := B2.blk.cell 3
    go_upto_region 4 with (first
      | (go_at_call 14
         refine (sync_w _ D1 _ B2.is).mono ?_
         rw [← H2.out, L2.out]
         rintro e wP ⟨vP, rfl, ⟨A5, c5, A6, c6, rfl, t1, t2, l1, l2, f1, f2⟩, hbP⟩
         have Bp := B2.below hbP
         have z0 := Bp.blk.cell 0
         have z1 := Bp.blk.cell 1
         have z2 := Bp.blk.cell 2
         have z3 := Bp.blk.cell 3
         have g0 := Bp.blk.free 0
         have g1 := Bp.blk.free 1
         have g2 := Bp.blk.free 2
         have g3 := Bp.blk.free 3
         skip))
    have hwP := bt hw2 hbP
    have B3 := Box.set (d' := D2) (e1 := c5) (e2 := c6) Bp t1 t2 l1 l2 f1 f2
    have hw3 := below4 hwP hN (.slice A5 D2.secs.length c5) (.slice A6 D2.pend.length c6) (.bool D2.off) (.int .i64 D2.fuse)
    obtain ⟨W3, HW3⟩ := named ((((wP.setCell ⟨N, 0, none⟩ (.slice A5 D2.secs.length c5)).setCell ⟨N, 1, none⟩ (.slice A6 D2.pend.length c6)).setCell ⟨N, 2, none⟩ (.bool D2.off)).setCell ⟨N, 3, none⟩ (.int .i64 D2.fuse))
    have B3' : Box W3 N A5 c5 A6 c6 D2 := by rw [HW3.out]; exact B3
    have hw3' : Below w.heap.size w W3 := by rw [HW3.out]; exact hw3
    rw [← HW3.out]
    clear HW3 B3 hw3 hwP Bp t1 t2 l1 l2 f1 f2 z0 z1 z2 z3 g0 g1 g2 g3 hbP B2 hw2 x0 x1 x2 x3
    have Bd2 : Box W3.drew N A5 c5 A6 c6 D2 := ⟨B3'.blk, B3'.tx, B3'.wr, B3'.l1, B3'.l2, B3'.f1, B3'.f2⟩
    have x0 := Bd2.blk.cell 0
    have x1 := Bd2.blk.cell 1
    have x2 := Bd2.blk.cell 2
    have x3 := Bd2.blk.cell 3
    go_cut [5, 27, 28, 29, 30, 31, 32] (fun u _ _ _ _ _ _ wx => u = .int .i64 0 ∧ ∃ A c A' c', Box wx N A c A' c' D3 ∧ Below w.heap.size w wx)
    case first =>
      go_region_with (first
        | (go_at_call 39
           refine (hfy _).mono ?_
           rintro e wF ⟨rfl, hbF⟩
           have Bf := Bd2.below hbF
           have y0 := Bf.blk.cell 0
           have y1 := Bf.blk.cell 1
           have y2 := Bf.blk.cell 2
           have y3 := Bf.blk.cell 3
           skip)
        | (go_at_call 12
           refine (put_w _ D2 0 y _ Bf.is).mono ?_
           rw [← H3.out, L3.out]
           rintro e wP ⟨vP, rfl, ⟨A3, c3, A4, c4, rfl, t1, t2, l1, l2, f1, f2⟩, hbP⟩
           have Bp := Bf.below hbP
           have z0 := Bp.blk.cell 0
           have z1 := Bp.blk.cell 1
           have z2 := Bp.blk.cell 2
           have z3 := Bp.blk.cell 3
           have g0 := Bp.blk.free 0
           have g1 := Bp.blk.free 1
           have g2 := Bp.blk.free 2
           have g3 := Bp.blk.free 3
           skip))
      all_goals (
        go_wp2_with fail
        go_meet
        have hwP := (hw3'.drew.trans (hbF.mono (by have := hw3'.size; exact this))).trans (hbP.mono (by have h1 := hw3'.size; have h2 := hbF.size; exact Nat.le_trans h1 h2))
        have hbox := Box.set (d' := D3) (e1 := c3) (e2 := c4) Bp t1 t2 l1 l2 f1 f2
        have hbel := below4 hwP hN (.slice A3 D3.secs.length c3) (.slice A4 D3.pend.length c4) (.bool D3.off) (.int .i64 D3.fuse)
        exact ⟨rfl, _, _, _, _, hbox, hbel⟩)
    case rest =>
      obtain ⟨rfl, A7, c7, A8, c8, B4, hw4⟩ := hcut
      obtain ⟨W4, HW4⟩ := named wc
      rw [← HW4.out] at B4 hw4 ⊢
      clear HW4 Bd2 x0 x1 x2 x3 B3' hw3'
      have x0 := B4.blk.cell 0
      have x1 := B4.blk.cell 1
      have x2 := B4.blk.cell 2
      have x3 := B4.blk.cell 3
      go_wp2_with fail
      refine (read_w _ D3 0 _ B4.is).mono ?_
      rw [L4.out, K4.out]
      rintro e w5 ⟨rfl, hb5⟩
      have B5 := B4.below hb5
      have hw5 := bt hw4 hb5
      clear x0 x1 x2 x3 B4 hw4
      have x0 := B5.blk.cell 0
      have x1 := B5.blk.cell 1
      have x2 := B5.blk.cell 2
      have x3 := B5.blk.cell 3
      go_wp2_with fail
      refine (crash_w _ none 0 D3 [] _ B5.is (Lies.nil _ _ _)).mono ?_
      rw [← H5.out, L5.out]
      rintro e w6 ⟨v6, rfl, ⟨A9, c9, A10, c10, rfl, t1, t2, l1, l2, f1, f2⟩, hb6⟩
      have B6 := Box.new w6 ⟨A9, c9, A10, c10, rfl, t1, t2, l1, l2, f1, f2⟩
      have hw6 := (bt hw5 hb6).alloc (bt hw5 hb6).size (.cells #[.slice A9 D5.secs.length c9, .slice A10 D5.pend.length c10, .bool D5.off, .int .i64 D5.fuse] 25)
      clear x0 x1 x2 x3 B5 hw5 t1 t2 l1 l2 f1 f2
      have x0 := B6.blk.cell 0
      have x1 := B6.blk.cell 1
      have x2 := B6.blk.cell 2
      have x3 := B6.blk.cell 3
      go_wp2_with fail
      refine (read_w _ D5 0 _ B6.is).mono ?_
      rw [L6.out, K6.out]
      rintro e w7 ⟨rfl, hb7⟩
      have hw7 := bt hw6 hb7
      clear x0 x1 x2 x3 B6 hw6
      go_wp2_with fail
      refine (hfy _).mono ?_
      rintro e w8 ⟨rfl, hb8⟩
      have hw8 := bt hw7 hb8
      go_wp2_with fail
      refine (hfx _).mono ?_
      rintro e w9 ⟨rfl, hb9⟩
      have hw9 := bt hw8 hb9
      go_wp2
      go_ret
      exact ⟨by simp, hw9⟩
end Go.Proofs.Ytcnhdmchoiiceaa
