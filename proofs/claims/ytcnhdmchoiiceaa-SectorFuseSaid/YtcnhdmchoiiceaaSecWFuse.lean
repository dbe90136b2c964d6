/- The walk of SectorFuse. -/
import Derived.Test.YtcnhdmchoiiceaaLives
import Derived.Test.YtcnhdmchoiiceaaSecLaws2
import Derived.Test.YtcnhdmchoiiceaaOwnIs
namespace Go.Proofs.Ytcnhdmchoiiceaa
open Go.RowKit
theorem Box.setFuse {w : World} {N : Nat} {A1 A2 : Option Addr} {c1 c2 : Nat} {d : Dk} (h : Box w N A1 c1 A2 c2 d) (g : Int) (h1 : -9223372036854775808 ≤ g) (h2 : g ≤ 9223372036854775807) : Box (w.setCell ⟨N, 3, none⟩ (.int .i64 g)) N A1 c1 A2 c2 { d with fuse := g } :=
  ⟨h.blk.set 3 _, lies_off h.tx (p := ⟨N, 3, none⟩) (strs_off h.tx h.blk) _, lies_off h.wr (p := ⟨N, 3, none⟩) (wrs_off h.wr h.blk) _, h.l1, h.l2, h1, h2⟩
theorem new_one : newD 1 = ⟨[zero64], [], false, -1⟩ ∧ newE 1 = 0 := by simp [newD, newE]
set_option maxRecDepth 100000 in
set_option maxHeartbeats 8000000 in
theorem fuse_no (f : Nat) (many : Int) (data : ByteArray) (w : World) (hx : data.size ≠ 64) :
    Calls Try.prog 9 #[.int .u8 (f : Int), .int .i64 many, .string data] w fun e w' => e = .returned (.bool true) ∧ Below w.heap.size w w' := by
  have hz1 : ((data.size : Int) != 64) = true := by simp; omega
  obtain ⟨D1, H1⟩ := named (newD 1)
  have hw0 := Below.refl w.heap.size w
  go_enter Try.func9, Try.ntmps9
  go_wp2_with fail
  refine (lives_w _).mono ?_
  rintro e w1 ⟨rfl, hb1⟩
  have hw1 := bt hw0 hb1
  go_wp2_with fail
  refine (new_w 1 _ (by decide)).mono ?_
  rw [← H1.out, new_one.2]
  rintro e w2 ⟨v2, rfl, ⟨P2, p2, Q2, q2, rfl, t2, u2, l2, m2, f2, g2⟩, hb2⟩
  have Ba : Box (w2.alloc (.cells #[.slice P2 D1.secs.length p2, .slice Q2 D1.pend.length q2, .bool D1.off, .int .i64 D1.fuse] 25)) w2.heap.size P2 p2 Q2 q2 D1 := Box.new w2 ⟨P2, p2, Q2, q2, rfl, t2, u2, l2, m2, f2, g2⟩
  have hw2 := bt (bt hw1 hb2) (below_alloc w2 (.cells #[.slice P2 D1.secs.length p2, .slice Q2 D1.pend.length q2, .bool D1.off, .int .i64 D1.fuse] 25))
  clear t2 u2
  go_wp2
  go_ret
  exact ⟨by simp, hw2⟩
set_option maxRecDepth 100000 in
set_option maxHeartbeats 8000000 in
theorem fuse_yes (f : Nat) (many : Int) (data : ByteArray) (w : World) (hf : f < 256) (hn : -9223372036854775808 ≤ many ∧ many ≤ 9223372036854775807) (hx : data.size = 64) :
    Calls Try.prog 9 #[.int .u8 (f : Int), .int .i64 many, .string data] w fun e w' => e = .returned (.bool true) ∧ Below w.heap.size w w' := by
  obtain ⟨lo, hi⟩ := hn
  obtain ⟨D1, H1⟩ := named (newD 1)
  have K1 : Hid ({ D1 with fuse := (f : Int) } = fuseAt f data 0) := by show _ = _; rw [H1.out, new_one.1]; simp [fuseAt]
  have hw0 := Below.refl w.heap.size w
  go_enter Try.func9, Try.ntmps9
  go_wp2_with fail
  refine (lives_w _).mono ?_
  rintro e w1 ⟨rfl, hb1⟩
  have hw1 := bt hw0 hb1
  go_wp2_with fail
  refine (new_w 1 _ (by decide)).mono ?_
  rw [← H1.out, new_one.2]
  rintro e w2 ⟨v2, rfl, ⟨P2, p2, Q2, q2, rfl, t2, u2, l2, m2, f2, g2⟩, hb2⟩
  have Bx : Box (w2.alloc (.cells #[.slice P2 D1.secs.length p2, .slice Q2 D1.pend.length q2, .bool D1.off, .int .i64 D1.fuse] 25)) w2.heap.size P2 p2 Q2 q2 D1 := Box.new w2 ⟨P2, p2, Q2, q2, rfl, t2, u2, l2, m2, f2, g2⟩
  have hw2 := bt (bt hw1 hb2) (below_alloc w2 (.cells #[.slice P2 D1.secs.length p2, .slice Q2 D1.pend.length q2, .bool D1.off, .int .i64 D1.fuse] 25))
  have Bs : Box (w2.alloc (.cells #[.slice P2 D1.secs.length p2, .slice Q2 D1.pend.length q2, .bool D1.off, .int .i64 (f : Int)] 25)) w2.heap.size P2 p2 Q2 q2 { D1 with fuse := (f : Int) } := Box.new w2 (d := { D1 with fuse := (f : Int) }) ⟨P2, p2, Q2, q2, rfl, t2, u2, l2, m2, by simp only; omega, by simp only; omega⟩
  have hNw : w.heap.size ≤ w2.heap.size := Nat.le_trans hw1.size hb2.size
  have hws := bt (bt hw1 hb2) (below_alloc w2 (.cells #[.slice P2 D1.secs.length p2, .slice Q2 D1.pend.length q2, .bool D1.off, .int .i64 (f : Int)] 25))
  obtain ⟨Ws, HWs⟩ := named (w2.alloc (.cells #[.slice P2 D1.secs.length p2, .slice Q2 D1.pend.length q2, .bool D1.off, .int .i64 (f : Int)] 25))
  obtain ⟨N, HN⟩ := named w2.heap.size
  rw [K1.out] at Bs
  go_wp2
  rw [← HWs.out] at Bs hws ⊢
  simp only [← HN.out] at Bs hNw ⊢
  clear HWs HN Bx hw1 hw2 hb1 hb2 K1 H1 l2 m2 f2 g2 t2 u2
  go_loopw [9] (fun i wr => ∃ (k : Nat) (A : Option Addr) (c : Nat) (A' : Option Addr) (c' : Nat), k ≤ 300 ∧ i = .int .i64 k ∧ Box wr N A c A' c' (fuseAt f data k) ∧ Below w.heap.size w wr) (fun i _ => 300 - (intOf i).toNat)
  case atStart => exact ⟨0, _, _, _, _, by omega, rfl, Bs, hws⟩
  case round =>
    obtain ⟨k, A, c, A', c', hk1, rfl, Bx, hbw⟩ := hrel
    clear Bs hws
    have x0 := Bx.blk.cell 0
    have x1 := Bx.blk.cell 1
    have x2 := Bx.blk.cell 2
    have x3 := Bx.blk.cell 3
    by_cases hgo : (k : Int) < many ∧ k < 300
    · obtain ⟨hgo1, hgo2⟩ := hgo
      have hgo3 : (k : Int) < 300 := by omega
      obtain ⟨q1, q2, q3⟩ := fuse_put (k := k) hx hf hgo2
      obtain ⟨⟨S9, W9, o9, f9⟩, HD9⟩ : ∃ D, Hid (fuseAt f data (k + 1) = D) := ⟨_, rfl⟩
      rw [HD9.out] at q1 q3
      have Q1 := hide q1
      by_cases hkf : k < f
      · rw [if_pos hkf] at q2
        have Q2 := hide q2
        have hkf' : (k : Int) < (f : Int) := by omega
        clear q1 q2 q3
        go_wp2_with fail
        refine (put_w _ (fuseAt f data k) 0 data _ Bx.is).mono ?_
        rw [Q1.out, Q2.out]
        rintro e w4 ⟨v4, rfl, ⟨P4, p4, R4, r4, rfl, t4, u4, l4, m4, f4, g4⟩, hb4⟩
        simp only at t4 u4 l4 m4 f4 g4 ⊢
        have B4 : Box (w4.alloc (.cells #[.slice P4 S9.length p4, .slice R4 W9.length r4, .bool o9, .int .i64 f9] 25)) w4.heap.size P4 p4 R4 r4 ⟨S9, W9, o9, f9⟩ := Box.new w4 (d := ⟨S9, W9, o9, f9⟩) ⟨P4, p4, R4, r4, rfl, t4, u4, l4, m4, f4, g4⟩
        have By := (Bx.below hb4).alloc (.cells #[.slice P4 S9.length p4, .slice R4 W9.length r4, .bool o9, .int .i64 f9] 25)
        have hw4 := bt (bt hbw hb4) (below_alloc w4 (.cells #[.slice P4 S9.length p4, .slice R4 W9.length r4, .bool o9, .int .i64 f9] 25))
        have Bz : Box (set4 (w4.alloc (.cells #[.slice P4 S9.length p4, .slice R4 W9.length r4, .bool o9, .int .i64 f9] 25)) N (.slice P4 S9.length p4) (.slice R4 W9.length r4) (.bool o9) (.int .i64 f9)) N P4 p4 R4 r4 (fuseAt f data (k + 1)) := by
          rw [HD9.out]
          exact Box.set (d' := ⟨S9, W9, o9, f9⟩) (e1 := p4) (e2 := r4) By B4.tx B4.wr l4 m4 f4 g4
        have hwz := below4 hw4 hNw (.slice P4 S9.length p4) (.slice R4 W9.length r4) (.bool o9) (.int .i64 f9)
        clear t4 u4
        have y0 := B4.blk.cell 0
        have y1 := B4.blk.cell 1
        have y2 := B4.blk.cell 2
        have y3 := B4.blk.cell 3
        simp only at y0 y1 y2 y3
        have x0 := By.blk.cell 0
        have x1 := By.blk.cell 1
        have x2 := By.blk.cell 2
        have x3 := By.blk.cell 3
        have z0 := By.blk.free 0
        have z1 := By.blk.free 1
        have z2 := By.blk.free 2
        have z3 := By.blk.free 3
        go_wp2
        go_roundw
        case rel => exact ⟨k + 1, _, _, _, _, by omega, by go_num, Bz, hwz⟩
        case measure => simp [intOf]; omega
      · rw [if_neg hkf] at q2
        have Q2 := hide q2
        have hkf' : (f : Int) ≤ (k : Int) := by omega
        have hoff : o9 = true := q3 (by omega)
        clear q1 q2 q3
        subst hoff
        go_wp2_with fail
        refine (put_w _ (fuseAt f data k) 0 data _ Bx.is).mono ?_
        rw [Q1.out, Q2.out]
        rintro e w4 ⟨v4, rfl, ⟨P4, p4, R4, r4, rfl, t4, u4, l4, m4, f4, g4⟩, hb4⟩
        simp only at t4 u4 l4 m4 f4 g4 ⊢
        have B4 : Box (w4.alloc (.cells #[.slice P4 S9.length p4, .slice R4 W9.length r4, .bool true, .int .i64 f9] 25)) w4.heap.size P4 p4 R4 r4 ⟨S9, W9, true, f9⟩ := Box.new w4 (d := ⟨S9, W9, true, f9⟩) ⟨P4, p4, R4, r4, rfl, t4, u4, l4, m4, f4, g4⟩
        have By := (Bx.below hb4).alloc (.cells #[.slice P4 S9.length p4, .slice R4 W9.length r4, .bool true, .int .i64 f9] 25)
        have hw4 := bt (bt hbw hb4) (below_alloc w4 (.cells #[.slice P4 S9.length p4, .slice R4 W9.length r4, .bool true, .int .i64 f9] 25))
        have Bz : Box (set4 (w4.alloc (.cells #[.slice P4 S9.length p4, .slice R4 W9.length r4, .bool true, .int .i64 f9] 25)) N (.slice P4 S9.length p4) (.slice R4 W9.length r4) (.bool true) (.int .i64 f9)) N P4 p4 R4 r4 (fuseAt f data (k + 1)) := by
          rw [HD9.out]
          exact Box.set (d' := ⟨S9, W9, true, f9⟩) (e1 := p4) (e2 := r4) By B4.tx B4.wr l4 m4 f4 g4
        have hwz := below4 hw4 hNw (.slice P4 S9.length p4) (.slice R4 W9.length r4) (.bool true) (.int .i64 f9)
        clear t4 u4
        have y0 := B4.blk.cell 0
        have y1 := B4.blk.cell 1
        have y2 := B4.blk.cell 2
        have y3 := B4.blk.cell 3
        simp only at y0 y1 y2 y3
        have x0 := By.blk.cell 0
        have x1 := By.blk.cell 1
        have x2 := By.blk.cell 2
        have x3 := By.blk.cell 3
        have z0 := By.blk.free 0
        have z1 := By.blk.free 1
        have z2 := By.blk.free 2
        have z3 := By.blk.free 3
        go_wp2
        go_roundw
        case rel => exact ⟨k + 1, _, _, _, _, by omega, by go_num, Bz, hwz⟩
        case measure => simp [intOf]; omega
    · have hgo' : many ≤ (k : Int) ∨ ((k : Int) < many ∧ (300 : Int) ≤ (k : Int)) := by omega
      obtain ⟨q1, q2, q3, q4⟩ := fuse_crash (k := k) hx hf hk1
      have Q1 := hide q1
      obtain ⟨D3, H3⟩ := named (crashD (fuseAt f data k) [])
      rw [← H3.out] at q2 q3 q4
      have Q2 := hide q2
      have Q3 := hide q3
      have Q4 := hide q4
      clear q1 q2 q3 q4 hgo
      rcases hgo' with h' | ⟨h', h''⟩
      all_goals (
        go_wp2_with fail
        refine (crash_w _ none 0 (fuseAt f data k) [] _ Bx.is (Lies.nil _ _ _)).mono ?_
        rw [← H3.out, Q1.out]
        rintro e w4 ⟨v4, rfl, ⟨P4, p4, R4, r4, rfl, t4, u4, l4, m4, f4, g4⟩, hb4⟩
        have B4 := Box.new w4 ⟨P4, p4, R4, r4, rfl, t4, u4, l4, m4, f4, g4⟩
        have hw4 := bt (bt hbw hb4) (below_alloc w4 (.cells #[.slice P4 D3.secs.length p4, .slice R4 D3.pend.length r4, .bool D3.off, .int .i64 D3.fuse] 25))
        have y1 := B4.blk.cell 1
        have y2 := (B4.blk.cell 2).trans (show some (Value.bool D3.off) = some (Value.bool false) by rw [Q3.out])
        have y3 := (B4.blk.cell 3).trans (show some (Value.int .i64 D3.fuse) = some (Value.int .i64 (-1)) by rw [Q4.out])
        clear t4 u4
        go_wp2
        go_ret
        exact ⟨by simp [Q2.out], hw4⟩)
theorem sectorfuse_w (f : Nat) (many : Int) (data : ByteArray) (w : World) (hf : f < 256) (hn : -9223372036854775808 ≤ many ∧ many ≤ 9223372036854775807) :
    Calls Try.prog 9 #[.int .u8 (f : Int), .int .i64 many, .string data] w fun e w' => e = .returned (.bool true) ∧ Below w.heap.size w w' := by
  by_cases hx : data.size = 64
  · exact fuse_yes f many data w hf hn hx
  · exact fuse_no f many data w hx
end Go.Proofs.Ytcnhdmchoiiceaa
