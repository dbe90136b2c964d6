/- The walk of SectorTwice. -/
import Derived.Test.YtcnhdmchoiiceaaLives
import Derived.Test.YtcnhdmchoiiceaaRefSame
import Derived.Test.YtcnhdmchoiiceaaSecLaws
import Derived.Test.YtcnhdmchoiiceaaOwnIs
namespace Go.Proofs.Ytcnhdmchoiiceaa
open Go.RowKit
set_option maxRecDepth 100000 in
set_option maxHeartbeats 8000000 in
theorem twice_no (A1 A2 : Option Addr) (c1 c2 : Nat) (d : Dk) (Ak : Option Addr) (ck : Nat) (keep : List Bool) (Aj : Option Addr) (cj : Nat) (again : List Bool) (w : World) (h1 : Texts w A1 d.secs) (h2 : Writes w A2 d.pend) (hl1 : d.secs.length * 16 ≤ 140737488351232) (hl2 : d.pend.length * 24 ≤ 140737488351232) (hf1 : -9223372036854775808 ≤ d.fuse) (hf2 : d.fuse ≤ 9223372036854775807) (hk : Bools w Ak keep) (hr : right d = false) :
    Calls Try.prog 10 #[.agg #[.slice A1 d.secs.length c1, .slice A2 d.pend.length c2, .bool d.off, .int .i64 d.fuse], .slice Ak keep.length ck, .slice Aj again.length cj] w fun e w' => e = .returned (.bool true) ∧ Below w.heap.size w w' := by
  obtain ⟨D1, H1⟩ := named (crashD d keep)
  have L1 := hide (show checkE d = 13 by simp [checkE, hr])
  have K1 : Hid (D1 = dk0) := by show _ = _; rw [H1.out]; simp [crashD, hr]
  clear hr
  have Bd : Box (w.alloc (.cells #[.slice A1 d.secs.length c1, .slice A2 d.pend.length c2, .bool d.off, .int .i64 d.fuse] 25)) w.heap.size A1 c1 A2 c2 d := Box.new w ⟨A1, c1, A2, c2, rfl, h1, h2, by omega, by omega, hf1, hf2⟩
  have hw0 : Below w.heap.size w (w.alloc (.cells #[.slice A1 d.secs.length c1, .slice A2 d.pend.length c2, .bool d.off, .int .i64 d.fuse] 25)) := below_alloc _ _
  go_enter Try.func10, Try.ntmps10
  have Bdc0 := Bd.blk.cell 0
  have Bdc1 := Bd.blk.cell 1
  have Bdc2 := Bd.blk.cell 2
  have Bdc3 := Bd.blk.cell 3
  go_wp2_with fail
  refine (lives_w _).mono ?_
  rintro e w1 ⟨rfl, hb1⟩
  replace Bd := Bd.below hb1
  have hw1 := bt hw0 hb1
  clear Bdc0 Bdc1 Bdc2 Bdc3
  have Bdc0 := Bd.blk.cell 0
  have Bdc1 := Bd.blk.cell 1
  have Bdc2 := Bd.blk.cell 2
  have Bdc3 := Bd.blk.cell 3
  go_wp2_with fail
  refine (crash_w _ Ak ck d keep _ Bd.is (Lies.below hk hw1)).mono ?_
  rw [← H1.out, L1.out]
  rintro e w2 ⟨v2, rfl, ⟨P2, p2, Q2, q2, rfl, t2, u2, l2, m2, f2, g2⟩, hb2⟩
  replace Bd := Bd.below hb2
  replace Bd := Bd.alloc (.cells #[.slice P2 D1.secs.length p2, .slice Q2 D1.pend.length q2, .bool D1.off, .int .i64 D1.fuse] 25)
  have Ba : Box (w2.alloc (.cells #[.slice P2 D1.secs.length p2, .slice Q2 D1.pend.length q2, .bool D1.off, .int .i64 D1.fuse] 25)) w2.heap.size P2 p2 Q2 q2 D1 := Box.new w2 ⟨P2, p2, Q2, q2, rfl, t2, u2, l2, m2, f2, g2⟩
  have hw2 := bt (bt hw1 hb2) (below_alloc w2 (.cells #[.slice P2 D1.secs.length p2, .slice Q2 D1.pend.length q2, .bool D1.off, .int .i64 D1.fuse] 25))
  clear t2 u2
  clear Bdc0 Bdc1 Bdc2 Bdc3
  have Bac0 := Ba.blk.cell 0
  have Bac1 := Ba.blk.cell 1
  have Bac2 := Ba.blk.cell 2
  have Bac3 := Ba.blk.cell 3
  have e1 : (D1.secs.length : Int) = 0 := by rw [K1.out]; rfl
  go_wp2
  go_ret
  exact ⟨by simp [e1], hw2⟩
set_option maxRecDepth 100000 in
set_option maxHeartbeats 8000000 in
theorem twice_yes (A1 A2 : Option Addr) (c1 c2 : Nat) (d : Dk) (Ak : Option Addr) (ck : Nat) (keep : List Bool) (Aj : Option Addr) (cj : Nat) (again : List Bool) (w : World) (h1 : Texts w A1 d.secs) (h2 : Writes w A2 d.pend) (hl1 : d.secs.length * 16 ≤ 140737488351232) (hl2 : d.pend.length * 24 ≤ 140737488351232) (hf1 : -9223372036854775808 ≤ d.fuse) (hf2 : d.fuse ≤ 9223372036854775807) (hk : Bools w Ak keep) (hj : Bools w Aj again) (hr : right d = true) :
    Calls Try.prog 10 #[.agg #[.slice A1 d.secs.length c1, .slice A2 d.pend.length c2, .bool d.off, .int .i64 d.fuse], .slice Ak keep.length ck, .slice Aj again.length cj] w fun e w' => e = .returned (.bool true) ∧ Below w.heap.size w w' := by
  obtain ⟨D1, H1⟩ := named (crashD d keep)
  have L1 := hide (show checkE d = 0 by simp [checkE, hr])
  have L2 : Hid (crashD D1 again = D1) := by show _ = _; rw [H1.out]; exact crash_again hr
  have L3 : Hid (checkE D1 = 0) := by show _ = _; rw [H1.out]; simp [checkE, right_crash hr]
  have hS : d.secs.length ≤ 1024 := (right_iff.1 hr).1.2
  have hlen : D1.secs.length ≤ d.secs.length := by rw [H1.out, crashD, if_pos hr]; simp [stl_length]
  have hsame : Hid (∀ (_ : d.pend.length = 0) (k : Nat) (h1 : k < D1.secs.length) (h2 : k < d.secs.length), D1.secs[k] = d.secs[k]) := by
    intro h0 k h1 h2
    have e : D1.secs = d.secs := by
      rw [H1.out, crashD, if_pos hr]
      show stl _ 0 d.pend d.secs = d.secs
      rw [List.eq_nil_of_length_eq_zero h0]
      rfl
    simp [e]
  clear hr
  have Bd : Box (w.alloc (.cells #[.slice A1 d.secs.length c1, .slice A2 d.pend.length c2, .bool d.off, .int .i64 d.fuse] 25)) w.heap.size A1 c1 A2 c2 d := Box.new w ⟨A1, c1, A2, c2, rfl, h1, h2, by omega, by omega, hf1, hf2⟩
  have hw0 : Below w.heap.size w (w.alloc (.cells #[.slice A1 d.secs.length c1, .slice A2 d.pend.length c2, .bool d.off, .int .i64 d.fuse] 25)) := below_alloc _ _
  go_enter Try.func10, Try.ntmps10
  have Bdc0 := Bd.blk.cell 0
  have Bdc1 := Bd.blk.cell 1
  have Bdc2 := Bd.blk.cell 2
  have Bdc3 := Bd.blk.cell 3
  go_wp2_with fail
  refine (lives_w _).mono ?_
  rintro e w1 ⟨rfl, hb1⟩
  replace Bd := Bd.below hb1
  have hw1 := bt hw0 hb1
  clear Bdc0 Bdc1 Bdc2 Bdc3
  have Bdc0 := Bd.blk.cell 0
  have Bdc1 := Bd.blk.cell 1
  have Bdc2 := Bd.blk.cell 2
  have Bdc3 := Bd.blk.cell 3
  go_wp2_with fail
  refine (crash_w _ Ak ck d keep _ Bd.is (Lies.below hk hw1)).mono ?_
  rw [← H1.out, L1.out]
  rintro e w2 ⟨v2, rfl, ⟨P2, p2, Q2, q2, rfl, t2, u2, l2, m2, f2, g2⟩, hb2⟩
  replace Bd := Bd.below hb2
  replace Bd := Bd.alloc (.cells #[.slice P2 D1.secs.length p2, .slice Q2 D1.pend.length q2, .bool D1.off, .int .i64 D1.fuse] 25)
  have Ba : Box (w2.alloc (.cells #[.slice P2 D1.secs.length p2, .slice Q2 D1.pend.length q2, .bool D1.off, .int .i64 D1.fuse] 25)) w2.heap.size P2 p2 Q2 q2 D1 := Box.new w2 ⟨P2, p2, Q2, q2, rfl, t2, u2, l2, m2, f2, g2⟩
  have hw2 := bt (bt hw1 hb2) (below_alloc w2 (.cells #[.slice P2 D1.secs.length p2, .slice Q2 D1.pend.length q2, .bool D1.off, .int .i64 D1.fuse] 25))
  clear t2 u2
  clear Bdc0 Bdc1 Bdc2 Bdc3
  have Bac0 := Ba.blk.cell 0
  have Bac1 := Ba.blk.cell 1
  have Bac2 := Ba.blk.cell 2
  have Bac3 := Ba.blk.cell 3
  go_wp2_with fail
  refine (crash_w _ Aj cj D1 again _ Ba.is (Lies.below hj hw2)).mono ?_
  rw [L2.out, L3.out]
  rintro e w3 ⟨v3, rfl, ⟨P3, p3, Q3, q3, rfl, t3, u3, l3, m3, f3, g3⟩, hb3⟩
  replace Bd := Bd.below hb3
  replace Ba := Ba.below hb3
  replace Bd := Bd.alloc (.cells #[.slice P3 D1.secs.length p3, .slice Q3 D1.pend.length q3, .bool D1.off, .int .i64 D1.fuse] 25)
  replace Ba := Ba.alloc (.cells #[.slice P3 D1.secs.length p3, .slice Q3 D1.pend.length q3, .bool D1.off, .int .i64 D1.fuse] 25)
  have Bb : Box (w3.alloc (.cells #[.slice P3 D1.secs.length p3, .slice Q3 D1.pend.length q3, .bool D1.off, .int .i64 D1.fuse] 25)) w3.heap.size P3 p3 Q3 q3 D1 := Box.new w3 ⟨P3, p3, Q3, q3, rfl, t3, u3, l3, m3, f3, g3⟩
  have hw3 := bt (bt hw2 hb3) (below_alloc w3 (.cells #[.slice P3 D1.secs.length p3, .slice Q3 D1.pend.length q3, .bool D1.off, .int .i64 D1.fuse] 25))
  clear t3 u3
  clear Bac0 Bac1 Bac2 Bac3
  have Bac0 := Ba.blk.cell 0
  have Bac1 := Ba.blk.cell 1
  have Bac2 := Ba.blk.cell 2
  have Bac3 := Ba.blk.cell 3
  have Bdc0 := Bd.blk.cell 0
  have Bdc1 := Bd.blk.cell 1
  have Bdc2 := Bd.blk.cell 2
  have Bdc3 := Bd.blk.cell 3
  obtain ⟨W3, HW3⟩ := named (w3.alloc (.cells #[.slice P3 D1.secs.length p3, .slice Q3 D1.pend.length q3, .bool D1.off, .int .i64 D1.fuse] 25))
  obtain ⟨N, HN⟩ := named w2.heap.size
  obtain ⟨N3, HN3⟩ := named w3.heap.size
  go_wp2
  rw [← HW3.out] at Ba Bb Bd hw3 ⊢
  simp only [← HW3.out] at Bac0 Bac1 Bac2 Bac3 Bdc0 Bdc1 Bdc2 Bdc3
  simp only [← HN.out, ← HN3.out] at Ba Bb Bac0 Bac1 Bac2 Bac3 ⊢
  clear HW3 HN HN3
  go_loopw [35] (fun i wr => ∃ k : Nat, k ≤ D1.secs.length ∧ i = .int .i64 k ∧ ∃ m, wr = W3.drewN m) (fun i _ => D1.secs.length - (intOf i).toNat)
  case atStart => exact ⟨0, by omega, rfl, 0, rfl⟩
  case round =>
    obtain ⟨k, hk1, rfl, m, rfl⟩ := hrel
    by_cases hlt : k < D1.secs.length
    · have hlt2 : k < d.secs.length := by omega
      by_cases h0 : d.pend.length = 0
      · have he := hsame.out h0 k hlt hlt2
        obtain ⟨b1, o1, rfl, hc1⟩ := Ba.tx.at_ hlt
        obtain ⟨b2, o2, rfl, hc2⟩ := Bd.tx.at_ hlt2
        rw [he] at hc1
        have hd1 : decide ((d.pend.length : Int) = 0) = true := by rw [h0]; rfl
        have hd2 : ((d.pend.length : Int) == 0) = true := by rw [h0]; rfl
        have hi0 : (0 : Int) ≤ (k : Int) := by omega
        have hi1 : (k : Int) < (D1.secs.length : Int) := by omega
        have hi2 : (k : Int) < (d.secs.length : Int) := by omega
        clear he h0
        go_wp2_with fail
        go_quiet (fail)
        go_wp2
        go_roundw
        case rel => exact ⟨k + 1, by omega, by go_num, _, rfl⟩
        case measure => simp [intOf]; omega
      · have h0' : ((d.pend.length : Int) == 0) = false := by simp; intro h; exact h0 (by rw [h]; rfl)
        have hd1 : decide ((d.pend.length : Int) = 0) = false := by simp; intro h; exact h0 (by rw [h]; rfl)
        clear h0
        go_wp2_with (go_quiet (fail))
        go_roundw
        case rel => exact ⟨k + 1, by omega, by go_num, _, rfl⟩
        case measure => simp [intOf]; omega
    · have hke : k = D1.secs.length := by omega
      subst hke
      have hwm := below_drewN hw3 m
      have Ba' : Box (W3.drewN m) N P2 p2 Q2 q2 D1 := ⟨Ba.blk, Ba.tx, Ba.wr, Ba.l1, Ba.l2, Ba.f1, Ba.f2⟩
      have Bb' : Box (W3.drewN m) N3 P3 p3 Q3 q3 D1 := ⟨Bb.blk, Bb.tx, Bb.wr, Bb.l1, Bb.l2, Bb.f1, Bb.f2⟩
      have x0 := Ba'.blk.cell 0
      have x1 := Ba'.blk.cell 1
      have x2 := Ba'.blk.cell 2
      have x3 := Ba'.blk.cell 3
      have z0 := Bb'.blk.cell 0
      have z1 := Bb'.blk.cell 1
      have z2 := Bb'.blk.cell 2
      have z3 := Bb'.blk.cell 3
      go_wp2_with fail
      refine (refSame_w _ _ D1 _ Ba'.is Bb'.is).mono ?_
      rintro e w4 ⟨rfl, hb4⟩
      have hw4 := bt hwm hb4
      go_wp2
      go_ret
      exact ⟨by simp, hw4⟩
theorem sectortwice_w (A1 A2 : Option Addr) (c1 c2 : Nat) (d : Dk) (Ak : Option Addr) (ck : Nat) (keep : List Bool) (Aj : Option Addr) (cj : Nat) (again : List Bool) (w : World) (h1 : Texts w A1 d.secs) (h2 : Writes w A2 d.pend) (hl1 : d.secs.length * 16 ≤ 140737488351232) (hl2 : d.pend.length * 24 ≤ 140737488351232) (hf1 : -9223372036854775808 ≤ d.fuse) (hf2 : d.fuse ≤ 9223372036854775807) (hk : Bools w Ak keep) (hj : Bools w Aj again) :
    Calls Try.prog 10 #[.agg #[.slice A1 d.secs.length c1, .slice A2 d.pend.length c2, .bool d.off, .int .i64 d.fuse], .slice Ak keep.length ck, .slice Aj again.length cj] w fun e w' => e = .returned (.bool true) ∧ Below w.heap.size w w' := by
  cases hr : right d
  · exact twice_no A1 A2 c1 c2 d Ak ck keep Aj cj again w h1 h2 hl1 hl2 hf1 hf2 hk hr
  · exact twice_yes A1 A2 c1 c2 d Ak ck keep Aj cj again w h1 h2 hl1 hl2 hf1 hf2 hk hj hr
end Go.Proofs.Ytcnhdmchoiiceaa
