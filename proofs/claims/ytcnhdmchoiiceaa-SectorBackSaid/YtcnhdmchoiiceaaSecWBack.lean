/- The walk of SectorBack. -/
import Derived.Test.YtcnhdmchoiiceaaLives
import Derived.Test.YtcnhdmchoiiceaaRefSame
import Derived.Test.YtcnhdmchoiiceaaSecLaws2
import Derived.Test.YtcnhdmchoiiceaaOwnIs
namespace Go.Proofs.Ytcnhdmchoiiceaa
open Go.RowKit
set_option maxRecDepth 100000 in
set_option maxHeartbeats 8000000 in
theorem back_power (A1 A2 : Option Addr) (c1 c2 : Nat) (d : Dk) (n other : Int) (data : ByteArray) (Ak : Option Addr) (ck : Nat) (keep : List Bool) (w : World) (h1 : Texts w A1 d.secs) (h2 : Writes w A2 d.pend) (hl1 : d.secs.length * 16 ≤ 140737488351232) (hl2 : d.pend.length * 24 ≤ 140737488351232) (hf1 : -9223372036854775808 ≤ d.fuse) (hf2 : d.fuse ≤ 9223372036854775807) (hE : putE d n data = 15) :
    Calls Try.prog 8 #[.agg #[.slice A1 d.secs.length c1, .slice A2 d.pend.length c2, .bool d.off, .int .i64 d.fuse], .int .i64 n, .int .i64 other, .string data, .slice Ak keep.length ck] w fun e w' => e = .returned (.bool true) ∧ Below w.heap.size w w' := by
  have L1 := hide hE
  obtain ⟨D1, H1⟩ := named (putD d n data)
  clear hE
  have Bd : Box (w.alloc (.cells #[.slice A1 d.secs.length c1, .slice A2 d.pend.length c2, .bool d.off, .int .i64 d.fuse] 25)) w.heap.size A1 c1 A2 c2 d := Box.new w ⟨A1, c1, A2, c2, rfl, h1, h2, by omega, by omega, hf1, hf2⟩
  have hw0 : Below w.heap.size w (w.alloc (.cells #[.slice A1 d.secs.length c1, .slice A2 d.pend.length c2, .bool d.off, .int .i64 d.fuse] 25)) := below_alloc _ _
  go_enter Try.func8, Try.ntmps8
  have Bdc0 := Bd.blk.cell 0
  have Bdc1 := Bd.blk.cell 1
  have Bdc2 := Bd.blk.cell 2
  have Bdc3 := Bd.blk.cell 3
  go_wp2_with fail
  refine (lives_w _).mono ?_
  rintro e w1 ⟨rfl, hb1⟩
  replace Bd := Bd.below hb1
  have hw1 := bt hw0 hb1
  clear Bdc0 Bdc1 Bdc2 Bdc3
  have Bdc0 := Bd.blk.cell 0
  have Bdc1 := Bd.blk.cell 1
  have Bdc2 := Bd.blk.cell 2
  have Bdc3 := Bd.blk.cell 3
  go_wp2_with fail
  refine (put_w _ d n data _ Bd.is).mono ?_
  rw [← H1.out, L1.out]
  rintro e w2 ⟨v2, rfl, ⟨P2, p2, Q2, q2, rfl, t2, u2, l2, m2, f2, g2⟩, hb2⟩
  replace Bd := Bd.below hb2
  replace Bd := Bd.alloc (.cells #[.slice P2 D1.secs.length p2, .slice Q2 D1.pend.length q2, .bool D1.off, .int .i64 D1.fuse] 25)
  have Ba : Box (w2.alloc (.cells #[.slice P2 D1.secs.length p2, .slice Q2 D1.pend.length q2, .bool D1.off, .int .i64 D1.fuse] 25)) w2.heap.size P2 p2 Q2 q2 D1 := Box.new w2 ⟨P2, p2, Q2, q2, rfl, t2, u2, l2, m2, f2, g2⟩
  have hw2 := bt (bt hw1 hb2) (below_alloc w2 (.cells #[.slice P2 D1.secs.length p2, .slice Q2 D1.pend.length q2, .bool D1.off, .int .i64 D1.fuse] 25))
  clear t2 u2
  clear Bdc0 Bdc1 Bdc2 Bdc3
  go_wp2
  go_ret
  exact ⟨by simp, hw2⟩
set_option maxRecDepth 100000 in
set_option maxHeartbeats 8000000 in
theorem back_no (A1 A2 : Option Addr) (c1 c2 : Nat) (d : Dk) (n other : Int) (data : ByteArray) (Ak : Option Addr) (ck : Nat) (keep : List Bool) (w : World) (h1 : Texts w A1 d.secs) (h2 : Writes w A2 d.pend) (hl1 : d.secs.length * 16 ≤ 140737488351232) (hl2 : d.pend.length * 24 ≤ 140737488351232) (hf1 : -9223372036854775808 ≤ d.fuse) (hf2 : d.fuse ≤ 9223372036854775807) (hE : putE d n data = 13) (hD : putD d n data = dk0) :
    Calls Try.prog 8 #[.agg #[.slice A1 d.secs.length c1, .slice A2 d.pend.length c2, .bool d.off, .int .i64 d.fuse], .int .i64 n, .int .i64 other, .string data, .slice Ak keep.length ck] w fun e w' => e = .returned (.bool true) ∧ Below w.heap.size w w' := by
  have L1 := hide hE
  obtain ⟨D1, H1⟩ := named (putD d n data)
  have K1 : Hid (D1 = dk0) := H1.out.trans hD
  clear hE hD
  have Bd : Box (w.alloc (.cells #[.slice A1 d.secs.length c1, .slice A2 d.pend.length c2, .bool d.off, .int .i64 d.fuse] 25)) w.heap.size A1 c1 A2 c2 d := Box.new w ⟨A1, c1, A2, c2, rfl, h1, h2, by omega, by omega, hf1, hf2⟩
  have hw0 : Below w.heap.size w (w.alloc (.cells #[.slice A1 d.secs.length c1, .slice A2 d.pend.length c2, .bool d.off, .int .i64 d.fuse] 25)) := below_alloc _ _
  go_enter Try.func8, Try.ntmps8
  have Bdc0 := Bd.blk.cell 0
  have Bdc1 := Bd.blk.cell 1
  have Bdc2 := Bd.blk.cell 2
  have Bdc3 := Bd.blk.cell 3
  go_wp2_with fail
  refine (lives_w _).mono ?_
  rintro e w1 ⟨rfl, hb1⟩
  replace Bd := Bd.below hb1
  have hw1 := bt hw0 hb1
  clear Bdc0 Bdc1 Bdc2 Bdc3
  have Bdc0 := Bd.blk.cell 0
  have Bdc1 := Bd.blk.cell 1
  have Bdc2 := Bd.blk.cell 2
  have Bdc3 := Bd.blk.cell 3
  go_wp2_with fail
  refine (put_w _ d n data _ Bd.is).mono ?_
  rw [← H1.out, L1.out]
  rintro e w2 ⟨v2, rfl, ⟨P2, p2, Q2, q2, rfl, t2, u2, l2, m2, f2, g2⟩, hb2⟩
  replace Bd := Bd.below hb2
  replace Bd := Bd.alloc (.cells #[.slice P2 D1.secs.length p2, .slice Q2 D1.pend.length q2, .bool D1.off, .int .i64 D1.fuse] 25)
  have Ba : Box (w2.alloc (.cells #[.slice P2 D1.secs.length p2, .slice Q2 D1.pend.length q2, .bool D1.off, .int .i64 D1.fuse] 25)) w2.heap.size P2 p2 Q2 q2 D1 := Box.new w2 ⟨P2, p2, Q2, q2, rfl, t2, u2, l2, m2, f2, g2⟩
  have hw2 := bt (bt hw1 hb2) (below_alloc w2 (.cells #[.slice P2 D1.secs.length p2, .slice Q2 D1.pend.length q2, .bool D1.off, .int .i64 D1.fuse] 25))
  clear t2 u2
  clear Bdc0 Bdc1 Bdc2 Bdc3
  have Bac0 := Ba.blk.cell 0
  have Bac1 := Ba.blk.cell 1
  have Bac2 := Ba.blk.cell 2
  have Bac3 := Ba.blk.cell 3
  go_wp2_with fail
  refine (refSame_w _ _ D1 _ Ba.is (by rw [K1.out]; exact DkIs.zero _)).mono ?_
  rintro e w3 ⟨rfl, hb3⟩
  replace Bd := Bd.below hb3
  replace Ba := Ba.below hb3
  have hw3 := bt hw2 hb3
  clear Bac0 Bac1 Bac2 Bac3
  go_wp2
  go_ret
  exact ⟨by simp, hw3⟩
set_option maxRecDepth 100000 in
set_option maxHeartbeats 8000000 in
theorem back_refused (A1 A2 : Option Addr) (c1 c2 : Nat) (d : Dk) (n other : Int) (data : ByteArray) (Ak : Option Addr) (ck : Nat) (keep : List Bool) (w : World) (h1 : Texts w A1 d.secs) (h2 : Writes w A2 d.pend) (hl1 : d.secs.length * 16 ≤ 140737488351232) (hl2 : d.pend.length * 24 ≤ 140737488351232) (hf1 : -9223372036854775808 ≤ d.fuse) (hf2 : d.fuse ≤ 9223372036854775807) (E : Int) (he : E = 1 ∨ E = 2 ∨ E = 3) (hE : putE d n data = E) (hD : putD d n data = d) :
    Calls Try.prog 8 #[.agg #[.slice A1 d.secs.length c1, .slice A2 d.pend.length c2, .bool d.off, .int .i64 d.fuse], .int .i64 n, .int .i64 other, .string data, .slice Ak keep.length ck] w fun e w' => e = .returned (.bool true) ∧ Below w.heap.size w w' := by
  have L1 := hide hE
  have H1 := hide hD
  clear hE hD
  have Bd : Box (w.alloc (.cells #[.slice A1 d.secs.length c1, .slice A2 d.pend.length c2, .bool d.off, .int .i64 d.fuse] 25)) w.heap.size A1 c1 A2 c2 d := Box.new w ⟨A1, c1, A2, c2, rfl, h1, h2, by omega, by omega, hf1, hf2⟩
  have hw0 : Below w.heap.size w (w.alloc (.cells #[.slice A1 d.secs.length c1, .slice A2 d.pend.length c2, .bool d.off, .int .i64 d.fuse] 25)) := below_alloc _ _
  go_enter Try.func8, Try.ntmps8
  have Bdc0 := Bd.blk.cell 0
  have Bdc1 := Bd.blk.cell 1
  have Bdc2 := Bd.blk.cell 2
  have Bdc3 := Bd.blk.cell 3
  go_wp2_with fail
  refine (lives_w _).mono ?_
  rintro e w1 ⟨rfl, hb1⟩
  replace Bd := Bd.below hb1
  have hw1 := bt hw0 hb1
  clear Bdc0 Bdc1 Bdc2 Bdc3
  have Bdc0 := Bd.blk.cell 0
  have Bdc1 := Bd.blk.cell 1
  have Bdc2 := Bd.blk.cell 2
  have Bdc3 := Bd.blk.cell 3
  go_wp2_with fail
  refine (put_w _ d n data _ Bd.is).mono ?_
  rw [H1.out, L1.out]
  rintro e w2 ⟨v2, rfl, ⟨P2, p2, Q2, q2, rfl, t2, u2, l2, m2, f2, g2⟩, hb2⟩
  replace Bd := Bd.below hb2
  replace Bd := Bd.alloc (.cells #[.slice P2 d.secs.length p2, .slice Q2 d.pend.length q2, .bool d.off, .int .i64 d.fuse] 25)
  have Ba : Box (w2.alloc (.cells #[.slice P2 d.secs.length p2, .slice Q2 d.pend.length q2, .bool d.off, .int .i64 d.fuse] 25)) w2.heap.size P2 p2 Q2 q2 d := Box.new w2 ⟨P2, p2, Q2, q2, rfl, t2, u2, l2, m2, f2, g2⟩
  have hw2 := bt (bt hw1 hb2) (below_alloc w2 (.cells #[.slice P2 d.secs.length p2, .slice Q2 d.pend.length q2, .bool d.off, .int .i64 d.fuse] 25))
  clear t2 u2
  rcases he with rfl | rfl | rfl
  all_goals (
    have Bac0 := Ba.blk.cell 0
    have Bac1 := Ba.blk.cell 1
    have Bac2 := Ba.blk.cell 2
    have Bac3 := Ba.blk.cell 3
    have Bdc0 := Bd.blk.cell 0
    have Bdc1 := Bd.blk.cell 1
    have Bdc2 := Bd.blk.cell 2
    have Bdc3 := Bd.blk.cell 3
    go_wp2_with fail
    refine (refSame_w _ _ d _ Ba.is Bd.is).mono ?_
    rintro e w3 ⟨rfl, hb3⟩
    replace Bd := Bd.below hb3
    replace Ba := Ba.below hb3
    have hw3 := bt hw2 hb3
    clear Bac0 Bac1 Bac2 Bac3 Bdc0 Bdc1 Bdc2 Bdc3
    go_wp2
    go_ret
    exact ⟨by simp, hw3⟩)
set_option maxRecDepth 100000 in
set_option maxHeartbeats 8000000 in
theorem back_ok (A1 A2 : Option Addr) (c1 c2 : Nat) (d : Dk) (m : Nat) (other : Int) (data : ByteArray) (Ak : Option Addr) (ck : Nat) (keep : List Bool) (w : World) (h1 : Texts w A1 d.secs) (h2 : Writes w A2 d.pend) (hl1 : d.secs.length * 16 ≤ 140737488351232) (hl2 : d.pend.length * 24 ≤ 140737488351232) (hf1 : -9223372036854775808 ≤ d.fuse) (hf2 : d.fuse ≤ 9223372036854775807) (hk : Bools w Ak keep) (hE : putE d m data = 0) (hr : right d = true) (hoff : d.off = false) (hm : m < d.secs.length) (hD : putD d m data = ⟨d.secs, d.pend ++ [⟨m, data⟩], false, fuse1 d.fuse⟩) (hr1 : right (putD d m data) = true) :
    Calls Try.prog 8 #[.agg #[.slice A1 d.secs.length c1, .slice A2 d.pend.length c2, .bool d.off, .int .i64 d.fuse], .int .i64 (m : Int), .int .i64 other, .string data, .slice Ak keep.length ck] w fun e w' => e = .returned (.bool true) ∧ Below w.heap.size w w' := by
  obtain ⟨D1, H1⟩ := named (putD d m data)
  have L1 := hide hE
  have K1 : Hid (D1 = ⟨d.secs, d.pend ++ [⟨m, data⟩], false, fuse1 d.fuse⟩) := H1.out.trans hD
  have hd : d = ⟨d.secs, d.pend, false, d.fuse⟩ := by rw [← hoff]
  have hr' : right ⟨d.secs, d.pend, false, d.fuse⟩ = true := by rw [← hd]; exact hr
  have hr2 : right ⟨d.secs, d.pend ++ [⟨m, data⟩], false, fuse1 d.fuse⟩ = true := by rw [← hD]; exact hr1
  have R1 : Hid (readE D1 m = 0) := by show _ = _; rw [K1.out]; exact (read_put hr2 hm).1
  have S1 : Hid (readS D1 m = data) := by show _ = _; rw [K1.out]; exact (read_put hr2 hm).2
  obtain ⟨r, Hr⟩ := named (readE d other)
  have R2 : Hid (readE D1 other = r) := by show _ = _; rw [Hr.out, K1.out, hd]; exact (readE_same hr' hr2).symm
  obtain ⟨x, Hx⟩ := named (readS d other)
  obtain ⟨y, Hy⟩ := named (readS D1 other)
  have Hxy : Hid (other ≠ m → y = x) := by
    intro h
    rw [Hx.out, Hy.out, K1.out, hd]
    exact (read_other hr' hr2 h).symm
  obtain ⟨D2, H2⟩ := named (syncD D1)
  have hcase : Hid ((syncE D1 = 15 ∧ D2.off = true) ∨ (syncE D1 = 0 ∧ D2.pend.length = 0 ∧ checkE D2 = 0 ∧ readE (crashD D2 keep) m = 0 ∧ readS (crashD D2 keep) m = data)) := by
    rcases sync_cases hr2 with ⟨a, b⟩ | ⟨a, b, c⟩
    · exact .inl ⟨by rw [K1.out]; exact a, by rw [H2.out, K1.out]; exact b⟩
    · have c' := c
      rw [b] at c'
      obtain ⟨p, q⟩ := crash_synced (keep := keep) hr2 c' hm
      refine .inr ⟨by rw [K1.out]; exact a, ?_, ?_, ?_, ?_⟩
      · rw [H2.out, K1.out, b]; rfl
      · rw [H2.out, K1.out]; simp [checkE, c]
      · rw [H2.out, K1.out, b]; exact p
      · rw [H2.out, K1.out, b]; exact q
  obtain ⟨D3, H3⟩ := named (crashD D2 keep)
  rw [← H3.out] at hcase
  clear hE hr hoff hD hr1 hd hr' hr2 K1
  have Bd : Box (w.alloc (.cells #[.slice A1 d.secs.length c1, .slice A2 d.pend.length c2, .bool d.off, .int .i64 d.fuse] 25)) w.heap.size A1 c1 A2 c2 d := Box.new w ⟨A1, c1, A2, c2, rfl, h1, h2, by omega, by omega, hf1, hf2⟩
  have hw0 : Below w.heap.size w (w.alloc (.cells #[.slice A1 d.secs.length c1, .slice A2 d.pend.length c2, .bool d.off, .int .i64 d.fuse] 25)) := below_alloc _ _
  go_enter Try.func8, Try.ntmps8
  have Bdc0 := Bd.blk.cell 0
  have Bdc1 := Bd.blk.cell 1
  have Bdc2 := Bd.blk.cell 2
  have Bdc3 := Bd.blk.cell 3
  go_wp2_with fail
  refine (lives_w _).mono ?_
  rintro e w1 ⟨rfl, hb1⟩
  replace Bd := Bd.below hb1
  have hw1 := bt hw0 hb1
  clear Bdc0 Bdc1 Bdc2 Bdc3
  have Bdc0 := Bd.blk.cell 0
  have Bdc1 := Bd.blk.cell 1
  have Bdc2 := Bd.blk.cell 2
  have Bdc3 := Bd.blk.cell 3
  go_wp2_with fail
  refine (put_w _ d m data _ Bd.is).mono ?_
  rw [← H1.out, L1.out]
  rintro e w2 ⟨v2, rfl, ⟨P2, p2, Q2, q2, rfl, t2, u2, l2, m2, f2, g2⟩, hb2⟩
  replace Bd := Bd.below hb2
  replace Bd := Bd.alloc (.cells #[.slice P2 D1.secs.length p2, .slice Q2 D1.pend.length q2, .bool D1.off, .int .i64 D1.fuse] 25)
  have Ba : Box (w2.alloc (.cells #[.slice P2 D1.secs.length p2, .slice Q2 D1.pend.length q2, .bool D1.off, .int .i64 D1.fuse] 25)) w2.heap.size P2 p2 Q2 q2 D1 := Box.new w2 ⟨P2, p2, Q2, q2, rfl, t2, u2, l2, m2, f2, g2⟩
  have hw2 := bt (bt hw1 hb2) (below_alloc w2 (.cells #[.slice P2 D1.secs.length p2, .slice Q2 D1.pend.length q2, .bool D1.off, .int .i64 D1.fuse] 25))
  clear t2 u2
  clear Bdc0 Bdc1 Bdc2 Bdc3
  have Bac0 := Ba.blk.cell 0
  have Bac1 := Ba.blk.cell 1
  have Bac2 := Ba.blk.cell 2
  have Bac3 := Ba.blk.cell 3
  go_wp2_with fail
  refine (read_w _ D1 m _ Ba.is).mono ?_
  rw [R1.out, S1.out]
  rintro e w3 ⟨rfl, hb3⟩
  replace Bd := Bd.below hb3
  replace Ba := Ba.below hb3
  have hw3 := bt hw2 hb3
  clear Bac0 Bac1 Bac2 Bac3
  have Bdc0 := Bd.blk.cell 0
  have Bdc1 := Bd.blk.cell 1
  have Bdc2 := Bd.blk.cell 2
  have Bdc3 := Bd.blk.cell 3
  go_wp2_with fail
  refine (read_w _ d other _ Bd.is).mono ?_
  rw [← Hr.out, ← Hx.out]
  rintro e w4 ⟨rfl, hb4⟩
  replace Bd := Bd.below hb4
  replace Ba := Ba.below hb4
  have hw4 := bt hw3 hb4
  clear Bdc0 Bdc1 Bdc2 Bdc3
  have Bac0 := Ba.blk.cell 0
  have Bac1 := Ba.blk.cell 1
  have Bac2 := Ba.blk.cell 2
  have Bac3 := Ba.blk.cell 3
  go_wp2_with fail
  refine (read_w _ D1 other _ Ba.is).mono ?_
  rw [R2.out, ← Hy.out]
  rintro e w5 ⟨rfl, hb5⟩
  replace Bd := Bd.below hb5
  replace Ba := Ba.below hb5
  have hw5 := bt hw4 hb5
  clear Bac0 Bac1 Bac2 Bac3
  by_cases ho : other = m
  · subst ho
    rcases hcase.out with ⟨hs15, hoff2⟩ | ⟨hs0, hp, hc0, hr0, hx0⟩
    · have hoff3 := hide hoff2
      clear hoff2
      have Bac0 := Ba.blk.cell 0
      have Bac1 := Ba.blk.cell 1
      have Bac2 := Ba.blk.cell 2
      have Bac3 := Ba.blk.cell 3
      go_wp2_with fail
      refine (sync_w _ D1 _ Ba.is).mono ?_
      rw [← H2.out, hs15]
      rintro e w6 ⟨v6, rfl, ⟨P6, p6, Q6, q6, rfl, t6, u6, l6, m6, f6, g6⟩, hb6⟩
      replace Bd := Bd.below hb6
      replace Ba := Ba.below hb6
      replace Bd := Bd.alloc (.cells #[.slice P6 D2.secs.length p6, .slice Q6 D2.pend.length q6, .bool D2.off, .int .i64 D2.fuse] 25)
      replace Ba := Ba.alloc (.cells #[.slice P6 D2.secs.length p6, .slice Q6 D2.pend.length q6, .bool D2.off, .int .i64 D2.fuse] 25)
      have Bb : Box (w6.alloc (.cells #[.slice P6 D2.secs.length p6, .slice Q6 D2.pend.length q6, .bool D2.off, .int .i64 D2.fuse] 25)) w6.heap.size P6 p6 Q6 q6 D2 := Box.new w6 ⟨P6, p6, Q6, q6, rfl, t6, u6, l6, m6, f6, g6⟩
      have hw6 := bt (bt hw5 hb6) (below_alloc w6 (.cells #[.slice P6 D2.secs.length p6, .slice Q6 D2.pend.length q6, .bool D2.off, .int .i64 D2.fuse] 25))
      clear t6 u6
      clear Bac0 Bac1 Bac2 Bac3
      have y2 := (Bb.blk.cell 2).trans (show some (Value.bool D2.off) = some (Value.bool true) by rw [hoff3.out])
      go_wp2
      go_ret
      exact ⟨by simp, hw6⟩
    · have hp9 := hide hp
      clear hp
      have Bac0 := Ba.blk.cell 0
      have Bac1 := Ba.blk.cell 1
      have Bac2 := Ba.blk.cell 2
      have Bac3 := Ba.blk.cell 3
      go_wp2_with fail
      refine (sync_w _ D1 _ Ba.is).mono ?_
      rw [← H2.out, hs0]
      rintro e w6 ⟨v6, rfl, ⟨P6, p6, Q6, q6, rfl, t6, u6, l6, m6, f6, g6⟩, hb6⟩
      replace Bd := Bd.below hb6
      replace Ba := Ba.below hb6
      replace Bd := Bd.alloc (.cells #[.slice P6 D2.secs.length p6, .slice Q6 D2.pend.length q6, .bool D2.off, .int .i64 D2.fuse] 25)
      replace Ba := Ba.alloc (.cells #[.slice P6 D2.secs.length p6, .slice Q6 D2.pend.length q6, .bool D2.off, .int .i64 D2.fuse] 25)
      have Bb : Box (w6.alloc (.cells #[.slice P6 D2.secs.length p6, .slice Q6 D2.pend.length q6, .bool D2.off, .int .i64 D2.fuse] 25)) w6.heap.size P6 p6 Q6 q6 D2 := Box.new w6 ⟨P6, p6, Q6, q6, rfl, t6, u6, l6, m6, f6, g6⟩
      have hw6 := bt (bt hw5 hb6) (below_alloc w6 (.cells #[.slice P6 D2.secs.length p6, .slice Q6 D2.pend.length q6, .bool D2.off, .int .i64 D2.fuse] 25))
      clear t6 u6
      clear Bac0 Bac1 Bac2 Bac3
      have Bbc0 := Bb.blk.cell 0
      have Bbc1 := Bb.blk.cell 1
      have Bbc2 := Bb.blk.cell 2
      have Bbc3 := Bb.blk.cell 3
      go_wp2_with fail
      refine (crash_w _ Ak ck D2 keep _ Bb.is (Lies.below hk hw6)).mono ?_
      rw [← H3.out, hc0]
      rintro e w7 ⟨v7, rfl, ⟨P7, p7, Q7, q7, rfl, t7, u7, l7, m7, f7, g7⟩, hb7⟩
      replace Bd := Bd.below hb7
      replace Ba := Ba.below hb7
      replace Bb := Bb.below hb7
      replace Bd := Bd.alloc (.cells #[.slice P7 D3.secs.length p7, .slice Q7 D3.pend.length q7, .bool D3.off, .int .i64 D3.fuse] 25)
      replace Ba := Ba.alloc (.cells #[.slice P7 D3.secs.length p7, .slice Q7 D3.pend.length q7, .bool D3.off, .int .i64 D3.fuse] 25)
      replace Bb := Bb.alloc (.cells #[.slice P7 D3.secs.length p7, .slice Q7 D3.pend.length q7, .bool D3.off, .int .i64 D3.fuse] 25)
      have Bc : Box (w7.alloc (.cells #[.slice P7 D3.secs.length p7, .slice Q7 D3.pend.length q7, .bool D3.off, .int .i64 D3.fuse] 25)) w7.heap.size P7 p7 Q7 q7 D3 := Box.new w7 ⟨P7, p7, Q7, q7, rfl, t7, u7, l7, m7, f7, g7⟩
      have hw7 := bt (bt hw6 hb7) (below_alloc w7 (.cells #[.slice P7 D3.secs.length p7, .slice Q7 D3.pend.length q7, .bool D3.off, .int .i64 D3.fuse] 25))
      clear t7 u7
      clear Bbc0 Bbc1 Bbc2 Bbc3
      have Bcc0 := Bc.blk.cell 0
      have Bcc1 := Bc.blk.cell 1
      have Bcc2 := Bc.blk.cell 2
      have Bcc3 := Bc.blk.cell 3
      go_wp2_with fail
      refine (read_w _ D3 m _ Bc.is).mono ?_
      rw [hr0, hx0]
      rintro e w8 ⟨rfl, hb8⟩
      replace Bd := Bd.below hb8
      replace Ba := Ba.below hb8
      replace Bb := Bb.below hb8
      replace Bc := Bc.below hb8
      have hw8 := bt hw7 hb8
      clear Bcc0 Bcc1 Bcc2 Bcc3
      have Bbc0 := Bb.blk.cell 0
      have Bbc1 := Bb.blk.cell 1
      have Bbc2 := Bb.blk.cell 2
      have Bbc3 := Bb.blk.cell 3
      go_wp2
      go_ret
      exact ⟨by simp [hp9.out], hw8⟩
  · have hyx := Hxy.out ho
    subst hyx
    have ho1 : (other == (m : Int)) = false := by simp [ho]
    have ho2 : (other != (m : Int)) = true := by simp [ho]
    rcases hcase.out with ⟨hs15, hoff2⟩ | ⟨hs0, hp, hc0, hr0, hx0⟩
    · have hoff3 := hide hoff2
      clear hoff2
      have Bac0 := Ba.blk.cell 0
      have Bac1 := Ba.blk.cell 1
      have Bac2 := Ba.blk.cell 2
      have Bac3 := Ba.blk.cell 3
      go_wp2_with fail
      refine (sync_w _ D1 _ Ba.is).mono ?_
      rw [← H2.out, hs15]
      rintro e w6 ⟨v6, rfl, ⟨P6, p6, Q6, q6, rfl, t6, u6, l6, m6, f6, g6⟩, hb6⟩
      replace Bd := Bd.below hb6
      replace Ba := Ba.below hb6
      replace Bd := Bd.alloc (.cells #[.slice P6 D2.secs.length p6, .slice Q6 D2.pend.length q6, .bool D2.off, .int .i64 D2.fuse] 25)
      replace Ba := Ba.alloc (.cells #[.slice P6 D2.secs.length p6, .slice Q6 D2.pend.length q6, .bool D2.off, .int .i64 D2.fuse] 25)
      have Bb : Box (w6.alloc (.cells #[.slice P6 D2.secs.length p6, .slice Q6 D2.pend.length q6, .bool D2.off, .int .i64 D2.fuse] 25)) w6.heap.size P6 p6 Q6 q6 D2 := Box.new w6 ⟨P6, p6, Q6, q6, rfl, t6, u6, l6, m6, f6, g6⟩
      have hw6 := bt (bt hw5 hb6) (below_alloc w6 (.cells #[.slice P6 D2.secs.length p6, .slice Q6 D2.pend.length q6, .bool D2.off, .int .i64 D2.fuse] 25))
      clear t6 u6
      clear Bac0 Bac1 Bac2 Bac3
      have y2 := (Bb.blk.cell 2).trans (show some (Value.bool D2.off) = some (Value.bool true) by rw [hoff3.out])
      go_wp2
      go_ret
      exact ⟨by simp, hw6⟩
    · have hp9 := hide hp
      clear hp
      have Bac0 := Ba.blk.cell 0
      have Bac1 := Ba.blk.cell 1
      have Bac2 := Ba.blk.cell 2
      have Bac3 := Ba.blk.cell 3
      go_wp2_with fail
      refine (sync_w _ D1 _ Ba.is).mono ?_
      rw [← H2.out, hs0]
      rintro e w6 ⟨v6, rfl, ⟨P6, p6, Q6, q6, rfl, t6, u6, l6, m6, f6, g6⟩, hb6⟩
      replace Bd := Bd.below hb6
      replace Ba := Ba.below hb6
      replace Bd := Bd.alloc (.cells #[.slice P6 D2.secs.length p6, .slice Q6 D2.pend.length q6, .bool D2.off, .int .i64 D2.fuse] 25)
      replace Ba := Ba.alloc (.cells #[.slice P6 D2.secs.length p6, .slice Q6 D2.pend.length q6, .bool D2.off, .int .i64 D2.fuse] 25)
      have Bb : Box (w6.alloc (.cells #[.slice P6 D2.secs.length p6, .slice Q6 D2.pend.length q6, .bool D2.off, .int .i64 D2.fuse] 25)) w6.heap.size P6 p6 Q6 q6 D2 := Box.new w6 ⟨P6, p6, Q6, q6, rfl, t6, u6, l6, m6, f6, g6⟩
      have hw6 := bt (bt hw5 hb6) (below_alloc w6 (.cells #[.slice P6 D2.secs.length p6, .slice Q6 D2.pend.length q6, .bool D2.off, .int .i64 D2.fuse] 25))
      clear t6 u6
      clear Bac0 Bac1 Bac2 Bac3
      have Bbc0 := Bb.blk.cell 0
      have Bbc1 := Bb.blk.cell 1
      have Bbc2 := Bb.blk.cell 2
      have Bbc3 := Bb.blk.cell 3
      go_wp2_with fail
      refine (crash_w _ Ak ck D2 keep _ Bb.is (Lies.below hk hw6)).mono ?_
      rw [← H3.out, hc0]
      rintro e w7 ⟨v7, rfl, ⟨P7, p7, Q7, q7, rfl, t7, u7, l7, m7, f7, g7⟩, hb7⟩
      replace Bd := Bd.below hb7
      replace Ba := Ba.below hb7
      replace Bb := Bb.below hb7
      replace Bd := Bd.alloc (.cells #[.slice P7 D3.secs.length p7, .slice Q7 D3.pend.length q7, .bool D3.off, .int .i64 D3.fuse] 25)
      replace Ba := Ba.alloc (.cells #[.slice P7 D3.secs.length p7, .slice Q7 D3.pend.length q7, .bool D3.off, .int .i64 D3.fuse] 25)
      replace Bb := Bb.alloc (.cells #[.slice P7 D3.secs.length p7, .slice Q7 D3.pend.length q7, .bool D3.off, .int .i64 D3.fuse] 25)
      have Bc : Box (w7.alloc (.cells #[.slice P7 D3.secs.length p7, .slice Q7 D3.pend.length q7, .bool D3.off, .int .i64 D3.fuse] 25)) w7.heap.size P7 p7 Q7 q7 D3 := Box.new w7 ⟨P7, p7, Q7, q7, rfl, t7, u7, l7, m7, f7, g7⟩
      have hw7 := bt (bt hw6 hb7) (below_alloc w7 (.cells #[.slice P7 D3.secs.length p7, .slice Q7 D3.pend.length q7, .bool D3.off, .int .i64 D3.fuse] 25))
      clear t7 u7
      clear Bbc0 Bbc1 Bbc2 Bbc3
      have Bcc0 := Bc.blk.cell 0
      have Bcc1 := Bc.blk.cell 1
      have Bcc2 := Bc.blk.cell 2
      have Bcc3 := Bc.blk.cell 3
      go_wp2_with fail
      refine (read_w _ D3 m _ Bc.is).mono ?_
      rw [hr0, hx0]
      rintro e w8 ⟨rfl, hb8⟩
      replace Bd := Bd.below hb8
      replace Ba := Ba.below hb8
      replace Bb := Bb.below hb8
      replace Bc := Bc.below hb8
      have hw8 := bt hw7 hb8
      clear Bcc0 Bcc1 Bcc2 Bcc3
      have Bbc0 := Bb.blk.cell 0
      have Bbc1 := Bb.blk.cell 1
      have Bbc2 := Bb.blk.cell 2
      have Bbc3 := Bb.blk.cell 3
      go_wp2
      go_ret
      exact ⟨by simp [hp9.out], hw8⟩
theorem sectorback_w (A1 A2 : Option Addr) (c1 c2 : Nat) (d : Dk) (n other : Int) (data : ByteArray) (Ak : Option Addr) (ck : Nat) (keep : List Bool) (w : World) (h1 : Texts w A1 d.secs) (h2 : Writes w A2 d.pend) (hl1 : d.secs.length * 16 ≤ 140737488351232) (hl2 : d.pend.length * 24 ≤ 140737488351232) (hf1 : -9223372036854775808 ≤ d.fuse) (hf2 : d.fuse ≤ 9223372036854775807) (hk : Bools w Ak keep) :
    Calls Try.prog 8 #[.agg #[.slice A1 d.secs.length c1, .slice A2 d.pend.length c2, .bool d.off, .int .i64 d.fuse], .int .i64 n, .int .i64 other, .string data, .slice Ak keep.length ck] w fun e w' => e = .returned (.bool true) ∧ Below w.heap.size w w' := by
  rcases put_cases d n data with hE | ⟨hE, hD⟩ | ⟨hE, hD⟩ | ⟨hE, hr, hoff, m, rfl, hm, hx, hD, hr1⟩
  · exact back_power A1 A2 c1 c2 d n other data Ak ck keep w h1 h2 hl1 hl2 hf1 hf2 hE
  · exact back_no A1 A2 c1 c2 d n other data Ak ck keep w h1 h2 hl1 hl2 hf1 hf2 hE hD
  · exact back_refused A1 A2 c1 c2 d n other data Ak ck keep w h1 h2 hl1 hl2 hf1 hf2 _ hE rfl hD
  · exact back_ok A1 A2 c1 c2 d m other data Ak ck keep w h1 h2 hl1 hl2 hf1 hf2 hk hE hr hoff hm hD hr1
end Go.Proofs.Ytcnhdmchoiiceaa
