/- The walk of SectorCrashes. -/
import Derived.Test.YtcnhdmchoiiceaaLives
import Derived.Test.YtcnhdmchoiiceaaRefCrash
import Derived.Test.YtcnhdmchoiiceaaRefNew
import Derived.Test.YtcnhdmchoiiceaaRefSame
import Derived.Test.YtcnhdmchoiiceaaOwnIs
namespace Go.Proofs.Ytcnhdmchoiiceaa
open Go.RowKit
set_option maxRecDepth 100000 in
set_option maxHeartbeats 8000000 in
theorem sectorcrashes_w (A1 A2 : Option Addr) (c1 c2 : Nat) (d : Dk) (Ak : Option Addr) (ck : Nat) (keep : List Bool) (n : Int) (w : World) (h1 : Texts w A1 d.secs) (h2 : Writes w A2 d.pend) (hl1 : d.secs.length * 16 ≤ 140737488351232) (hl2 : d.pend.length * 24 ≤ 140737488351232) (hf1 : -9223372036854775808 ≤ d.fuse) (hf2 : d.fuse ≤ 9223372036854775807) (hk : Bools w Ak keep) (hkl : keep.length ≤ 140737488351232) (hn : -9223372036854775808 ≤ n ∧ n ≤ 9223372036854775807) :
    Calls Try.prog 5 #[.agg #[.slice A1 d.secs.length c1, .slice A2 d.pend.length c2, .bool d.off, .int .i64 d.fuse], .slice Ak keep.length ck, .int .i64 n] w fun e w' => e = .returned (.bool true) ∧ Below w.heap.size w w' := by
  obtain ⟨D1, H1⟩ := named (crashD d keep)
  obtain ⟨E1, L1⟩ := named (checkE d)
  obtain ⟨D2, H2⟩ := named (newD n)
  obtain ⟨E2, L2⟩ := named (newE n)
  have Bd : Box (w.alloc (.cells #[.slice A1 d.secs.length c1, .slice A2 d.pend.length c2, .bool d.off, .int .i64 d.fuse] 25)) w.heap.size A1 c1 A2 c2 d := Box.new w ⟨A1, c1, A2, c2, rfl, h1, h2, by omega, by omega, hf1, hf2⟩
  have hw0 : Below w.heap.size w (w.alloc (.cells #[.slice A1 d.secs.length c1, .slice A2 d.pend.length c2, .bool d.off, .int .i64 d.fuse] 25)) := below_alloc _ _
  go_enter Try.func5, Try.ntmps5
  have Bdc0 := Bd.blk.cell 0
  have Bdc1 := Bd.blk.cell 1
  have Bdc2 := Bd.blk.cell 2
  have Bdc3 := Bd.blk.cell 3
  go_wp2_with fail
  refine (refCopy_w A1 A2 c1 c2 d _ Bd.tx Bd.wr hl1 hl2 hf1 hf2).mono ?_
  rintro e w1 ⟨v1, rfl, hown, hb1⟩
  obtain ⟨P1, p1, Q1, q1, rfl, t1, u1, l1, m1, f1, g1⟩ := ownDk_is hown
  have Bd := Bd.below hb1
  have Bd := Bd.alloc (.cells #[.slice P1 d.secs.length p1, .slice Q1 d.pend.length q1, .bool d.off, .int .i64 d.fuse] 25)
  have Bg : Box (w1.alloc (.cells #[.slice P1 d.secs.length p1, .slice Q1 d.pend.length q1, .bool d.off, .int .i64 d.fuse] 25)) w1.heap.size P1 p1 Q1 q1 d := Box.new w1 ⟨P1, p1, Q1, q1, rfl, t1, u1, l1, m1, f1, g1⟩
  have hw1 := bt (bt hw0 hb1) (below_alloc w1 (.cells #[.slice P1 d.secs.length p1, .slice Q1 d.pend.length q1, .bool d.off, .int .i64 d.fuse] 25))
  clear t1 u1
  clear Bdc0 Bdc1 Bdc2 Bdc3
  have Bgc0 := Bg.blk.cell 0
  have Bgc1 := Bg.blk.cell 1
  have Bgc2 := Bg.blk.cell 2
  have Bgc3 := Bg.blk.cell 3
  go_wp2_with fail
  refine (crash_w _ Ak ck d keep _ Bg.is (Lies.below hk hw1)).mono ?_
  rw [← H1.out, ← L1.out]
  rintro e w2 ⟨v2, rfl, ⟨P2, p2, Q2, q2, rfl, t2, u2, l2, m2, f2, g2⟩, hb2⟩
  have Bd := Bd.below hb2
  have Bg := Bg.below hb2
  have Bd := Bd.alloc (.cells #[.slice P2 D1.secs.length p2, .slice Q2 D1.pend.length q2, .bool D1.off, .int .i64 D1.fuse] 25)
  have Bg := Bg.alloc (.cells #[.slice P2 D1.secs.length p2, .slice Q2 D1.pend.length q2, .bool D1.off, .int .i64 D1.fuse] 25)
  have Ba : Box (w2.alloc (.cells #[.slice P2 D1.secs.length p2, .slice Q2 D1.pend.length q2, .bool D1.off, .int .i64 D1.fuse] 25)) w2.heap.size P2 p2 Q2 q2 D1 := Box.new w2 ⟨P2, p2, Q2, q2, rfl, t2, u2, l2, m2, f2, g2⟩
  have hw2 := bt (bt hw1 hb2) (below_alloc w2 (.cells #[.slice P2 D1.secs.length p2, .slice Q2 D1.pend.length q2, .bool D1.off, .int .i64 D1.fuse] 25))
  clear t2 u2
  clear Bgc0 Bgc1 Bgc2 Bgc3
  have Bdc0 := Bd.blk.cell 0
  have Bdc1 := Bd.blk.cell 1
  have Bdc2 := Bd.blk.cell 2
  have Bdc3 := Bd.blk.cell 3
  go_wp2_with fail
  refine (refCrash_w _ Ak ck d keep _ Bd.is (Lies.below hk hw2) hkl).mono ?_
  rw [← H1.out, ← L1.out]
  rintro e w3 ⟨v3, rfl, ⟨P3, p3, Q3, q3, rfl, t3, u3, l3, m3, f3, g3⟩, hb3⟩
  have Bd := Bd.below hb3
  have Bg := Bg.below hb3
  have Ba := Ba.below hb3
  have Bd := Bd.alloc (.cells #[.slice P3 D1.secs.length p3, .slice Q3 D1.pend.length q3, .bool D1.off, .int .i64 D1.fuse] 25)
  have Bg := Bg.alloc (.cells #[.slice P3 D1.secs.length p3, .slice Q3 D1.pend.length q3, .bool D1.off, .int .i64 D1.fuse] 25)
  have Ba := Ba.alloc (.cells #[.slice P3 D1.secs.length p3, .slice Q3 D1.pend.length q3, .bool D1.off, .int .i64 D1.fuse] 25)
  have Bb : Box (w3.alloc (.cells #[.slice P3 D1.secs.length p3, .slice Q3 D1.pend.length q3, .bool D1.off, .int .i64 D1.fuse] 25)) w3.heap.size P3 p3 Q3 q3 D1 := Box.new w3 ⟨P3, p3, Q3, q3, rfl, t3, u3, l3, m3, f3, g3⟩
  have hw3 := bt (bt hw2 hb3) (below_alloc w3 (.cells #[.slice P3 D1.secs.length p3, .slice Q3 D1.pend.length q3, .bool D1.off, .int .i64 D1.fuse] 25))
  clear t3 u3
  clear Bdc0 Bdc1 Bdc2 Bdc3
  go_wp2_with fail
  refine (new_w n _ hn).mono ?_
  rw [← H2.out, ← L2.out]
  rintro e w4 ⟨v4, rfl, ⟨P4, p4, Q4, q4, rfl, t4, u4, l4, m4, f4, g4⟩, hb4⟩
  have Bd := Bd.below hb4
  have Bg := Bg.below hb4
  have Ba := Ba.below hb4
  have Bb := Bb.below hb4
  have Bd := Bd.alloc (.cells #[.slice P4 D2.secs.length p4, .slice Q4 D2.pend.length q4, .bool D2.off, .int .i64 D2.fuse] 25)
  have Bg := Bg.alloc (.cells #[.slice P4 D2.secs.length p4, .slice Q4 D2.pend.length q4, .bool D2.off, .int .i64 D2.fuse] 25)
  have Ba := Ba.alloc (.cells #[.slice P4 D2.secs.length p4, .slice Q4 D2.pend.length q4, .bool D2.off, .int .i64 D2.fuse] 25)
  have Bb := Bb.alloc (.cells #[.slice P4 D2.secs.length p4, .slice Q4 D2.pend.length q4, .bool D2.off, .int .i64 D2.fuse] 25)
  have Bc : Box (w4.alloc (.cells #[.slice P4 D2.secs.length p4, .slice Q4 D2.pend.length q4, .bool D2.off, .int .i64 D2.fuse] 25)) w4.heap.size P4 p4 Q4 q4 D2 := Box.new w4 ⟨P4, p4, Q4, q4, rfl, t4, u4, l4, m4, f4, g4⟩
  have hw4 := bt (bt hw3 hb4) (below_alloc w4 (.cells #[.slice P4 D2.secs.length p4, .slice Q4 D2.pend.length q4, .bool D2.off, .int .i64 D2.fuse] 25))
  clear t4 u4
  go_wp2_with fail
  refine (refNew_w n _ hn).mono ?_
  rw [← H2.out, ← L2.out]
  rintro e w5 ⟨v5, rfl, ⟨P5, p5, Q5, q5, rfl, t5, u5, l5, m5, f5, g5⟩, hb5⟩
  have Bd := Bd.below hb5
  have Bg := Bg.below hb5
  have Ba := Ba.below hb5
  have Bb := Bb.below hb5
  have Bc := Bc.below hb5
  have Bd := Bd.alloc (.cells #[.slice P5 D2.secs.length p5, .slice Q5 D2.pend.length q5, .bool D2.off, .int .i64 D2.fuse] 25)
  have Bg := Bg.alloc (.cells #[.slice P5 D2.secs.length p5, .slice Q5 D2.pend.length q5, .bool D2.off, .int .i64 D2.fuse] 25)
  have Ba := Ba.alloc (.cells #[.slice P5 D2.secs.length p5, .slice Q5 D2.pend.length q5, .bool D2.off, .int .i64 D2.fuse] 25)
  have Bb := Bb.alloc (.cells #[.slice P5 D2.secs.length p5, .slice Q5 D2.pend.length q5, .bool D2.off, .int .i64 D2.fuse] 25)
  have Bc := Bc.alloc (.cells #[.slice P5 D2.secs.length p5, .slice Q5 D2.pend.length q5, .bool D2.off, .int .i64 D2.fuse] 25)
  have Be : Box (w5.alloc (.cells #[.slice P5 D2.secs.length p5, .slice Q5 D2.pend.length q5, .bool D2.off, .int .i64 D2.fuse] 25)) w5.heap.size P5 p5 Q5 q5 D2 := Box.new w5 ⟨P5, p5, Q5, q5, rfl, t5, u5, l5, m5, f5, g5⟩
  have hw5 := bt (bt hw4 hb5) (below_alloc w5 (.cells #[.slice P5 D2.secs.length p5, .slice Q5 D2.pend.length q5, .bool D2.off, .int .i64 D2.fuse] 25))
  clear t5 u5
  go_wp2_with fail
  refine (lives_w _).mono ?_
  rintro e w6 ⟨rfl, hb6⟩
  have Bd := Bd.below hb6
  have Bg := Bg.below hb6
  have Ba := Ba.below hb6
  have Bb := Bb.below hb6
  have Bc := Bc.below hb6
  have Be := Be.below hb6
  have hw6 := bt hw5 hb6
  have Bac0 := Ba.blk.cell 0
  have Bac1 := Ba.blk.cell 1
  have Bac2 := Ba.blk.cell 2
  have Bac3 := Ba.blk.cell 3
  have Bbc0 := Bb.blk.cell 0
  have Bbc1 := Bb.blk.cell 1
  have Bbc2 := Bb.blk.cell 2
  have Bbc3 := Bb.blk.cell 3
  go_wp2_with fail
  refine (refSame_w _ _ D1 _ Ba.is Bb.is).mono ?_
  rintro e w7 ⟨rfl, hb7⟩
  have Bd := Bd.below hb7
  have Bg := Bg.below hb7
  have Ba := Ba.below hb7
  have Bb := Bb.below hb7
  have Bc := Bc.below hb7
  have Be := Be.below hb7
  have hw7 := bt hw6 hb7
  clear Bac0 Bac1 Bac2 Bac3 Bbc0 Bbc1 Bbc2 Bbc3
  have Bcc0 := Bc.blk.cell 0
  have Bcc1 := Bc.blk.cell 1
  have Bcc2 := Bc.blk.cell 2
  have Bcc3 := Bc.blk.cell 3
  have Bec0 := Be.blk.cell 0
  have Bec1 := Be.blk.cell 1
  have Bec2 := Be.blk.cell 2
  have Bec3 := Be.blk.cell 3
  go_wp2_with fail
  refine (refSame_w _ _ D2 _ Bc.is Be.is).mono ?_
  rintro e w8 ⟨rfl, hb8⟩
  have Bd := Bd.below hb8
  have Bg := Bg.below hb8
  have Ba := Ba.below hb8
  have Bb := Bb.below hb8
  have Bc := Bc.below hb8
  have Be := Be.below hb8
  have hw8 := bt hw7 hb8
  clear Bcc0 Bcc1 Bcc2 Bcc3 Bec0 Bec1 Bec2 Bec3
  have Bgc0 := Bg.blk.cell 0
  have Bgc1 := Bg.blk.cell 1
  have Bgc2 := Bg.blk.cell 2
  have Bgc3 := Bg.blk.cell 3
  have Bdc0 := Bd.blk.cell 0
  have Bdc1 := Bd.blk.cell 1
  have Bdc2 := Bd.blk.cell 2
  have Bdc3 := Bd.blk.cell 3
  go_wp2_with fail
  refine (refSame_w _ _ d _ Bg.is Bd.is).mono ?_
  rintro e w9 ⟨rfl, hb9⟩
  have Bd := Bd.below hb9
  have Bg := Bg.below hb9
  have Ba := Ba.below hb9
  have Bb := Bb.below hb9
  have Bc := Bc.below hb9
  have Be := Be.below hb9
  have hw9 := bt hw8 hb9
  clear Bgc0 Bgc1 Bgc2 Bgc3 Bdc0 Bdc1 Bdc2 Bdc3
  go_wp2
  go_ret
  exact ⟨by simp, hw9⟩
end Go.Proofs.Ytcnhdmchoiiceaa
