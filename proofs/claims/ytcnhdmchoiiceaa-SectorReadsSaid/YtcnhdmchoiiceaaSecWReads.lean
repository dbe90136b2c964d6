/- The walk of SectorReads. -/
import Derived.Test.YtcnhdmchoiiceaaLives
import Derived.Test.YtcnhdmchoiiceaaRefRead
import Derived.Test.YtcnhdmchoiiceaaOwnIs
import Derived.Deep.RegionHeld3
namespace Go.Proofs.Ytcnhdmchoiiceaa
open Go.RowKit
set_option maxRecDepth 100000 in
set_option maxHeartbeats 8000000 in
theorem sectorreads_w (A1 A2 : Option Addr) (c1 c2 : Nat) (d : Dk) (n : Int) (w : World) (h1 : Texts w A1 d.secs) (h2 : Writes w A2 d.pend) (hl1 : d.secs.length * 16 ≤ 140737488351232) (hl2 : d.pend.length * 24 ≤ 140737488351232) (hf1 : -9223372036854775808 ≤ d.fuse) (hf2 : d.fuse ≤ 9223372036854775807) :
    Calls Try.prog 4 #[.agg #[.slice A1 d.secs.length c1, .slice A2 d.pend.length c2, .bool d.off, .int .i64 d.fuse], .int .i64 n] w fun e w' => e = .returned (.bool true) ∧ Below w.heap.size w w' := by
  obtain ⟨S, H1⟩ := named (readS d n)
  obtain ⟨E1, L1⟩ := named (readE d n)
  obtain ⟨E2, L2⟩ := named (checkE d)
  have Bd : Box (w.alloc (.cells #[.slice A1 d.secs.length c1, .slice A2 d.pend.length c2, .bool d.off, .int .i64 d.fuse] 25)) w.heap.size A1 c1 A2 c2 d := Box.new w ⟨A1, c1, A2, c2, rfl, h1, h2, by omega, by omega, hf1, hf2⟩
  have hw0 : Below w.heap.size w (w.alloc (.cells #[.slice A1 d.secs.length c1, .slice A2 d.pend.length c2, .bool d.off, .int .i64 d.fuse] 25)) := below_alloc _ _
  go_enter Try.func4, Try.ntmps4
  have Bdc0 := Bd.blk.cell 0
  have Bdc1 := Bd.blk.cell 1
  have Bdc2 := Bd.blk.cell 2
  have Bdc3 := Bd.blk.cell 3
  go_wp2_with fail
  refine (read_w _ d n _ Bd.is).mono ?_
  rw [← H1.out, ← L1.out]
  rintro e w1 ⟨rfl, hb1⟩
  have Bd := Bd.below hb1
  have hw1 := bt hw0 hb1
  clear Bdc0 Bdc1 Bdc2 Bdc3
  have Bdc0 := Bd.blk.cell 0
  have Bdc1 := Bd.blk.cell 1
  have Bdc2 := Bd.blk.cell 2
  have Bdc3 := Bd.blk.cell 3
  go_wp2_with fail
  refine (refRead_w _ d n _ Bd.is).mono ?_
  rw [← H1.out, ← L1.out]
  rintro e w2 ⟨rfl, hb2⟩
  have Bd := Bd.below hb2
  have hw2 := bt hw1 hb2
  clear Bdc0 Bdc1 Bdc2 Bdc3
  have Bq : Box w2.drew w.heap.size A1 c1 A2 c2 d := ⟨Bd.blk, Bd.tx, Bd.wr, Bd.l1, Bd.l2, Bd.f1, Bd.f2⟩
  have Bqc0 := Bq.blk.cell 0
  have Bqc1 := Bq.blk.cell 1
  have Bqc2 := Bq.blk.cell 2
  have Bqc3 := Bq.blk.cell 3
  go_wp2_with fail
  go_region_held3 (fun w' => w'.cell? ⟨w.heap.size, 0, none⟩ = some (.slice A1 d.secs.length c1) ∧ w'.cell? ⟨w.heap.size, 1, none⟩ = some (.slice A2 d.pend.length c2) ∧ w'.cell? ⟨w.heap.size, 2, none⟩ = some (.bool d.off) ∧ w'.cell? ⟨w.heap.size, 3, none⟩ = some (.int .i64 d.fuse))
    (first
      | (go_keep; done)
      | exact ⟨Br.blk.cell 0, Br.blk.cell 1, Br.blk.cell 2, Br.blk.cell 3⟩
      | exact ⟨Bc.blk.cell 0, Bc.blk.cell 1, Bc.blk.cell 2, Bc.blk.cell 3⟩
      | exact ⟨Bl.blk.cell 0, Bl.blk.cell 1, Bl.blk.cell 2, Bl.blk.cell 3⟩)
    ((first
      | (go_at_call 16
         refine (lives_w _).mono ?_
         rintro e w3 ⟨rfl, hb3⟩
         have Bl := Bq.below hb3)
      | (go_at_call 20
         refine (check_w A1 A2 c1 c2 d _ Bl.tx Bl.wr Bl.l1 Bl.l2).mono ?_
         rw [← L2.out]
         rintro e w4 ⟨rfl, hb4⟩
         have Bc := Bl.below hb4)
      | (go_at_call 21
         refine (refCheck_w _ d _ Bc.is).mono ?_
         rw [← L2.out]
         rintro e w5 ⟨rfl, hb5⟩
         have Br := Bc.below hb5)))
  all_goals (
    go_wp2
    go_ret
    exact ⟨by simp, bt (bt (bt hw2.drew hb3) hb4) hb5⟩)
end Go.Proofs.Ytcnhdmchoiiceaa
