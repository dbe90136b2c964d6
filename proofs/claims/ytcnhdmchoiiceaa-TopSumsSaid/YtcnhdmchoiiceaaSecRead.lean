/- The walk of sector.Read. -/
import Derived.Test.YtcnhdmchoiiceaaSecCheck
import Derived.Test.YtcnhdmchoiiceaaSecBack
namespace Go.Proofs.Ytcnhdmchoiiceaa
open Go.RowKit Go.Shelf
attribute [local go_sem] Oper.semAt_some
theorem backward_w (A : Option Addr) (n c : Nat) (w : World) :
    Calls Try.prog 41 #[.slice A n c] w fun e w' => e = .returned (.func (.func 54) #[] #[.pointer (some ⟨w.heap.size, 0, none⟩)]) ∧ w.alloc (.cells #[.slice A n c] 23) = w' := by
  have hmf : ∀ (fn : Fn) (first cap : Array Value) (w : World), (Instr.makeFunc fn first cap).run Try.prog w = .ok (.func fn first cap) w := fun _ _ _ _ => rfl
  go_enter Try.func41, Try.ntmps41
  go_wp2
  go_ret
  exact ⟨rfl, rfl⟩
/-- The text and the error that a read comes to. -/
def ReadRet (s : ByteArray) (why : Int) (w : World) (e : Ending) (w' : World) : Prop := e = .returned (.tuple #[.string s, .int .i64 why]) ∧ Below w.heap.size w w'
/-- Four new blocks, one behind the other. -/
def four (w : World) (v1 v2 v3 v4 : List Value) (t1 t2 t3 t4 : TypeId) : World := (((w.alloc (.cells v1.toArray t1)).alloc (.cells v2.toArray t2)).alloc (.cells v3.toArray t3)).alloc (.cells v4.toArray t4)
theorem four_below (w : World) (v1 v2 v3 v4 : List Value) (t1 t2 t3 t4 : TypeId) : Below w.heap.size w (four w v1 v2 v3 v4 t1 t2 t3 t4) := bt (bt (bt (below_alloc _ _) (below_alloc _ _)) (below_alloc _ _)) (below_alloc _ _)
theorem four_blk (w : World) (v1 v2 v3 v4 : List Value) (t1 t2 t3 t4 : TypeId) : Blk (four w v1 v2 v3 v4 t1 t2 t3 t4) w.heap.size v1 t1 ∧ Blk (four w v1 v2 v3 v4 t1 t2 t3 t4) (w.heap.size + 1) v2 t2 ∧ Blk (four w v1 v2 v3 v4 t1 t2 t3 t4) (w.heap.size + 1 + 1) v3 t3 ∧ Blk (four w v1 v2 v3 v4 t1 t2 t3 t4) (w.heap.size + 1 + 1 + 1) v4 t4 := by
  have h2 := Blk.new (w.alloc (.cells v1.toArray t1)) v2 t2
  have h3 := Blk.new ((w.alloc (.cells v1.toArray t1)).alloc (.cells v2.toArray t2)) v3 t3
  have h4 := Blk.new (((w.alloc (.cells v1.toArray t1)).alloc (.cells v2.toArray t2)).alloc (.cells v3.toArray t3)) v4 t4
  simp only [World.size_alloc] at h2 h3 h4
  exact ⟨(((Blk.new w v1 t1).alloc _).alloc _).alloc _, (h2.alloc _).alloc _, h3.alloc _, h4⟩
set_option maxRecDepth 100000 in
set_option maxHeartbeats 1000000 in
theorem read_wrong (A1 A2 : Option Addr) (c1 c2 : Nat) (d : Dk) (n : Int) (w : World) (h1 : Texts w A1 d.secs) (h2 : Writes w A2 d.pend) (hl1 : d.secs.length ≤ 140737488351232) (hl2 : d.pend.length ≤ 140737488351232) (hr : right d = false) :
    Calls Try.prog 18 #[.agg #[.slice A1 d.secs.length c1, .slice A2 d.pend.length c2, .bool d.off, .int .i64 d.fuse], .int .i64 n] w (ReadRet ⟨#[]⟩ 13 w) := by
  have b0 := four_below w [.slice A1 d.secs.length c1, .slice A2 d.pend.length c2, .bool d.off, .int .i64 d.fuse] [.int .i64 n] [.string ⟨#[]⟩] [.int .i64 0] 25 3 9 27
  obtain ⟨k1, k2, k3, k4⟩ := four_blk w [.slice A1 d.secs.length c1, .slice A2 d.pend.length c2, .bool d.off, .int .i64 d.fuse] [.int .i64 n] [.string ⟨#[]⟩] [.int .i64 0] 25 3 9 27
  have hE := hide (show checkE d = 13 by simp [checkE, hr])
  go_enter Try.func18, Try.ntmps18
  go_wp2_with fail
  refine (check_w A1 A2 c1 c2 d _ (h1.below b0) (h2.below b0) hl1 hl2).mono ?_
  rw [hE.out]
  rintro e w1 ⟨rfl, hb⟩
  have hbw := bt b0 hb
  have x1 := (k1.below hb).cell
  have x2 := (k2.below hb).cell
  have x3 := (k3.below hb).cell
  have x4 := (k4.below hb).cell
  have y3 := (k3.below hb).free
  have y4 := (k4.below hb).free
  clear k1 k2 k3 k4 b0 hb h1 h2
  go_wp2
  refine bodyPost_ret (v := .tuple #[.string ⟨#[]⟩, .int .i64 13]) (by simp [results, Try.results18, go_sem, x3, x4]) rfl ?_
  exact ⟨rfl, (hbw.setCell (p := ⟨w.heap.size + 1 + 1, 0, none⟩) (by simp; omega) _).setCell (p := ⟨w.heap.size + 1 + 1 + 1, 0, none⟩) (by simp; omega) _⟩
set_option maxRecDepth 100000 in
set_option maxHeartbeats 1000000 in
theorem read_off (A1 A2 : Option Addr) (c1 c2 : Nat) (d : Dk) (n : Int) (w : World) (h1 : Texts w A1 d.secs) (h2 : Writes w A2 d.pend) (hl1 : d.secs.length ≤ 140737488351232) (hl2 : d.pend.length ≤ 140737488351232) (hr : right d = true) (ho : d.off = true) :
    Calls Try.prog 18 #[.agg #[.slice A1 d.secs.length c1, .slice A2 d.pend.length c2, .bool d.off, .int .i64 d.fuse], .int .i64 n] w (ReadRet ⟨#[]⟩ 15 w) := by
  have b0 := four_below w [.slice A1 d.secs.length c1, .slice A2 d.pend.length c2, .bool d.off, .int .i64 d.fuse] [.int .i64 n] [.string ⟨#[]⟩] [.int .i64 0] 25 3 9 27
  obtain ⟨k1, k2, k3, k4⟩ := four_blk w [.slice A1 d.secs.length c1, .slice A2 d.pend.length c2, .bool d.off, .int .i64 d.fuse] [.int .i64 n] [.string ⟨#[]⟩] [.int .i64 0] 25 3 9 27
  have hE := hide (show checkE d = 0 by simp [checkE, hr])
  have Ho := hide ho
  clear ho
  go_enter Try.func18, Try.ntmps18
  go_wp2_with fail
  refine (check_w A1 A2 c1 c2 d _ (h1.below b0) (h2.below b0) hl1 hl2).mono ?_
  rw [hE.out]
  rintro e w1 ⟨rfl, hb⟩
  have hbw := bt b0 hb
  have x1 := (k1.below hb).cell
  have x2 := (k2.below hb).cell
  have x3 := (k3.below hb).cell
  have x4 := (k4.below hb).cell
  have y3 := (k3.below hb).free
  have y4 := (k4.below hb).free
  clear k1 k2 k3 k4 b0 hb h1 h2 hr
  have ho := Ho.out
  go_wp2
  refine bodyPost_ret (v := .tuple #[.string ⟨#[]⟩, .int .i64 15]) (by simp [results, Try.results18, go_sem, x3, x4]) rfl ?_
  exact ⟨rfl, (hbw.setCell (p := ⟨w.heap.size + 1 + 1, 0, none⟩) (by simp; omega) _).setCell (p := ⟨w.heap.size + 1 + 1 + 1, 0, none⟩) (by simp; omega) _⟩
set_option maxRecDepth 100000 in
set_option maxHeartbeats 1000000 in
theorem read_range (A1 A2 : Option Addr) (c1 c2 : Nat) (d : Dk) (n : Int) (w : World) (h1 : Texts w A1 d.secs) (h2 : Writes w A2 d.pend) (hl1 : d.secs.length ≤ 140737488351232) (hl2 : d.pend.length ≤ 140737488351232) (hr : right d = true) (ho : d.off = false) (ht : there d.secs n = false) :
    Calls Try.prog 18 #[.agg #[.slice A1 d.secs.length c1, .slice A2 d.pend.length c2, .bool d.off, .int .i64 d.fuse], .int .i64 n] w (ReadRet ⟨#[]⟩ 1 w) := by
  have b0 := four_below w [.slice A1 d.secs.length c1, .slice A2 d.pend.length c2, .bool d.off, .int .i64 d.fuse] [.int .i64 n] [.string ⟨#[]⟩] [.int .i64 0] 25 3 9 27
  obtain ⟨k1, k2, k3, k4⟩ := four_blk w [.slice A1 d.secs.length c1, .slice A2 d.pend.length c2, .bool d.off, .int .i64 d.fuse] [.int .i64 n] [.string ⟨#[]⟩] [.int .i64 0] 25 3 9 27
  have hE := hide (show checkE d = 0 by simp [checkE, hr])
  have Ho := hide ho
  clear ho
  go_enter Try.func18, Try.ntmps18
  go_wp2_with fail
  refine (check_w A1 A2 c1 c2 d _ (h1.below b0) (h2.below b0) hl1 hl2).mono ?_
  rw [hE.out]
  rintro e w1 ⟨rfl, hb⟩
  have hbw := bt b0 hb
  have x1 := (k1.below hb).cell
  have x2 := (k2.below hb).cell
  have x3 := (k3.below hb).cell
  have x4 := (k4.below hb).cell
  have y3 := (k3.below hb).free
  have y4 := (k4.below hb).free
  have q3 := k3.below hb
  have q4 := k4.below hb
  clear k1 k2 k3 k4 b0 hb h1 h2 hr
  have ho := Ho.out
  have Ht := hide ht
  clear ht
  go_wp2_with fail
  refine (there_w A1 A2 c1 d.pend.length c2 d.secs false d.fuse n _).mono ?_
  rw [Ht.out]
  rintro e w2 ⟨rfl, hb2⟩
  have hbw2 := bt hbw hb2
  clear x1 x2 x3 x4 y3 y4
  have x3 := (q3.below hb2).cell
  have x4 := (q4.below hb2).cell
  have y3 := (q3.below hb2).free
  have y4 := (q4.below hb2).free
  clear q3 q4
  go_wp2
  refine bodyPost_ret (v := .tuple #[.string ⟨#[]⟩, .int .i64 1]) (by simp [results, Try.results18, go_sem, x3, x4]) rfl ?_
  exact ⟨rfl, (hbw2.setCell (p := ⟨w.heap.size + 1 + 1, 0, none⟩) (by simp; omega) _).setCell (p := ⟨w.heap.size + 1 + 1 + 1, 0, none⟩) (by simp; omega) _⟩
end Go.Proofs.Ytcnhdmchoiiceaa
