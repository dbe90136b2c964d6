/- lictorref19.WriteAsk of a request without texts and changes. -/
import Derived.Test.YtiodfbbgbnbdpaaRefPack
import Derived.Test.YtiodfbbgbnbdpaaGE
namespace Go.Proofs.Ytiodfbbgbnbdpaa
set_option linter.unusedSimpArgs false
set_option linter.unusedVariables false
open Go.RowKit
open Crc
set_option maxRecDepth 100000 in
set_option maxHeartbeats 2000000 in
theorem refWA_1 (an : Nat) (ac : UInt8) (ai ax au aw : ByteArray) (av : Nat) (s1 s2 s3 s4 s5 s6 s7 : ByteArray) (F : List UInt8 × Int) (q : Bool) (w : World) 
    (hq : ∀ W : World, (binOp .neq 30 (.agg #[.int .u8 1, .int .u64 (an : Int), .int .u8 (ac.toNat : Int), .string ai, .string ax, .string au, .string aw, .int .u64 (av : Int), .string s1, .string s2, .string s3, .string s4, .string s5, .string s6, .string s7]) (.agg #[.int .u8 1, .int .u64 0, .int .u8 0, .string ⟨#[]⟩, .string ⟨#[]⟩, .string ⟨#[]⟩, .string ⟨#[]⟩, .int .u64 0, .string ⟨#[]⟩, .string ⟨#[]⟩, .string ⟨#[]⟩, .string ⟨#[]⟩, .string ⟨#[]⟩, .string ⟨#[]⟩, .string ⟨#[]⟩])).run Try.prog W = .ok (.bool q) W) (HF : Hid ((q = true → F = ([], 14)) ∧ (q = false → F = ([1], 0)))) :
    Calls Try.prog 10 #[.agg #[.int .u8 1, .int .u64 (an : Int), .int .u8 (ac.toNat : Int), .string ai, .string ax, .string au, .string aw, .int .u64 (av : Int), .string s1, .string s2, .string s3, .string s4, .string s5, .string s6, .string s7]] w fun e w' => e = .returned (.tuple #[.string (str F.1), .int .i64 F.2]) ∧ Below w.heap.size w w' := by
  have kA := ((Blk.new w [.int .u8 1, .int .u64 (an : Int), .int .u8 (ac.toNat : Int), .string ai, .string ax, .string au, .string aw, .int .u64 (av : Int), .string s1, .string s2, .string s3, .string s4, .string s5, .string s6, .string s7] 30).alloc (.cells #[.int .u8 1] 5)).alloc (.cells #[.int .u8 1, .int .u64 0, .int .u8 0, .string ⟨#[]⟩, .string ⟨#[]⟩, .string ⟨#[]⟩, .string ⟨#[]⟩, .int .u64 0, .string ⟨#[]⟩, .string ⟨#[]⟩, .string ⟨#[]⟩, .string ⟨#[]⟩, .string ⟨#[]⟩, .string ⟨#[]⟩, .string ⟨#[]⟩] 30)
  have hcv := blk_string' (k := 1) (Blk.new (w.alloc (.cells #[.int .u8 1, .int .u64 (an : Int), .int .u8 (ac.toNat : Int), .string ai, .string ax, .string au, .string aw, .int .u64 (av : Int), .string s1, .string s2, .string s3, .string s4, .string s5, .string s6, .string s7] 30)) [.int .u8 1] 5)
  rw [show (w.alloc (.cells #[.int .u8 1, .int .u64 (an : Int), .int .u8 (ac.toNat : Int), .string ai, .string ax, .string au, .string aw, .int .u64 (av : Int), .string s1, .string s2, .string s3, .string s4, .string s5, .string s6, .string s7] 30)).heap.size = w.heap.size + 1 by simp] at hcv
  have kB := Blk.new ((w.alloc (.cells #[.int .u8 1, .int .u64 (an : Int), .int .u8 (ac.toNat : Int), .string ai, .string ax, .string au, .string aw, .int .u64 (av : Int), .string s1, .string s2, .string s3, .string s4, .string s5, .string s6, .string s7] 30)).alloc (.cells #[.int .u8 1] 5)) [.int .u8 1, .int .u64 0, .int .u8 0, .string ⟨#[]⟩, .string ⟨#[]⟩, .string ⟨#[]⟩, .string ⟨#[]⟩, .int .u64 0, .string ⟨#[]⟩, .string ⟨#[]⟩, .string ⟨#[]⟩, .string ⟨#[]⟩, .string ⟨#[]⟩, .string ⟨#[]⟩, .string ⟨#[]⟩] 30
  rw [show ((w.alloc (.cells #[.int .u8 1, .int .u64 (an : Int), .int .u8 (ac.toNat : Int), .string ai, .string ax, .string au, .string aw, .int .u64 (av : Int), .string s1, .string s2, .string s3, .string s4, .string s5, .string s6, .string s7] 30)).alloc (.cells #[.int .u8 1] 5)).heap.size = w.heap.size + 1 + 1 by simp] at kB
  have hb := bt (bt (below_alloc w (.cells #[.int .u8 1, .int .u64 (an : Int), .int .u8 (ac.toNat : Int), .string ai, .string ax, .string au, .string aw, .int .u64 (av : Int), .string s1, .string s2, .string s3, .string s4, .string s5, .string s6, .string s7] 30)) (below_alloc _ (.cells #[.int .u8 1] 5))) (below_alloc _ (.cells #[.int .u8 1, .int .u64 0, .int .u8 0, .string ⟨#[]⟩, .string ⟨#[]⟩, .string ⟨#[]⟩, .string ⟨#[]⟩, .int .u64 0, .string ⟨#[]⟩, .string ⟨#[]⟩, .string ⟨#[]⟩, .string ⟨#[]⟩, .string ⟨#[]⟩, .string ⟨#[]⟩, .string ⟨#[]⟩] 30))
  have xA := kA.cell
  go_enter Try.func10, Try.ntmps10
  go_upto_region 3 with fail
  obtain ⟨w1, hw1⟩ := named (((w.alloc (.cells #[.int .u8 1, .int .u64 (an : Int), .int .u8 (ac.toNat : Int), .string ai, .string ax, .string au, .string aw, .int .u64 (av : Int), .string s1, .string s2, .string s3, .string s4, .string s5, .string s6, .string s7] 30)).alloc (.cells #[.int .u8 1] 5)).alloc (.cells #[.int .u8 1, .int .u64 0, .int .u8 0, .string ⟨#[]⟩, .string ⟨#[]⟩, .string ⟨#[]⟩, .string ⟨#[]⟩, .int .u64 0, .string ⟨#[]⟩, .string ⟨#[]⟩, .string ⟨#[]⟩, .string ⟨#[]⟩, .string ⟨#[]⟩, .string ⟨#[]⟩, .string ⟨#[]⟩] 30))
  rw [← hw1.out] at kA kB hb ⊢
  clear hw1 xA hcv
  have xA := kA.cell
  have xB := kB.cell
  cases q with
  | true =>
    go_wp2
    go_ret2
    exact ⟨by rw [HF.out.1 (by simp)]; rfl, hb⟩
  | false =>
    go_wp2
    go_ret2
    exact ⟨by rw [HF.out.2 (by simp)]; rfl, hb⟩
set_option maxRecDepth 100000 in
set_option maxHeartbeats 2000000 in
theorem refWA_7 (an : Nat) (ac : UInt8) (ai ax au aw : ByteArray) (av : Nat) (s1 s2 s3 s4 s5 s6 s7 : ByteArray) (F : List UInt8 × Int) (q : Bool) (w : World) 
    (hq : ∀ W : World, (binOp .neq 30 (.agg #[.int .u8 7, .int .u64 (an : Int), .int .u8 (ac.toNat : Int), .string ai, .string ax, .string au, .string aw, .int .u64 (av : Int), .string s1, .string s2, .string s3, .string s4, .string s5, .string s6, .string s7]) (.agg #[.int .u8 7, .int .u64 0, .int .u8 0, .string ⟨#[]⟩, .string ⟨#[]⟩, .string ⟨#[]⟩, .string ⟨#[]⟩, .int .u64 0, .string ⟨#[]⟩, .string ⟨#[]⟩, .string ⟨#[]⟩, .string ⟨#[]⟩, .string ⟨#[]⟩, .string ⟨#[]⟩, .string ⟨#[]⟩])).run Try.prog W = .ok (.bool q) W) (HF : Hid ((q = true → F = ([], 14)) ∧ (q = false → F = ([7], 0)))) :
    Calls Try.prog 10 #[.agg #[.int .u8 7, .int .u64 (an : Int), .int .u8 (ac.toNat : Int), .string ai, .string ax, .string au, .string aw, .int .u64 (av : Int), .string s1, .string s2, .string s3, .string s4, .string s5, .string s6, .string s7]] w fun e w' => e = .returned (.tuple #[.string (str F.1), .int .i64 F.2]) ∧ Below w.heap.size w w' := by
  have kA := ((Blk.new w [.int .u8 7, .int .u64 (an : Int), .int .u8 (ac.toNat : Int), .string ai, .string ax, .string au, .string aw, .int .u64 (av : Int), .string s1, .string s2, .string s3, .string s4, .string s5, .string s6, .string s7] 30).alloc (.cells #[.int .u8 7] 5)).alloc (.cells #[.int .u8 7, .int .u64 0, .int .u8 0, .string ⟨#[]⟩, .string ⟨#[]⟩, .string ⟨#[]⟩, .string ⟨#[]⟩, .int .u64 0, .string ⟨#[]⟩, .string ⟨#[]⟩, .string ⟨#[]⟩, .string ⟨#[]⟩, .string ⟨#[]⟩, .string ⟨#[]⟩, .string ⟨#[]⟩] 30)
  have hcv := blk_string' (k := 7) (Blk.new (w.alloc (.cells #[.int .u8 7, .int .u64 (an : Int), .int .u8 (ac.toNat : Int), .string ai, .string ax, .string au, .string aw, .int .u64 (av : Int), .string s1, .string s2, .string s3, .string s4, .string s5, .string s6, .string s7] 30)) [.int .u8 7] 5)
  rw [show (w.alloc (.cells #[.int .u8 7, .int .u64 (an : Int), .int .u8 (ac.toNat : Int), .string ai, .string ax, .string au, .string aw, .int .u64 (av : Int), .string s1, .string s2, .string s3, .string s4, .string s5, .string s6, .string s7] 30)).heap.size = w.heap.size + 1 by simp] at hcv
  have kB := Blk.new ((w.alloc (.cells #[.int .u8 7, .int .u64 (an : Int), .int .u8 (ac.toNat : Int), .string ai, .string ax, .string au, .string aw, .int .u64 (av : Int), .string s1, .string s2, .string s3, .string s4, .string s5, .string s6, .string s7] 30)).alloc (.cells #[.int .u8 7] 5)) [.int .u8 7, .int .u64 0, .int .u8 0, .string ⟨#[]⟩, .string ⟨#[]⟩, .string ⟨#[]⟩, .string ⟨#[]⟩, .int .u64 0, .string ⟨#[]⟩, .string ⟨#[]⟩, .string ⟨#[]⟩, .string ⟨#[]⟩, .string ⟨#[]⟩, .string ⟨#[]⟩, .string ⟨#[]⟩] 30
  rw [show ((w.alloc (.cells #[.int .u8 7, .int .u64 (an : Int), .int .u8 (ac.toNat : Int), .string ai, .string ax, .string au, .string aw, .int .u64 (av : Int), .string s1, .string s2, .string s3, .string s4, .string s5, .string s6, .string s7] 30)).alloc (.cells #[.int .u8 7] 5)).heap.size = w.heap.size + 1 + 1 by simp] at kB
  have hb := bt (bt (below_alloc w (.cells #[.int .u8 7, .int .u64 (an : Int), .int .u8 (ac.toNat : Int), .string ai, .string ax, .string au, .string aw, .int .u64 (av : Int), .string s1, .string s2, .string s3, .string s4, .string s5, .string s6, .string s7] 30)) (below_alloc _ (.cells #[.int .u8 7] 5))) (below_alloc _ (.cells #[.int .u8 7, .int .u64 0, .int .u8 0, .string ⟨#[]⟩, .string ⟨#[]⟩, .string ⟨#[]⟩, .string ⟨#[]⟩, .int .u64 0, .string ⟨#[]⟩, .string ⟨#[]⟩, .string ⟨#[]⟩, .string ⟨#[]⟩, .string ⟨#[]⟩, .string ⟨#[]⟩, .string ⟨#[]⟩] 30))
  have xA := kA.cell
  go_enter Try.func10, Try.ntmps10
  go_upto_region 3 with fail
  obtain ⟨w1, hw1⟩ := named (((w.alloc (.cells #[.int .u8 7, .int .u64 (an : Int), .int .u8 (ac.toNat : Int), .string ai, .string ax, .string au, .string aw, .int .u64 (av : Int), .string s1, .string s2, .string s3, .string s4, .string s5, .string s6, .string s7] 30)).alloc (.cells #[.int .u8 7] 5)).alloc (.cells #[.int .u8 7, .int .u64 0, .int .u8 0, .string ⟨#[]⟩, .string ⟨#[]⟩, .string ⟨#[]⟩, .string ⟨#[]⟩, .int .u64 0, .string ⟨#[]⟩, .string ⟨#[]⟩, .string ⟨#[]⟩, .string ⟨#[]⟩, .string ⟨#[]⟩, .string ⟨#[]⟩, .string ⟨#[]⟩] 30))
  rw [← hw1.out] at kA kB hb ⊢
  clear hw1 xA hcv
  have xA := kA.cell
  have xB := kB.cell
  cases q with
  | true =>
    go_wp2
    go_ret2
    exact ⟨by rw [HF.out.1 (by simp)]; rfl, hb⟩
  | false =>
    go_wp2
    go_ret2
    exact ⟨by rw [HF.out.2 (by simp)]; rfl, hb⟩
set_option maxRecDepth 100000 in
set_option maxHeartbeats 2000000 in
theorem refWA_8 (an : Nat) (ac : UInt8) (ai ax au aw : ByteArray) (av : Nat) (s1 s2 s3 s4 s5 s6 s7 : ByteArray) (F : List UInt8 × Int) (q : Bool) (w : World) 
    (hq : ∀ W : World, (binOp .neq 30 (.agg #[.int .u8 8, .int .u64 (an : Int), .int .u8 (ac.toNat : Int), .string ai, .string ax, .string au, .string aw, .int .u64 (av : Int), .string s1, .string s2, .string s3, .string s4, .string s5, .string s6, .string s7]) (.agg #[.int .u8 8, .int .u64 0, .int .u8 0, .string ⟨#[]⟩, .string ⟨#[]⟩, .string ⟨#[]⟩, .string ⟨#[]⟩, .int .u64 0, .string ⟨#[]⟩, .string ⟨#[]⟩, .string ⟨#[]⟩, .string ⟨#[]⟩, .string ⟨#[]⟩, .string ⟨#[]⟩, .string ⟨#[]⟩])).run Try.prog W = .ok (.bool q) W) (HF : Hid ((q = true → F = ([], 14)) ∧ (q = false → F = ([8], 0)))) :
    Calls Try.prog 10 #[.agg #[.int .u8 8, .int .u64 (an : Int), .int .u8 (ac.toNat : Int), .string ai, .string ax, .string au, .string aw, .int .u64 (av : Int), .string s1, .string s2, .string s3, .string s4, .string s5, .string s6, .string s7]] w fun e w' => e = .returned (.tuple #[.string (str F.1), .int .i64 F.2]) ∧ Below w.heap.size w w' := by
  have kA := ((Blk.new w [.int .u8 8, .int .u64 (an : Int), .int .u8 (ac.toNat : Int), .string ai, .string ax, .string au, .string aw, .int .u64 (av : Int), .string s1, .string s2, .string s3, .string s4, .string s5, .string s6, .string s7] 30).alloc (.cells #[.int .u8 8] 5)).alloc (.cells #[.int .u8 8, .int .u64 0, .int .u8 0, .string ⟨#[]⟩, .string ⟨#[]⟩, .string ⟨#[]⟩, .string ⟨#[]⟩, .int .u64 0, .string ⟨#[]⟩, .string ⟨#[]⟩, .string ⟨#[]⟩, .string ⟨#[]⟩, .string ⟨#[]⟩, .string ⟨#[]⟩, .string ⟨#[]⟩] 30)
  have hcv := blk_string' (k := 8) (Blk.new (w.alloc (.cells #[.int .u8 8, .int .u64 (an : Int), .int .u8 (ac.toNat : Int), .string ai, .string ax, .string au, .string aw, .int .u64 (av : Int), .string s1, .string s2, .string s3, .string s4, .string s5, .string s6, .string s7] 30)) [.int .u8 8] 5)
  rw [show (w.alloc (.cells #[.int .u8 8, .int .u64 (an : Int), .int .u8 (ac.toNat : Int), .string ai, .string ax, .string au, .string aw, .int .u64 (av : Int), .string s1, .string s2, .string s3, .string s4, .string s5, .string s6, .string s7] 30)).heap.size = w.heap.size + 1 by simp] at hcv
  have kB := Blk.new ((w.alloc (.cells #[.int .u8 8, .int .u64 (an : Int), .int .u8 (ac.toNat : Int), .string ai, .string ax, .string au, .string aw, .int .u64 (av : Int), .string s1, .string s2, .string s3, .string s4, .string s5, .string s6, .string s7] 30)).alloc (.cells #[.int .u8 8] 5)) [.int .u8 8, .int .u64 0, .int .u8 0, .string ⟨#[]⟩, .string ⟨#[]⟩, .string ⟨#[]⟩, .string ⟨#[]⟩, .int .u64 0, .string ⟨#[]⟩, .string ⟨#[]⟩, .string ⟨#[]⟩, .string ⟨#[]⟩, .string ⟨#[]⟩, .string ⟨#[]⟩, .string ⟨#[]⟩] 30
  rw [show ((w.alloc (.cells #[.int .u8 8, .int .u64 (an : Int), .int .u8 (ac.toNat : Int), .string ai, .string ax, .string au, .string aw, .int .u64 (av : Int), .string s1, .string s2, .string s3, .string s4, .string s5, .string s6, .string s7] 30)).alloc (.cells #[.int .u8 8] 5)).heap.size = w.heap.size + 1 + 1 by simp] at kB
  have hb := bt (bt (below_alloc w (.cells #[.int .u8 8, .int .u64 (an : Int), .int .u8 (ac.toNat : Int), .string ai, .string ax, .string au, .string aw, .int .u64 (av : Int), .string s1, .string s2, .string s3, .string s4, .string s5, .string s6, .string s7] 30)) (below_alloc _ (.cells #[.int .u8 8] 5))) (below_alloc _ (.cells #[.int .u8 8, .int .u64 0, .int .u8 0, .string ⟨#[]⟩, .string ⟨#[]⟩, .string ⟨#[]⟩, .string ⟨#[]⟩, .int .u64 0, .string ⟨#[]⟩, .string ⟨#[]⟩, .string ⟨#[]⟩, .string ⟨#[]⟩, .string ⟨#[]⟩, .string ⟨#[]⟩, .string ⟨#[]⟩] 30))
  have xA := kA.cell
  go_enter Try.func10, Try.ntmps10
  go_upto_region 3 with fail
  obtain ⟨w1, hw1⟩ := named (((w.alloc (.cells #[.int .u8 8, .int .u64 (an : Int), .int .u8 (ac.toNat : Int), .string ai, .string ax, .string au, .string aw, .int .u64 (av : Int), .string s1, .string s2, .string s3, .string s4, .string s5, .string s6, .string s7] 30)).alloc (.cells #[.int .u8 8] 5)).alloc (.cells #[.int .u8 8, .int .u64 0, .int .u8 0, .string ⟨#[]⟩, .string ⟨#[]⟩, .string ⟨#[]⟩, .string ⟨#[]⟩, .int .u64 0, .string ⟨#[]⟩, .string ⟨#[]⟩, .string ⟨#[]⟩, .string ⟨#[]⟩, .string ⟨#[]⟩, .string ⟨#[]⟩, .string ⟨#[]⟩] 30))
  rw [← hw1.out] at kA kB hb ⊢
  clear hw1 xA hcv
  have xA := kA.cell
  have xB := kB.cell
  cases q with
  | true =>
    go_wp2
    go_ret2
    exact ⟨by rw [HF.out.1 (by simp)]; rfl, hb⟩
  | false =>
    go_wp2
    go_ret2
    exact ⟨by rw [HF.out.2 (by simp)]; rfl, hb⟩
set_option maxRecDepth 100000 in
set_option maxHeartbeats 2000000 in
theorem refWA_3 (an : Nat) (ac : UInt8) (ai ax au aw : ByteArray) (av : Nat) (s1 s2 s3 s4 s5 s6 s7 : ByteArray) (F : List UInt8 × Int) (q : Bool) (w : World) (hn : an < 18446744073709551616)
    (hq : ∀ W : World, (binOp .neq 30 (.agg #[.int .u8 3, .int .u64 (an : Int), .int .u8 (ac.toNat : Int), .string ai, .string ax, .string au, .string aw, .int .u64 (av : Int), .string s1, .string s2, .string s3, .string s4, .string s5, .string s6, .string s7]) (.agg #[.int .u8 3, .int .u64 (an : Int), .int .u8 0, .string ⟨#[]⟩, .string ⟨#[]⟩, .string ⟨#[]⟩, .string ⟨#[]⟩, .int .u64 0, .string ⟨#[]⟩, .string ⟨#[]⟩, .string ⟨#[]⟩, .string ⟨#[]⟩, .string ⟨#[]⟩, .string ⟨#[]⟩, .string ⟨#[]⟩])).run Try.prog W = .ok (.bool q) W) (HF : Hid ((q = true → F = ([], 14)) ∧ (q = false → F = (3 :: putL an 8, 0)))) :
    Calls Try.prog 10 #[.agg #[.int .u8 3, .int .u64 (an : Int), .int .u8 (ac.toNat : Int), .string ai, .string ax, .string au, .string aw, .int .u64 (av : Int), .string s1, .string s2, .string s3, .string s4, .string s5, .string s6, .string s7]] w fun e w' => e = .returned (.tuple #[.string (str F.1), .int .i64 F.2]) ∧ Below w.heap.size w w' := by
  have kA := ((Blk.new w [.int .u8 3, .int .u64 (an : Int), .int .u8 (ac.toNat : Int), .string ai, .string ax, .string au, .string aw, .int .u64 (av : Int), .string s1, .string s2, .string s3, .string s4, .string s5, .string s6, .string s7] 30).alloc (.cells #[.int .u8 3] 5)).alloc (.cells #[.int .u8 3, .int .u64 0, .int .u8 0, .string ⟨#[]⟩, .string ⟨#[]⟩, .string ⟨#[]⟩, .string ⟨#[]⟩, .int .u64 0, .string ⟨#[]⟩, .string ⟨#[]⟩, .string ⟨#[]⟩, .string ⟨#[]⟩, .string ⟨#[]⟩, .string ⟨#[]⟩, .string ⟨#[]⟩] 30)
  have hcv := blk_string' (k := 3) (Blk.new (w.alloc (.cells #[.int .u8 3, .int .u64 (an : Int), .int .u8 (ac.toNat : Int), .string ai, .string ax, .string au, .string aw, .int .u64 (av : Int), .string s1, .string s2, .string s3, .string s4, .string s5, .string s6, .string s7] 30)) [.int .u8 3] 5)
  rw [show (w.alloc (.cells #[.int .u8 3, .int .u64 (an : Int), .int .u8 (ac.toNat : Int), .string ai, .string ax, .string au, .string aw, .int .u64 (av : Int), .string s1, .string s2, .string s3, .string s4, .string s5, .string s6, .string s7] 30)).heap.size = w.heap.size + 1 by simp] at hcv
  have kB := Blk.new ((w.alloc (.cells #[.int .u8 3, .int .u64 (an : Int), .int .u8 (ac.toNat : Int), .string ai, .string ax, .string au, .string aw, .int .u64 (av : Int), .string s1, .string s2, .string s3, .string s4, .string s5, .string s6, .string s7] 30)).alloc (.cells #[.int .u8 3] 5)) [.int .u8 3, .int .u64 0, .int .u8 0, .string ⟨#[]⟩, .string ⟨#[]⟩, .string ⟨#[]⟩, .string ⟨#[]⟩, .int .u64 0, .string ⟨#[]⟩, .string ⟨#[]⟩, .string ⟨#[]⟩, .string ⟨#[]⟩, .string ⟨#[]⟩, .string ⟨#[]⟩, .string ⟨#[]⟩] 30
  rw [show ((w.alloc (.cells #[.int .u8 3, .int .u64 (an : Int), .int .u8 (ac.toNat : Int), .string ai, .string ax, .string au, .string aw, .int .u64 (av : Int), .string s1, .string s2, .string s3, .string s4, .string s5, .string s6, .string s7] 30)).alloc (.cells #[.int .u8 3] 5)).heap.size = w.heap.size + 1 + 1 by simp] at kB
  have hb := bt (bt (below_alloc w (.cells #[.int .u8 3, .int .u64 (an : Int), .int .u8 (ac.toNat : Int), .string ai, .string ax, .string au, .string aw, .int .u64 (av : Int), .string s1, .string s2, .string s3, .string s4, .string s5, .string s6, .string s7] 30)) (below_alloc _ (.cells #[.int .u8 3] 5))) (below_alloc _ (.cells #[.int .u8 3, .int .u64 0, .int .u8 0, .string ⟨#[]⟩, .string ⟨#[]⟩, .string ⟨#[]⟩, .string ⟨#[]⟩, .int .u64 0, .string ⟨#[]⟩, .string ⟨#[]⟩, .string ⟨#[]⟩, .string ⟨#[]⟩, .string ⟨#[]⟩, .string ⟨#[]⟩, .string ⟨#[]⟩] 30))
  have xA := kA.cell
  go_enter Try.func10, Try.ntmps10
  go_upto_region 3 with fail
  obtain ⟨w1, hw1⟩ := named (((w.alloc (.cells #[.int .u8 3, .int .u64 (an : Int), .int .u8 (ac.toNat : Int), .string ai, .string ax, .string au, .string aw, .int .u64 (av : Int), .string s1, .string s2, .string s3, .string s4, .string s5, .string s6, .string s7] 30)).alloc (.cells #[.int .u8 3] 5)).alloc (.cells #[.int .u8 3, .int .u64 0, .int .u8 0, .string ⟨#[]⟩, .string ⟨#[]⟩, .string ⟨#[]⟩, .string ⟨#[]⟩, .int .u64 0, .string ⟨#[]⟩, .string ⟨#[]⟩, .string ⟨#[]⟩, .string ⟨#[]⟩, .string ⟨#[]⟩, .string ⟨#[]⟩, .string ⟨#[]⟩] 30))
  rw [← hw1.out] at kA kB hb ⊢
  clear hw1 xA hcv
  have hp := fun W => refput64_w an W hn
  obtain ⟨U0, hU0⟩ := named (str [(3 : UInt8)])
  obtain ⟨T1, hT1⟩ := named (str (putL an 8))
  obtain ⟨R1, hR1⟩ := named (U0 ++ T1)
  have hres : R1 = str (3 :: putL an 8) := by rw [hR1.out, hU0.out, hT1.out, str_append]; rfl
  have hadd : ∀ W : World, (Op.stringOp .add U0 T1).run Try.prog W = .ok (.string R1) W := fun W => by
    rw [hR1.out]
    refine run_string_add_sum W _ _ ?_
    rw [hU0.out, hT1.out, str_size, str_size, putL_length]
    decide
  simp only [← hT1.out] at hp
  have HRES := hide hres
  rw [← hU0.out]
  clear hU0 hT1 hR1 hres
  have xA := kA.cell
  have kB2 := kB.set 1 (.int .u64 (an : Int))
  have kA2 := kA.far (p := ⟨w.heap.size + 1 + 1, 1, none⟩) (by show w.heap.size ≠ w.heap.size + 1 + 1; omega) (.int .u64 (an : Int))
  have hb2 := hb.setCell (p := ⟨w.heap.size + 1 + 1, 1, none⟩) (by show w.heap.size ≤ w.heap.size + 1 + 1; omega) (.int .u64 (an : Int))
  have xB := kB.cell
  have fB := kB.free
  go_upto_region 17 with fail
  obtain ⟨w2, hw2⟩ := named (w1.setCell ⟨w.heap.size + 1 + 1, 1, none⟩ (.int .u64 (an : Int)))
  rw [← hw2.out] at kA2 kB2 hb2 ⊢
  clear hw2 xA xB fB kA kB hb
  have xA := kA2.cell
  go_wp2_with fail
  refine (hp _).mono ?_
  rintro e w3 ⟨rfl, hb3⟩
  have kA3 := kA2.below hb3
  have kB3 := kB2.below hb3
  have hb4 := bt hb2 hb3
  clear xA hp kA2 kB2 hb2 hb3
  have xA := kA3.cell
  have xB := kB3.cell
  cases q with
  | true =>
    go_wp2
    go_ret2
    exact ⟨by rw [HF.out.1 (by simp)]; rfl, hb4⟩
  | false =>
    go_wp2
    go_ret2
    exact ⟨by rw [HF.out.2 (by simp), HRES.out]; rfl, hb4⟩
set_option maxRecDepth 100000 in
set_option maxHeartbeats 2000000 in
theorem refWA_4 (an : Nat) (ac : UInt8) (ai ax au aw : ByteArray) (av : Nat) (s1 s2 s3 s4 s5 s6 s7 : ByteArray) (F : List UInt8 × Int) (q : Bool) (w : World) (hn : an < 18446744073709551616)
    (hq : ∀ W : World, (binOp .neq 30 (.agg #[.int .u8 4, .int .u64 (an : Int), .int .u8 (ac.toNat : Int), .string ai, .string ax, .string au, .string aw, .int .u64 (av : Int), .string s1, .string s2, .string s3, .string s4, .string s5, .string s6, .string s7]) (.agg #[.int .u8 4, .int .u64 (an : Int), .int .u8 0, .string ⟨#[]⟩, .string ⟨#[]⟩, .string ⟨#[]⟩, .string ⟨#[]⟩, .int .u64 0, .string ⟨#[]⟩, .string ⟨#[]⟩, .string ⟨#[]⟩, .string ⟨#[]⟩, .string ⟨#[]⟩, .string ⟨#[]⟩, .string ⟨#[]⟩])).run Try.prog W = .ok (.bool q) W) (HF : Hid ((q = true → F = ([], 14)) ∧ (q = false → F = (4 :: putL an 8, 0)))) :
    Calls Try.prog 10 #[.agg #[.int .u8 4, .int .u64 (an : Int), .int .u8 (ac.toNat : Int), .string ai, .string ax, .string au, .string aw, .int .u64 (av : Int), .string s1, .string s2, .string s3, .string s4, .string s5, .string s6, .string s7]] w fun e w' => e = .returned (.tuple #[.string (str F.1), .int .i64 F.2]) ∧ Below w.heap.size w w' := by
  have kA := ((Blk.new w [.int .u8 4, .int .u64 (an : Int), .int .u8 (ac.toNat : Int), .string ai, .string ax, .string au, .string aw, .int .u64 (av : Int), .string s1, .string s2, .string s3, .string s4, .string s5, .string s6, .string s7] 30).alloc (.cells #[.int .u8 4] 5)).alloc (.cells #[.int .u8 4, .int .u64 0, .int .u8 0, .string ⟨#[]⟩, .string ⟨#[]⟩, .string ⟨#[]⟩, .string ⟨#[]⟩, .int .u64 0, .string ⟨#[]⟩, .string ⟨#[]⟩, .string ⟨#[]⟩, .string ⟨#[]⟩, .string ⟨#[]⟩, .string ⟨#[]⟩, .string ⟨#[]⟩] 30)
  have hcv := blk_string' (k := 4) (Blk.new (w.alloc (.cells #[.int .u8 4, .int .u64 (an : Int), .int .u8 (ac.toNat : Int), .string ai, .string ax, .string au, .string aw, .int .u64 (av : Int), .string s1, .string s2, .string s3, .string s4, .string s5, .string s6, .string s7] 30)) [.int .u8 4] 5)
  rw [show (w.alloc (.cells #[.int .u8 4, .int .u64 (an : Int), .int .u8 (ac.toNat : Int), .string ai, .string ax, .string au, .string aw, .int .u64 (av : Int), .string s1, .string s2, .string s3, .string s4, .string s5, .string s6, .string s7] 30)).heap.size = w.heap.size + 1 by simp] at hcv
  have kB := Blk.new ((w.alloc (.cells #[.int .u8 4, .int .u64 (an : Int), .int .u8 (ac.toNat : Int), .string ai, .string ax, .string au, .string aw, .int .u64 (av : Int), .string s1, .string s2, .string s3, .string s4, .string s5, .string s6, .string s7] 30)).alloc (.cells #[.int .u8 4] 5)) [.int .u8 4, .int .u64 0, .int .u8 0, .string ⟨#[]⟩, .string ⟨#[]⟩, .string ⟨#[]⟩, .string ⟨#[]⟩, .int .u64 0, .string ⟨#[]⟩, .string ⟨#[]⟩, .string ⟨#[]⟩, .string ⟨#[]⟩, .string ⟨#[]⟩, .string ⟨#[]⟩, .string ⟨#[]⟩] 30
  rw [show ((w.alloc (.cells #[.int .u8 4, .int .u64 (an : Int), .int .u8 (ac.toNat : Int), .string ai, .string ax, .string au, .string aw, .int .u64 (av : Int), .string s1, .string s2, .string s3, .string s4, .string s5, .string s6, .string s7] 30)).alloc (.cells #[.int .u8 4] 5)).heap.size = w.heap.size + 1 + 1 by simp] at kB
  have hb := bt (bt (below_alloc w (.cells #[.int .u8 4, .int .u64 (an : Int), .int .u8 (ac.toNat : Int), .string ai, .string ax, .string au, .string aw, .int .u64 (av : Int), .string s1, .string s2, .string s3, .string s4, .string s5, .string s6, .string s7] 30)) (below_alloc _ (.cells #[.int .u8 4] 5))) (below_alloc _ (.cells #[.int .u8 4, .int .u64 0, .int .u8 0, .string ⟨#[]⟩, .string ⟨#[]⟩, .string ⟨#[]⟩, .string ⟨#[]⟩, .int .u64 0, .string ⟨#[]⟩, .string ⟨#[]⟩, .string ⟨#[]⟩, .string ⟨#[]⟩, .string ⟨#[]⟩, .string ⟨#[]⟩, .string ⟨#[]⟩] 30))
  have xA := kA.cell
  go_enter Try.func10, Try.ntmps10
  go_upto_region 3 with fail
  obtain ⟨w1, hw1⟩ := named (((w.alloc (.cells #[.int .u8 4, .int .u64 (an : Int), .int .u8 (ac.toNat : Int), .string ai, .string ax, .string au, .string aw, .int .u64 (av : Int), .string s1, .string s2, .string s3, .string s4, .string s5, .string s6, .string s7] 30)).alloc (.cells #[.int .u8 4] 5)).alloc (.cells #[.int .u8 4, .int .u64 0, .int .u8 0, .string ⟨#[]⟩, .string ⟨#[]⟩, .string ⟨#[]⟩, .string ⟨#[]⟩, .int .u64 0, .string ⟨#[]⟩, .string ⟨#[]⟩, .string ⟨#[]⟩, .string ⟨#[]⟩, .string ⟨#[]⟩, .string ⟨#[]⟩, .string ⟨#[]⟩] 30))
  rw [← hw1.out] at kA kB hb ⊢
  clear hw1 xA hcv
  have hp := fun W => refput64_w an W hn
  obtain ⟨U0, hU0⟩ := named (str [(4 : UInt8)])
  obtain ⟨T1, hT1⟩ := named (str (putL an 8))
  obtain ⟨R1, hR1⟩ := named (U0 ++ T1)
  have hres : R1 = str (4 :: putL an 8) := by rw [hR1.out, hU0.out, hT1.out, str_append]; rfl
  have hadd : ∀ W : World, (Op.stringOp .add U0 T1).run Try.prog W = .ok (.string R1) W := fun W => by
    rw [hR1.out]
    refine run_string_add_sum W _ _ ?_
    rw [hU0.out, hT1.out, str_size, str_size, putL_length]
    decide
  simp only [← hT1.out] at hp
  have HRES := hide hres
  rw [← hU0.out]
  clear hU0 hT1 hR1 hres
  have xA := kA.cell
  have kB2 := kB.set 1 (.int .u64 (an : Int))
  have kA2 := kA.far (p := ⟨w.heap.size + 1 + 1, 1, none⟩) (by show w.heap.size ≠ w.heap.size + 1 + 1; omega) (.int .u64 (an : Int))
  have hb2 := hb.setCell (p := ⟨w.heap.size + 1 + 1, 1, none⟩) (by show w.heap.size ≤ w.heap.size + 1 + 1; omega) (.int .u64 (an : Int))
  have xB := kB.cell
  have fB := kB.free
  go_upto_region 17 with fail
  obtain ⟨w2, hw2⟩ := named (w1.setCell ⟨w.heap.size + 1 + 1, 1, none⟩ (.int .u64 (an : Int)))
  rw [← hw2.out] at kA2 kB2 hb2 ⊢
  clear hw2 xA xB fB kA kB hb
  have xA := kA2.cell
  go_wp2_with fail
  refine (hp _).mono ?_
  rintro e w3 ⟨rfl, hb3⟩
  have kA3 := kA2.below hb3
  have kB3 := kB2.below hb3
  have hb4 := bt hb2 hb3
  clear xA hp kA2 kB2 hb2 hb3
  have xA := kA3.cell
  have xB := kB3.cell
  cases q with
  | true =>
    go_wp2
    go_ret2
    exact ⟨by rw [HF.out.1 (by simp)]; rfl, hb4⟩
  | false =>
    go_wp2
    go_ret2
    exact ⟨by rw [HF.out.2 (by simp), HRES.out]; rfl, hb4⟩
set_option maxRecDepth 100000 in
set_option maxHeartbeats 2000000 in
theorem refWA_no (k : UInt8) (an : Nat) (ac : UInt8) (ai ax au aw : ByteArray) (av : Nat) (s1 s2 s3 s4 s5 s6 s7 : ByteArray) (w : World) (h : ¬ (1 ≤ k.toNat ∧ k.toNat ≤ 8)) :
    Calls Try.prog 10 #[.agg #[.int .u8 (k.toNat : Int), .int .u64 (an : Int), .int .u8 (ac.toNat : Int), .string ai, .string ax, .string au, .string aw, .int .u64 (av : Int), .string s1, .string s2, .string s3, .string s4, .string s5, .string s6, .string s7]] w fun e w' => e = .returned (.tuple #[.string (str []), .int .i64 14]) ∧ Below w.heap.size w w' := by
  have t1 : ((k.toNat : Int) == 1) = false := by simp; omega
  have t2 : ((k.toNat : Int) == 2) = false := by simp; omega
  have t3 : ((k.toNat : Int) == 3) = false := by simp; omega
  have t4 : ((k.toNat : Int) == 4) = false := by simp; omega
  have t5 : ((k.toNat : Int) == 5) = false := by simp; omega
  have t6 : ((k.toNat : Int) == 6) = false := by simp; omega
  have t7 : ((k.toNat : Int) == 7) = false := by simp; omega
  have t8 : ((k.toNat : Int) == 8) = false := by simp; omega
  have kA := ((Blk.new w [.int .u8 (k.toNat : Int), .int .u64 (an : Int), .int .u8 (ac.toNat : Int), .string ai, .string ax, .string au, .string aw, .int .u64 (av : Int), .string s1, .string s2, .string s3, .string s4, .string s5, .string s6, .string s7] 30).alloc (.cells #[.int .u8 (k.toNat : Int)] 5)).alloc (.cells #[.int .u8 (k.toNat : Int), .int .u64 0, .int .u8 0, .string ⟨#[]⟩, .string ⟨#[]⟩, .string ⟨#[]⟩, .string ⟨#[]⟩, .int .u64 0, .string ⟨#[]⟩, .string ⟨#[]⟩, .string ⟨#[]⟩, .string ⟨#[]⟩, .string ⟨#[]⟩, .string ⟨#[]⟩, .string ⟨#[]⟩] 30)
  have hcv := blk_string' (k := k) (Blk.new (w.alloc (.cells #[.int .u8 (k.toNat : Int), .int .u64 (an : Int), .int .u8 (ac.toNat : Int), .string ai, .string ax, .string au, .string aw, .int .u64 (av : Int), .string s1, .string s2, .string s3, .string s4, .string s5, .string s6, .string s7] 30)) [.int .u8 (k.toNat : Int)] 5)
  rw [show (w.alloc (.cells #[.int .u8 (k.toNat : Int), .int .u64 (an : Int), .int .u8 (ac.toNat : Int), .string ai, .string ax, .string au, .string aw, .int .u64 (av : Int), .string s1, .string s2, .string s3, .string s4, .string s5, .string s6, .string s7] 30)).heap.size = w.heap.size + 1 by simp] at hcv
  have kB := Blk.new ((w.alloc (.cells #[.int .u8 (k.toNat : Int), .int .u64 (an : Int), .int .u8 (ac.toNat : Int), .string ai, .string ax, .string au, .string aw, .int .u64 (av : Int), .string s1, .string s2, .string s3, .string s4, .string s5, .string s6, .string s7] 30)).alloc (.cells #[.int .u8 (k.toNat : Int)] 5)) [.int .u8 (k.toNat : Int), .int .u64 0, .int .u8 0, .string ⟨#[]⟩, .string ⟨#[]⟩, .string ⟨#[]⟩, .string ⟨#[]⟩, .int .u64 0, .string ⟨#[]⟩, .string ⟨#[]⟩, .string ⟨#[]⟩, .string ⟨#[]⟩, .string ⟨#[]⟩, .string ⟨#[]⟩, .string ⟨#[]⟩] 30
  rw [show ((w.alloc (.cells #[.int .u8 (k.toNat : Int), .int .u64 (an : Int), .int .u8 (ac.toNat : Int), .string ai, .string ax, .string au, .string aw, .int .u64 (av : Int), .string s1, .string s2, .string s3, .string s4, .string s5, .string s6, .string s7] 30)).alloc (.cells #[.int .u8 (k.toNat : Int)] 5)).heap.size = w.heap.size + 1 + 1 by simp] at kB
  have hb := bt (bt (below_alloc w (.cells #[.int .u8 (k.toNat : Int), .int .u64 (an : Int), .int .u8 (ac.toNat : Int), .string ai, .string ax, .string au, .string aw, .int .u64 (av : Int), .string s1, .string s2, .string s3, .string s4, .string s5, .string s6, .string s7] 30)) (below_alloc _ (.cells #[.int .u8 (k.toNat : Int)] 5))) (below_alloc _ (.cells #[.int .u8 (k.toNat : Int), .int .u64 0, .int .u8 0, .string ⟨#[]⟩, .string ⟨#[]⟩, .string ⟨#[]⟩, .string ⟨#[]⟩, .int .u64 0, .string ⟨#[]⟩, .string ⟨#[]⟩, .string ⟨#[]⟩, .string ⟨#[]⟩, .string ⟨#[]⟩, .string ⟨#[]⟩, .string ⟨#[]⟩] 30))
  have xA := kA.cell
  clear h
  go_enter Try.func10, Try.ntmps10
  go_upto_region 3 with fail
  obtain ⟨w1, hw1⟩ := named (((w.alloc (.cells #[.int .u8 (k.toNat : Int), .int .u64 (an : Int), .int .u8 (ac.toNat : Int), .string ai, .string ax, .string au, .string aw, .int .u64 (av : Int), .string s1, .string s2, .string s3, .string s4, .string s5, .string s6, .string s7] 30)).alloc (.cells #[.int .u8 (k.toNat : Int)] 5)).alloc (.cells #[.int .u8 (k.toNat : Int), .int .u64 0, .int .u8 0, .string ⟨#[]⟩, .string ⟨#[]⟩, .string ⟨#[]⟩, .string ⟨#[]⟩, .int .u64 0, .string ⟨#[]⟩, .string ⟨#[]⟩, .string ⟨#[]⟩, .string ⟨#[]⟩, .string ⟨#[]⟩, .string ⟨#[]⟩, .string ⟨#[]⟩] 30))
  rw [← hw1.out] at kA kB hb ⊢
  clear hw1 xA hcv
  have xA := kA.cell
  go_wp2
  go_ret2
  exact ⟨rfl, hb⟩
end Go.Proofs.Ytiodfbbgbnbdpaa
