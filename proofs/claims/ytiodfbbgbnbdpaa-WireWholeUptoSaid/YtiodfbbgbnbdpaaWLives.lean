/- wire.WriteReply of a reply in range without texts; what the laws ask for first. -/
import Derived.Test.YtiodfbbgbnbdpaaWPass0
import Derived.Test.YtiodfbbgbnbdpaaWriteAsk
namespace Go.Proofs.Ytiodfbbgbnbdpaa
set_option linter.unusedSimpArgs false
set_option linter.unusedVariables false
open Go.RowKit
open Crc
set_option maxRecDepth 100000 in
set_option maxHeartbeats 1000000 in
theorem writeReply0_w (y p : UInt8) (n : Nat) (w : World) :
    Calls Try.prog 14 #[.agg #[.int .i64 (y.toNat : Int), .int .u64 (n : Int), .int .i64 (p.toNat : Int), .bool false, .slice none 0 0, .slice none 0 0]] w fun e w' => e = .returned (.tuple #[.string (str ([] ++ [y] ++ putL n 8 ++ [p] ++ [0] ++ [0] ++ [0])), .int .i64 0]) ∧ Below w.heap.size w w' := by
  have hA0 := Blk.new w [.int .i64 (y.toNat : Int), .int .u64 (n : Int), .int .i64 (p.toNat : Int), .bool false, .slice none 0 0, .slice none 0 0] 44
  have hb0 := below_alloc w (.cells #[.int .i64 (y.toNat : Int), .int .u64 (n : Int), .int .i64 (p.toNat : Int), .bool false, .slice none 0 0, .slice none 0 0] 44)
  have hw0 : Wr w.heap.size (w.heap.size + 1) (fun i => i = w.heap.size) [] false ((w.alloc (.cells #[.int .i64 (y.toNat : Int), .int .u64 (n : Int), .int .i64 (p.toNat : Int), .bool false, .slice none 0 0, .slice none 0 0] 44)).alloc (.cells #[.pointer none, .slice none 0 0, .bool false] 58)) := by
    have := BuT.newP 58 [.bool false] (fun i => i = w.heap.size) (B := w.heap.size) (w := w.alloc (.cells #[.int .i64 (y.toNat : Int), .int .u64 (n : Int), .int .i64 (p.toNat : Int), .bool false, .slice none 0 0, .slice none 0 0] 44)) hb0.size (fun k hk => by subst hk; exact ⟨hA0.lt, small_blk hA0 (by decide)⟩)
    rw [show (w.alloc (.cells #[.int .i64 (y.toNat : Int), .int .u64 (n : Int), .int .i64 (p.toNat : Int), .bool false, .slice none 0 0, .slice none 0 0] 44)).heap.size = w.heap.size + 1 by simp] at this
    exact this
  have hA1 := hA0.alloc (.cells #[.pointer none, .slice none 0 0, .bool false] 58)
  have hb1 := bt hb0 (below_alloc _ (.cells #[.pointer none, .slice none 0 0, .bool false] 58))
  have hp := wpass0_w hw0 rfl (Nat.le_refl _) hA1 (by simp)
  obtain ⟨l, hl⟩ := named ([] ++ [y] ++ putL n 8 ++ [p] ++ [0] ++ [0] ++ [0])
  simp only [← hl.out] at hp
  rw [← hl.out]
  have hne : l ≠ [] := by rw [hl.out]; simp
  have hst := fun W P (h : Wr w.heap.size (w.heap.size + 1) P l false W) => stringT w.heap.size (w.heap.size + 1) l W h (by decide) hne
  obtain ⟨S, hS⟩ := named (str l)
  simp only [← hS.out] at hst ⊢
  clear hA0 hb0 hw0 hne hl hS
  go_enter Try.func14, Try.ntmps14
  go_upto_region 2 with fail
  obtain ⟨w1, hw1⟩ := named ((w.alloc (.cells #[.int .i64 (y.toNat : Int), .int .u64 (n : Int), .int .i64 (p.toNat : Int), .bool false, .slice none 0 0, .slice none 0 0] 44)).alloc (.cells #[.pointer none, .slice none 0 0, .bool false] 58))
  rw [← hw1.out] at hp hA1 hb1 ⊢
  clear hw1
  go_wp2_with fail
  refine hp.mono ?_
  rintro e w2 ⟨rfl, ⟨P', hw2⟩, hb2⟩
  have hb3 := hb1.trans hb2
  have cb := hw2.cell.1
  clear hp hA1 hb1 hb2
  go_wp2_with fail
  refine (hst _ _ hw2).mono ?_
  rintro e w3 ⟨rfl, kp⟩
  have hb4 := hb3.trans kp.2
  clear hst hw2 cb hb3 kp
  go_wp2
  go_ret2
  exact ⟨rfl, hb4⟩
def liveAsk : Ask := ⟨3, 2, chg0, 0, List.replicate 7 e0⟩
theorem live1 : writeA liveAsk = ([3, 2, 0, 0, 0, 0, 0, 0, 0], 0) := by decide +kernel
theorem live2 : readA [1] = some (askOf 1) := by decide +kernel
theorem live3 : ([] ++ [(7 : UInt8)] ++ putL 1 8 ++ [0] ++ [0] ++ [0] ++ [0]) = [7, 1, 0, 0, 0, 0, 0, 0, 0, 0, 0, 0, 0] := by decide +kernel
set_option maxRecDepth 100000 in
set_option maxHeartbeats 1000000 in
theorem lives19_w (w : World) : Calls Try.prog 13 #[] w fun e w' => e = .returned (.bool true) ∧ Below w.heap.size w w' := by
  have h1 : ∀ W, Calls Try.prog 9 #[.agg #[.int .u8 3, .int .u64 2, .int .u8 0, .string ⟨#[]⟩, .string ⟨#[]⟩, .string ⟨#[]⟩, .string ⟨#[]⟩, .int .u64 0, .string ⟨#[]⟩, .string ⟨#[]⟩, .string ⟨#[]⟩, .string ⟨#[]⟩, .string ⟨#[]⟩, .string ⟨#[]⟩, .string ⟨#[]⟩]] W fun e w' => e = .returned (.tuple #[.string ⟨#[3, 2, 0, 0, 0, 0, 0, 0, 0]⟩, .int .i64 0]) ∧ Below W.heap.size W w' := fun W => by
    have h := writeAsk_w liveAsk W rfl (fun t ht => by rw [List.eq_of_mem_replicate ht]; decide)
    rw [live1] at h
    exact h
  have h2 : ∀ W, Calls Try.prog 11 #[.string ⟨#[1]⟩] W fun e w' => e = .returned (.tuple #[.agg #[.int .u8 1, .int .u64 0, .int .u8 0, .string ⟨#[]⟩, .string ⟨#[]⟩, .string ⟨#[]⟩, .string ⟨#[]⟩, .int .u64 0, .string ⟨#[]⟩, .string ⟨#[]⟩, .string ⟨#[]⟩, .string ⟨#[]⟩, .string ⟨#[]⟩, .string ⟨#[]⟩, .string ⟨#[]⟩], .int .i64 0]) ∧ Below W.heap.size W w' := fun W => by
    have h := readAsk_w ⟨#[1]⟩ W (by decide)
    rw [show (⟨#[1]⟩ : ByteArray).data.toList = [1] from rfl, live2] at h
    exact h
  have h3 : ∀ W, Calls Try.prog 14 #[.agg #[.int .i64 7, .int .u64 1, .int .i64 0, .bool false, .slice none 0 0, .slice none 0 0]] W fun e w' => e = .returned (.tuple #[.string ⟨#[7, 1, 0, 0, 0, 0, 0, 0, 0, 0, 0, 0, 0]⟩, .int .i64 0]) ∧ Below W.heap.size W w' := fun W => by
    have h := writeReply0_w 7 0 1 W
    rw [live3] at h
    exact h
  go_enter Try.func13, Try.ntmps13
  go_wp2_with fail
  refine (h1 _).mono ?_
  rintro e w1 ⟨rfl, hb1⟩
  go_wp2_with fail
  refine (h2 _).mono ?_
  rintro e w2 ⟨rfl, hb2⟩
  have kx := Blk.new w2 [.int .u8 1, .int .u64 0, .int .u8 0, .string ⟨#[]⟩, .string ⟨#[]⟩, .string ⟨#[]⟩, .string ⟨#[]⟩, .int .u64 0, .string ⟨#[]⟩, .string ⟨#[]⟩, .string ⟨#[]⟩, .string ⟨#[]⟩, .string ⟨#[]⟩, .string ⟨#[]⟩, .string ⟨#[]⟩] 30
  have hb3 := bt (bt hb1 hb2) (below_alloc w2 (.cells #[.int .u8 1, .int .u64 0, .int .u8 0, .string ⟨#[]⟩, .string ⟨#[]⟩, .string ⟨#[]⟩, .string ⟨#[]⟩, .int .u64 0, .string ⟨#[]⟩, .string ⟨#[]⟩, .string ⟨#[]⟩, .string ⟨#[]⟩, .string ⟨#[]⟩, .string ⟨#[]⟩, .string ⟨#[]⟩] 30))
  go_wp2_with fail
  refine (h3 _).mono ?_
  rintro e w3 ⟨rfl, hb4⟩
  have xx := (kx.below hb4).cell
  have hb5 := bt hb3 hb4
  clear h1 h2 h3 hb1 hb2 hb3 hb4 kx
  go_wp2
  go_ret
  exact ⟨by simp, hb5⟩
end Go.Proofs.Ytiodfbbgbnbdpaa
