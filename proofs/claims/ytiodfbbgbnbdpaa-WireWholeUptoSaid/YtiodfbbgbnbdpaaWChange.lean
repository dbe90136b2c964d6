/- wire's writer: change. -/
import Derived.Test.YtiodfbbgbnbdpaaPack
namespace Go.Proofs.Ytiodfbbgbnbdpaa
set_option linter.unusedSimpArgs false
set_option linter.unusedVariables false
open Go.RowKit
open Crc
theorem packR_len (c : Chg) : (packR c).1.length ≤ 8210 := by
  unfold packR
  split
  · simp
  · split
    · simp
    · rename_i h
      have := preB_len (c := c) (by simpa using h) (i := 4) (by omega)
      exact this
set_option maxRecDepth 100000 in
set_option maxHeartbeats 1000000 in
theorem wchange_w (B g A : Nat) (P : Nat → Prop) (bs : List UInt8) (bad : Bool) (a : Ask) (w : World) (h : Wr B g P bs bad w) (hA : P A) (hb : Blk w A (askCells a) 30) (h2 : 2 ≤ bs.length) (hlen : bs.length + 8210 ≤ 140737488355328) :
    Calls Try.prog 64 #[.pointer (some ⟨g, 0, none⟩), .pointer (some ⟨A, 2, none⟩)] w fun e w' => e = .returned (.tuple #[]) ∧ Wr B g P (bs ++ (packR a.c).1) (bad || decide ((packR a.c).2 ≠ 0)) w' ∧ KP B P w w' := by
  obtain ⟨ak, an, ⟨k, id, tx, ut, ui⟩, av, ats⟩ := a
  have x2 : w.cell? ⟨A, 2, none⟩ = some (.int .u8 (k.toNat : Int)) := by rw [hb.cell]; rfl
  have x3 : w.cell? ⟨A, 3, none⟩ = some (.string id) := by rw [hb.cell]; rfl
  have x4 : w.cell? ⟨A, 4, none⟩ = some (.string tx) := by rw [hb.cell]; rfl
  have x5 : w.cell? ⟨A, 5, none⟩ = some (.string ut) := by rw [hb.cell]; rfl
  have x6 : w.cell? ⟨A, 6, none⟩ = some (.string ui) := by rw [hb.cell]; rfl
  have hpk := fun b W (h : Blk W b (chCells ⟨k, id, tx, ut, ui⟩) 28) => pack_w b ⟨k, id, tx, ut, ui⟩ W h
  have hpl := packR_len ⟨k, id, tx, ut, ui⟩
  simp only
  obtain ⟨R, hR⟩ := named (packR ⟨k, id, tx, ut, ui⟩)
  simp only [← hR.out] at hpk hpl ⊢
  clear hR
  obtain ⟨t, E⟩ := R
  simp only at hpk hpl ⊢
  have hP := h.isP
  have hal := below_alloc w (.cells #[.int .u8 (k.toNat : Int), .string id, .string tx, .string ut, .string ui] 28)
  have hN : Blk (w.alloc (.cells #[.int .u8 (k.toNat : Int), .string id, .string tx, .string ut, .string ui] 28)) w.heap.size (chCells ⟨k, id, tx, ut, ui⟩) 28 := Blk.new w _ _
  have h1 : Wr B g P bs bad (w.alloc (.cells #[.int .u8 (k.toNat : Int), .string id, .string tx, .string ut, .string ui] 28)) := BuT.below h hal
  have k1 := KP.of (P := P) hal hP.2 hP.1
  obtain ⟨S, hS⟩ := named (str t)
  simp only [← hS.out] at hpk
  have hE : (E != 0) = decide (E ≠ 0) := by
    by_cases h9 : E = 0 <;> simp [h9]
  obtain ⟨q, hq⟩ := named (decide (E ≠ 0))
  rw [← hq.out] at hE ⊢
  clear hq
  obtain ⟨bb, hbb⟩ := named (bad || q)
  rw [← hbb.out]
  go_enter Try.func64, Try.ntmps64
  go_wp2_with fail
  refine (hpk _ _ hN).mono ?_
  rintro e w2 ⟨rfl, hb2⟩
  have h3 : Wr B g P bs bad w2 := BuT.below h1 hb2
  have k2 := k1.trans (KP.of (P := P) hb2 h1.isP.2 h1.isP.1)
  obtain ⟨h4, k4⟩ := h3.bad (b := bb)
  have k5 := k2.trans k4
  have c2 := h3.cell.1
  have f2 := h3.cell.2
  clear hpk x2 x3 x4 x5 x6 hN h1 k1 hal h3 k2 k4 hb
  have hws := fun W (hW : Wr B g P bs bb W) => writeStringT B g (cellsOf bs) S W hW tok_writer (by rw [cellsOf_length, hS.out, str_size]; omega) (.inr (by rw [cellsOf_length]; omega))
  have fin : ∀ W, BuT 58 [.bool bb] B g P (cellsOf bs ++ cellsOf S.data.toList) W → Wr B g P (bs ++ t) bb W := fun W hW => by
    rw [hS.out, str_data] at hW
    unfold Wr
    rw [cellsOf_append]
    exact hW
  have FIN := hide fin
  clear fin
  cases bad with
  | true =>
    go_upto_region 2 with fail
    obtain ⟨w3, hw3⟩ := named (w2.setCell ⟨g, 2, none⟩ (.bool bb))
    rw [← hw3.out] at h4 k5
    rw [show w2.setCell ⟨g, 2, none⟩ (.bool true) = w3 from by rw [hw3.out, hbb.out]; rfl]
    clear hw3 c2 f2 hE
    go_wp2_with fail
    refine (hws _ h4).mono ?_
    rintro e w5 ⟨rfl, h5, k6⟩
    have h6 := FIN.out _ h5
    have k7 := k5.trans k6
    clear hws h4 k5 h5 k6 FIN
    go_wp2
    go_end0
    exact ⟨rfl, h6, k7⟩
  | false =>
    go_upto_region 2 with fail
    obtain ⟨w3, hw3⟩ := named (w2.setCell ⟨g, 2, none⟩ (.bool bb))
    rw [← hw3.out] at h4 k5
    rw [show w2.setCell ⟨g, 2, none⟩ (.bool q) = w3 from by rw [hw3.out, hbb.out]; rfl]
    clear hw3 c2 f2 hE
    go_wp2_with fail
    refine (hws _ h4).mono ?_
    rintro e w5 ⟨rfl, h5, k6⟩
    have h6 := FIN.out _ h5
    have k7 := k5.trans k6
    clear hws h4 k5 h5 k6 FIN
    go_wp2
    go_end0
    exact ⟨rfl, h6, k7⟩
end Go.Proofs.Ytiodfbbgbnbdpaa
