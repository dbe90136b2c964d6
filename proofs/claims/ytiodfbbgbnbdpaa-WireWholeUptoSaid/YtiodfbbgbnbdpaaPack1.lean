/- What change.Pack asks of a change: is it right, is a text of it too long. -/
import Derived.Test.YtiodfbbgbnbdpaaChanges
namespace Go.Proofs.Ytiodfbbgbnbdpaa
set_option linter.unusedSimpArgs false
set_option linter.unusedVariables false
open Go.RowKit
open Crc
def chTexts (c : Chg) : List ByteArray := [c.id, c.tx, c.ut, c.ui]
def chLong (c : Chg) : Bool := (chTexts c).any fun s => decide (2048 < s.size)
theorem long_cast (s : ByteArray) : decide ((2048 : Int) < (s.size : Int)) = decide (2048 < s.size) := by
  by_cases h9 : 2048 < s.size
  · have : (2048 : Int) < (s.size : Int) := by omega
    simp [h9, this]
  · have : ¬ (2048 : Int) < (s.size : Int) := by omega
    simp [h9, this]
set_option maxRecDepth 100000 in
set_option maxHeartbeats 600000 in
theorem p11_w (A o : Nat) (s : ByteArray) (w : World) (hc : w.cell? ⟨A, o, none⟩ = some (.string s)) :
    Calls Try.prog 75 #[.pointer (some ⟨A, o, none⟩)] w fun e w' => e = .returned (.bool (decide (2048 < s.size))) ∧ w' = w := by
  have hl := long_cast s
  obtain ⟨b, hb⟩ := named (decide (2048 < s.size))
  rw [← hb.out] at hl ⊢
  clear hb
  go_enter Try.func75, Try.ntmps75
  go_wp2
  go_ret
  exact ⟨rfl, rfl⟩
theorem chText_cell {w : World} {C : Nat} {c : Chg} (h : Blk w C (chCells c) 28) {j : Nat} (hj : j < 4) : w.cell? ⟨C, 1 + j, none⟩ = some (.string ((chTexts c).getD j e0)) := by
  rw [h.cell]
  match j, hj with
  | 0, _ => rfl
  | 1, _ => rfl
  | 2, _ => rfl
  | 3, _ => rfl
  | _ + 4, h => omega
set_option maxRecDepth 100000 in
set_option maxHeartbeats 600000 in
theorem idxS_w (C G : Nat) (c : Chg) (w : World) (hC : Blk w C (chCells c) 28) (hG : Blk w G [.pointer (some ⟨C, 1, none⟩), .pointer (some ⟨C, 2, none⟩), .pointer (some ⟨C, 3, none⟩), .pointer (some ⟨C, 4, none⟩)] 97) :
    Calls Try.prog 80 #[.slice (some ⟨G, 0, none⟩) 4 4, .func (.func 75) #[] #[]] w fun e w' => (∃ i : Int, e = .returned (.int .i64 i) ∧ decide (0 ≤ i) = chLong c) ∧ w' = w := by
  go_enter Try.func80, Try.ntmps80
  go_upto_region 2 with fail
  go_loopw [8] (fun i wr => ∃ j : Nat, j ≤ 4 ∧ i = .int .i64 (j : Int) ∧ wr = w ∧ ∀ k, k < j → ¬ 2048 < ((chTexts c).getD k e0).size) (fun i _ => 4 - (intOf i).toNat)
  case atStart => exact ⟨0, by omega, rfl, rfl, fun k hk => absurd hk (by omega)⟩
  case round =>
    obtain ⟨j, hj4, rfl, rfl, hno⟩ := hrel
    have HNO := hide hno
    clear hno
    by_cases hj : j < 4
    · have hj' : (j : Int) < 4 := by omega
      have hj0 : (0 : Int) ≤ (j : Int) := by omega
      have hcj := ptr4 hG hj
      have hp := p11_w C (1 + j) ((chTexts c).getD j e0) _ (chText_cell hC hj)
      have hlong : 2048 < ((chTexts c).getD j e0).size → chLong c = true := fun h => by
        have hm : (chTexts c).getD j e0 ∈ chTexts c := by
          have : j < (chTexts c).length := hj
          rw [List.getD_eq_getElem?_getD, List.getElem?_eq_getElem this]
          exact List.getElem_mem this
        exact List.any_eq_true.2 ⟨_, hm, by simpa using h⟩
      by_cases hl : 2048 < ((chTexts c).getD j e0).size
      · have hd : decide (2048 < ((chTexts c).getD j e0).size) = true := by simpa using hl
        rw [hd] at hp
        have hcl := hlong hl
        clear hlong hl hd
        go_wp2_with fail
        refine hp.mono ?_
        rintro e w6 ⟨rfl, rfl⟩
        clear hp hcj
        go_wp2
        go_ret
        refine ⟨⟨_, rfl, ?_⟩, rfl⟩
        rw [hcl]
        simp
      · have hd : decide (2048 < ((chTexts c).getD j e0).size) = false := by simpa using hl
        rw [hd] at hp
        have HL := hide hl
        clear hlong hl hd
        go_wp2_with fail
        refine hp.mono ?_
        rintro e w6 ⟨rfl, rfl⟩
        clear hp hcj
        go_wp2
        go_roundw
        case rel =>
          refine ⟨j + 1, by omega, by first | rfl | go_num, by first | rfl | trivial, fun k hk => ?_⟩
          rcases Nat.lt_or_ge k j with h | h
          · exact HNO.out k h
          · obtain rfl : k = j := by omega
            exact HL.out
        case measure => simp [intOf]; omega
    · obtain rfl : j = 4 := by omega
      have hcl : chLong c = false := by
        have h0 := HNO.out 0 (by omega)
        have h1 := HNO.out 1 (by omega)
        have h2 := HNO.out 2 (by omega)
        have h3 := HNO.out 3 (by omega)
        simp only [chTexts, List.getD_cons_zero, List.getD_cons_succ] at h0 h1 h2 h3
        simp [chLong, chTexts]
        omega
      clear hC hG
      go_wp2
      go_ret
      refine ⟨⟨_, rfl, ?_⟩, rfl⟩
      rw [hcl]
      simp
set_option maxRecDepth 100000 in
set_option maxHeartbeats 600000 in
theorem contS_w (C G : Nat) (c : Chg) (w : World) (hC : Blk w C (chCells c) 28) (hG : Blk w G [.pointer (some ⟨C, 1, none⟩), .pointer (some ⟨C, 2, none⟩), .pointer (some ⟨C, 3, none⟩), .pointer (some ⟨C, 4, none⟩)] 97) :
    Calls Try.prog 73 #[.slice (some ⟨G, 0, none⟩) 4 4, .func (.func 75) #[] #[]] w fun e w' => e = .returned (.bool (chLong c)) ∧ w' = w := by
  have hi := idxS_w C G c w hC hG
  go_enter Try.func73, Try.ntmps73
  go_wp2_with fail
  refine hi.mono ?_
  rintro e w1 ⟨⟨i, rfl, hl⟩, rfl⟩
  have HL := hide hl
  clear hi hl
  go_wp2
  go_ret
  exact ⟨by rw [← HL.out]; rfl, rfl⟩
set_option maxRecDepth 100000 in
set_option maxHeartbeats 600000 in
theorem p1_w (c : Chg) (w : World) :
    Calls Try.prog 72 #[.agg (chCells c).toArray] w fun e w' => e = .returned (.bool (chLong c)) ∧ Below w.heap.size w w' := by
  have hC := Blk.new w (chCells c) 28
  have hb := below_alloc w (.cells (chCells c).toArray 28)
  obtain ⟨k, id, tx, ut, ui⟩ := c
  have hcl := fun G W => contS_w w.heap.size G ⟨k, id, tx, ut, ui⟩ W
  obtain ⟨q, hq⟩ := named (chLong ⟨k, id, tx, ut, ui⟩)
  simp only [← hq.out] at hcl ⊢
  clear hq
  simp only [chCells] at hC hb hcl ⊢
  go_enter Try.func72, Try.ntmps72
  go_wp2_with fail
  refine (ctexts_w w.heap.size _).mono ?_
  rintro e w1 ⟨rfl, hG, hb1⟩
  rw [show (w.alloc (.cells #[.int .u8 (k.toNat : Int), .string id, .string tx, .string ut, .string ui] 28)).heap.size = w.heap.size + 1 by simp] at hG
  go_wp2_with fail
  refine (hcl _ _ (hC.below hb1) hG).mono ?_
  rintro e w2 ⟨rfl, rfl⟩
  have hb2 := bt hb hb1
  clear hcl hG hb1 hC hb
  go_wp2
  go_ret
  exact ⟨rfl, hb2⟩
set_option maxRecDepth 100000 in
set_option maxHeartbeats 600000 in
theorem p2_w (c : Chg) (w : World) :
    Calls Try.prog 77 #[.agg (chCells c).toArray] w fun e w' => e = .returned (.bool (!chRight c)) ∧ Below w.heap.size w w' := by
  have hC := Blk.new w (chCells c) 28
  have hb := below_alloc w (.cells (chCells c).toArray 28)
  have hr := fun W => right_w c W
  obtain ⟨q, hq⟩ := named (chRight c)
  simp only [← hq.out] at hr ⊢
  clear hq
  obtain ⟨k, id, tx, ut, ui⟩ := c
  simp only [chCells] at hC hb hr ⊢
  have x0 := hC.cell
  go_enter Try.func77, Try.ntmps77
  go_wp2_with fail
  refine (hr _).mono ?_
  rintro e w1 ⟨rfl, hb1⟩
  have hb2 := bt hb hb1
  clear hr hb1 hC hb x0
  go_wp2
  go_ret
  exact ⟨rfl, hb2⟩
section
variable {f : FuncId} {c : Chg} {r : Bool}
set_option maxRecDepth 100000 in
set_option maxHeartbeats 600000 in
theorem idxC2_w (b : Nat) (w : World) (hb : Blk w b (chCells c) 28) :
    Calls Try.prog 81 #[.slice (some ⟨b, 0, none⟩) 1 1, .func (.func 77) #[] #[]] w fun e w' => (∃ i : Int, e = .returned (.int .i64 i) ∧ decide (0 ≤ i) = (!chRight c)) ∧ Below w.heap.size w w' := by
  have hp := fun W => p2_w c W
  obtain ⟨q, hq⟩ := named (!chRight c)
  simp only [← hq.out] at hp ⊢
  clear hq
  obtain ⟨k, id, tx, ut, ui⟩ := c
  simp only [chCells] at hb hp
  go_enter Try.func81, Try.ntmps81
  go_upto_region 2 with fail
  go_loopw [8] (fun i wr => ∃ j : Nat, j ≤ 1 ∧ i = .int .i64 (j : Int) ∧ Below w.heap.size w wr ∧ (j = 1 → q = false)) (fun i _ => 1 - (intOf i).toNat)
  case atStart => exact ⟨0, by omega, rfl, Below.refl _ _, fun h => absurd h (by omega)⟩
  case round =>
    obtain ⟨j, hj1, rfl, hbw, hno⟩ := hrel
    have HNO := hide hno
    clear hno
    by_cases hj : j < 1
    · obtain rfl : j = 0 := by omega
      have xb := (hb.below hbw).cell
      go_wp2_with fail
      refine (hp _).mono ?_
      rintro e w6 ⟨rfl, hb6⟩
      have hbb := bt hbw hb6
      clear hp hb hbw hb6 xb hj HNO
      cases q with
      | true =>
        go_wp2
        go_ret
        exact ⟨⟨_, rfl, by simp⟩, hbb⟩
      | false =>
        go_wp2
        go_roundw
        case rel => exact ⟨1, by omega, by first | rfl | go_num, hbb, by simp⟩
        case measure => simp [intOf]
    · obtain rfl : j = 1 := by omega
      obtain rfl := HNO.out rfl
      clear hp hb HNO hj
      go_wp2
      go_ret
      exact ⟨⟨_, rfl, by simp⟩, hbw⟩
set_option maxRecDepth 100000 in
set_option maxHeartbeats 600000 in
theorem contC2_w (b : Nat) (w : World) (hb : Blk w b (chCells c) 28) :
    Calls Try.prog 76 #[.slice (some ⟨b, 0, none⟩) 1 1, .func (.func 77) #[] #[]] w fun e w' => e = .returned (.bool (!chRight c)) ∧ Below w.heap.size w w' := by
  have hi := idxC2_w b w hb
  go_enter Try.func76, Try.ntmps76
  go_wp2_with fail
  refine hi.mono ?_
  rintro e w1 ⟨⟨i, rfl, hl⟩, hb1⟩
  have HL := hide hl
  clear hi hl
  go_wp2
  go_ret
  exact ⟨by rw [← HL.out]; rfl, hb1⟩
set_option maxRecDepth 100000 in
set_option maxHeartbeats 600000 in
theorem idxC1_w (b : Nat) (w : World) (hb : Blk w b (chCells c) 28) :
    Calls Try.prog 81 #[.slice (some ⟨b, 0, none⟩) 1 1, .func (.func 72) #[] #[]] w fun e w' => (∃ i : Int, e = .returned (.int .i64 i) ∧ decide (0 ≤ i) = (chLong c)) ∧ Below w.heap.size w w' := by
  have hp := fun W => p1_w c W
  obtain ⟨q, hq⟩ := named (chLong c)
  simp only [← hq.out] at hp ⊢
  clear hq
  obtain ⟨k, id, tx, ut, ui⟩ := c
  simp only [chCells] at hb hp
  go_enter Try.func81, Try.ntmps81
  go_upto_region 2 with fail
  go_loopw [8] (fun i wr => ∃ j : Nat, j ≤ 1 ∧ i = .int .i64 (j : Int) ∧ Below w.heap.size w wr ∧ (j = 1 → q = false)) (fun i _ => 1 - (intOf i).toNat)
  case atStart => exact ⟨0, by omega, rfl, Below.refl _ _, fun h => absurd h (by omega)⟩
  case round =>
    obtain ⟨j, hj1, rfl, hbw, hno⟩ := hrel
    have HNO := hide hno
    clear hno
    by_cases hj : j < 1
    · obtain rfl : j = 0 := by omega
      have xb := (hb.below hbw).cell
      go_wp2_with fail
      refine (hp _).mono ?_
      rintro e w6 ⟨rfl, hb6⟩
      have hbb := bt hbw hb6
      clear hp hb hbw hb6 xb hj HNO
      cases q with
      | true =>
        go_wp2
        go_ret
        exact ⟨⟨_, rfl, by simp⟩, hbb⟩
      | false =>
        go_wp2
        go_roundw
        case rel => exact ⟨1, by omega, by first | rfl | go_num, hbb, by simp⟩
        case measure => simp [intOf]
    · obtain rfl : j = 1 := by omega
      obtain rfl := HNO.out rfl
      clear hp hb HNO hj
      go_wp2
      go_ret
      exact ⟨⟨_, rfl, by simp⟩, hbw⟩
set_option maxRecDepth 100000 in
set_option maxHeartbeats 600000 in
theorem contC1_w (b : Nat) (w : World) (hb : Blk w b (chCells c) 28) :
    Calls Try.prog 76 #[.slice (some ⟨b, 0, none⟩) 1 1, .func (.func 72) #[] #[]] w fun e w' => e = .returned (.bool (chLong c)) ∧ Below w.heap.size w w' := by
  have hi := idxC1_w b w hb
  go_enter Try.func76, Try.ntmps76
  go_wp2_with fail
  refine hi.mono ?_
  rintro e w1 ⟨⟨i, rfl, hl⟩, hb1⟩
  have HL := hide hl
  clear hi hl
  go_wp2
  go_ret
  exact ⟨by rw [← HL.out]; rfl, hb1⟩
end
end Go.Proofs.Ytiodfbbgbnbdpaa
