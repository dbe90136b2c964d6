/- change.Pack of a list of one. -/
import Derived.Test.YtiodfbbgbnbdpaaPack1
import Derived.Test.YtiodfbbgbnbdpaaWPort
namespace Go.Proofs.Ytiodfbbgbnbdpaa
set_option linter.unusedSimpArgs false
set_option linter.unusedVariables false
open Go.RowKit
open Crc
theorem small_blk {w : World} {k : Nat} {vs : List Value} {t : TypeId} (h : Blk w k vs t) (ht : t ≠ 5) : Small w k := fun cs fz hc => by
  have h' : w.heap[k]? = some (.cells vs.toArray t (0, 0)) := h
  rw [h'] at hc
  injection hc with hc
  injection hc with _ e
  exact absurd e ht
/-- A block that was made is none of the builder's. -/
theorem BuT.add {T : TypeId} {ex : List Value} {P : Nat → Prop} {B b : Nat} {bs : List Value} {w w' : World} (h : BuT T ex B b P bs w) (hb : Below w.heap.size w w') {k : Nat} (hk : w.heap.size ≤ k) (hk2 : k < w'.heap.size) (hs : Small w' k) : BuT T ex B b (fun i => P i ∨ i = k) bs w' := by
  obtain ⟨h1, p, v, h2, h3, h4⟩ := h
  have h5 := h4.keep (fun i hi _ => hb.block i hi) hb.size
  refine ⟨h1, p, v, h2, h3.below hb, h5.1, h5.2.1, h5.2.2.1, fun i hi => ?_⟩
  rcases hi with hi | rfl
  · exact h5.2.2.2 i hi
  · refine ⟨hk2, by have := h3.lt; omega, hs, fun e => ?_⟩
    rcases h4.1.2 with ⟨rfl, _⟩ | ⟨g, cap, cur, rfl, _, hh, _⟩
    · simp [Value.ownBlock] at e
    · obtain rfl : g = i := by simpa [Value.ownBlock] using e
      have := (Array.getElem?_eq_some_iff.1 hh).1
      omega
theorem BuT.new (T : TypeId) (ex : List Value) {B : Nat} {w : World} (hB : B ≤ w.heap.size) : BuT T ex B w.heap.size (fun _ => False) [] (w.alloc (.cells (Value.pointer none :: .slice none 0 0 :: ex).toArray T)) :=
  ⟨hB, .pointer none, .slice none 0 0, .inl rfl, Blk.new w _ T, ⟨rfl, .inl ⟨rfl, rfl⟩⟩, by simp [Value.ownBlock], fun _ => rfl, fun k hk => hk.elim⟩
def preB (c : Chg) (i : Nat) : List UInt8 := [1, c.k] ++ ((chTexts c).take i).flatMap txt
def packB (c : Chg) : List UInt8 := preB c 4
def packR (c : Chg) : List UInt8 × Int := if chRight c = false then ([], 5) else if chLong c = true then ([], 3) else (packB c, 0)
theorem preB_succ (c : Chg) {i : Nat} (hi : i < 4) : preB c (i + 1) = preB c i ++ txt ((chTexts c).getD i e0) := by
  have h : i < (chTexts c).length := hi
  unfold preB
  rw [List.take_succ_eq_append_getElem h, List.flatMap_append, List.getD_eq_getElem?_getD, List.getElem?_eq_getElem h]
  simp
theorem notLong {c : Chg} (h : chLong c = false) (i : Nat) : ((chTexts c).getD i e0).size ≤ 2048 := by
  rcases Nat.lt_or_ge i (chTexts c).length with hi | hi
  · have hm : (chTexts c).getD i e0 ∈ chTexts c := by
      rw [List.getD_eq_getElem?_getD, List.getElem?_eq_getElem hi]
      exact List.getElem_mem hi
    rcases Nat.lt_or_ge 2048 ((chTexts c).getD i e0).size with h9 | h9
    · have : chLong c = true := List.any_eq_true.2 ⟨_, hm, by simpa using h9⟩
      rw [h] at this; cases this
    · exact h9
  · rw [List.getD_eq_getElem?_getD, List.getElem?_eq_none hi]
    decide
theorem preB_len {c : Chg} (h : chLong c = false) {i : Nat} (hi : i ≤ 4) : (preB c i).length ≤ 2 + i * 2052 := by
  induction i with
  | zero => simp [preB]
  | succ i ih =>
    rw [preB_succ c (by omega), List.length_append, txt_length]
    have := ih (by omega)
    have := notLong h i
    omega
def Bu (B b : Nat) (P : Nat → Prop) (bs : List UInt8) (w : World) : Prop := BuT 56 [] B b P (cellsOf bs) w
theorem bu_text {B b : Nat} {P : Nat → Prop} {bs : List UInt8} {w : World} (t : List UInt8) (h : Bu B b P bs w) (hlen : bs.length + t.length ≤ 140737488355328) (h2 : 2 ≤ bs.length + t.length) :
    Calls Try.prog 69 #[.pointer (some ⟨b, 0, none⟩), .string (str t)] w fun e w' => (∃ v, e = .returned v) ∧ Bu B b P (bs ++ t) w' ∧ KP B P w w' := by
  refine (writeStringT B b (cellsOf bs) (str t) w h tok_builder (by rw [cellsOf_length, str_size]; exact hlen) (.inr (by rw [cellsOf_length, str_size]; exact h2))).mono ?_
  rintro e w' ⟨rfl, h3, h4⟩
  refine ⟨⟨_, rfl⟩, ?_, h4⟩
  unfold Bu
  rw [cellsOf_append]
  rw [str_data] at h3
  exact h3
theorem bu_byte {B b : Nat} {P : Nat → Prop} {bs : List UInt8} {w : World} (c : UInt8) (h : Bu B b P bs w) (hlen : bs.length + 1 ≤ 140737488355328) :
    Calls Try.prog 34 #[.pointer (some ⟨b, 0, none⟩), .int .u8 (c.toNat : Int)] w fun e w' => e = .returned .nilIface ∧ Bu B b P (bs ++ [c]) w' ∧ KP B P w w' := by
  refine (writeByteT B b (cellsOf bs) (c.toNat : Int) w h tok_builder (by rw [cellsOf_length]; exact hlen)).mono ?_
  rintro e w' ⟨rfl, h3, h4⟩
  refine ⟨rfl, ?_, h4⟩
  unfold Bu
  rw [cellsOf_append]
  exact h3
set_option maxRecDepth 100000 in
set_option maxHeartbeats 1000000 in
theorem pack_w (b : Nat) (c : Chg) (w : World) (hb : Blk w b (chCells c) 28) :
    Calls Try.prog 68 #[.slice (some ⟨b, 0, none⟩) 1 1] w fun e w' => e = .returned (.tuple #[.string (str (packR c).1), .int .i64 (packR c).2]) ∧ Below w.heap.size w w' := by
  have h2 := fun W (h : Blk W b (chCells c) 28) => contC2_w (c := c) b W h
  have h1 := fun W (h : Blk W b (chCells c) 28) => contC1_w (c := c) b W h
  unfold packR
  have hbl := hb.lt
  cases hr : chRight c with
  | false =>
    simp only [hr, if_true, Bool.not_false] at h2 ⊢
    clear hr h1
    go_enter Try.func68, Try.ntmps68
    go_wp2_with fail
    refine (h2 _ hb).mono ?_
    rintro e w1 ⟨rfl, hb1⟩
    clear h2 hb
    go_wp2
    go_ret2
    exact ⟨rfl, hb1⟩
  | true =>
  simp only [hr, Bool.not_true, Bool.true_eq_false, if_false] at h2 ⊢
  cases hl : chLong c with
  | true =>
    simp only [hl, if_true] at h1 ⊢
    clear hr hl
    go_enter Try.func68, Try.ntmps68
    go_wp2_with fail
    refine (h2 _ hb).mono ?_
    rintro e w1 ⟨rfl, hb1⟩
    go_wp2_with fail
    refine (h1 _ (hb.below hb1)).mono ?_
    rintro e w2 ⟨rfl, hb2⟩
    have hbb := bt hb1 hb2
    clear h1 h2 hb hb1 hb2
    go_wp2
    go_ret2
    exact ⟨rfl, hbb⟩
  | false =>
  simp only [hl, Bool.false_eq_true, if_false] at h1 ⊢
  have HL := hide hl
  clear hr hl
  go_enter Try.func68, Try.ntmps68
  go_wp2_with fail
  refine (h2 _ hb).mono ?_
  rintro e w1 ⟨rfl, hb1⟩
  go_wp2_with fail
  refine (h1 _ (hb.below hb1)).mono ?_
  rintro e w2 ⟨rfl, hb2⟩
  have hbb := bt hb1 hb2
  have hsz := hbb.size
  have hn : Bu w.heap.size w2.heap.size (fun _ => False) [] (w2.alloc (.cells #[.pointer none, .slice none 0 0] 56)) := BuT.new 56 [] hsz
  have hb3 := bt hbb (below_alloc w2 (.cells #[.pointer none, .slice none 0 0] 56))
  have hB3 := (hb.below hbb).alloc (.cells #[.pointer none, .slice none 0 0] 56)
  clear h1 h2 hb1 hb2 hbb
  go_upto_region 9 with fail
  obtain ⟨N, hN⟩ := named w2.heap.size
  obtain ⟨w3, hw3⟩ := named (w2.alloc (.cells #[.pointer none, .slice none 0 0] 56))
  rw [← hN.out] at hn hsz ⊢
  rw [← hw3.out] at hn hb3 hB3 ⊢
  clear hN hw3
  have hw1 : ∀ W, Bu w.heap.size N (fun _ => False) [] W → Calls Try.prog 34 #[.pointer (some ⟨N, 0, none⟩), .int .u8 1] W fun e w' => e = .returned .nilIface ∧ Bu w.heap.size N (fun _ => False) [1] w' ∧ KP w.heap.size (fun _ => False) W w' := fun W h => bu_byte (bs := []) 1 h (by decide)
  go_wp2_with fail
  refine (hw1 _ hn).mono ?_
  rintro e w4 ⟨rfl, hn4, kp4⟩
  have hb4 := hb3.trans kp4.2
  have hB4 : Blk w4 b (chCells c) 28 := hb.below hb4
  clear hw1 hn hb3 hB3 kp4
  go_upto_region 11 with fail
  have hpre : preB c 4 = packB c := rfl
  have HPRE := hide hpre
  clear hpre
  go_loopw [27] (fun i wr => ∃ (j : Nat) (P : Nat → Prop), j ≤ 1 ∧ i = .int .i64 (j : Int) ∧ Bu w.heap.size N P (cond (j == 0) [1] (packB c)) wr ∧ Below w.heap.size w wr) (fun i _ => 1 - (intOf i).toNat)
  case atStart => exact ⟨0, _, by omega, rfl, hn4, hb4⟩
  case round =>
    clear hn4 hb4 hB4
    obtain ⟨j, P, hj1, rfl, hn, hbw⟩ := hrel
    by_cases hj : j < 1
    · obtain rfl : j = 0 := by omega
      have hn0 : Bu w.heap.size N P [1] wr := hn
      have hB5 := hb.below hbw
      clear hn hj
      obtain ⟨k, id, tx, ut, ui⟩ := c
      have hcells : Blk wr b [.int .u8 (k.toNat : Int), .string id, .string tx, .string ut, .string ui] 28 := hB5
      have xb := hcells.cell
      have hba := below_alloc wr (.cells #[.int .u8 (k.toNat : Int), .string id, .string tx, .string ut, .string ui] 28)
      have hC := Blk.new wr [.int .u8 (k.toNat : Int), .string id, .string tx, .string ut, .string ui] 28
      have hn5 := BuT.add hn0 hba (Nat.le_refl _) hC.lt (small_blk hC (by decide))
      have hbw5 := bt hbw hba
      clear hB5 hcells hn0 hba
      go_upto_region 13 with fail
      obtain ⟨C, hCn⟩ := named wr.heap.size
      obtain ⟨w5, hw5⟩ := named (wr.alloc (.cells #[.int .u8 (k.toNat : Int), .string id, .string tx, .string ut, .string ui] 28))
      rw [← hCn.out] at hC hn5 ⊢
      rw [← hw5.out] at hC hn5 hbw5 ⊢
      clear hCn hw5 xb hbw
      have xC := hC.cell
      have hk := bu_byte (bs := [1]) k hn5 (by decide)
      go_wp2_with fail
      refine hk.mono ?_
      rintro e w6 ⟨rfl, hn6, kp6⟩
      have hC6 := hC.kP kp6 (.inr rfl)
      have hbw6 := hbw5.trans kp6.2
      clear hk xC hC hn5 kp6 hbw5
      go_wp2_with fail
      refine (ctexts_w C w6).mono ?_
      rintro e w7 ⟨rfl, hG, hb7⟩
      have hn7 := BuT.add hn6 hb7 (Nat.le_refl _) hG.lt (small_blk hG (by decide))
      have hC7 : Blk w7 C (chCells ⟨k, id, tx, ut, ui⟩) 28 := hC6.below hb7
      have hbw7 := bt hbw6 hb7
      clear hC6 hn6 hb7 hbw6
      go_upto_region 15 with fail
      obtain ⟨G, hGn⟩ := named w6.heap.size
      rw [← hGn.out] at hG hn7 ⊢
      clear hGn
      obtain ⟨c, hcn⟩ := named (⟨k, id, tx, ut, ui⟩ : Chg)
      have hn8 : Bu w.heap.size N (fun i => (P i ∨ i = C) ∨ i = G) (preB c 0) w7 := by rw [hcn.out]; exact hn7
      rw [← hcn.out] at hC7 HPRE
      have HL2 : Hid (chLong c = false) := by rw [hcn.out]; exact HL.out
      clear hn7
      go_loopw [36] (fun i wz => ∃ i' : Nat, i' ≤ 4 ∧ i = .int .i64 (i' : Int) ∧ Bu w.heap.size N (fun i => (P i ∨ i = C) ∨ i = G) (preB c i') wz ∧ Blk wz C (chCells c) 28 ∧ Blk wz G [.pointer (some ⟨C, 1, none⟩), .pointer (some ⟨C, 2, none⟩), .pointer (some ⟨C, 3, none⟩), .pointer (some ⟨C, 4, none⟩)] 97 ∧ Below w.heap.size w wz) (fun i _ => 4 - (intOf i).toNat)
      case atStart => exact ⟨0, by omega, rfl, hn8, hC7, hG, hbw7⟩
      case round =>
        clear hn8 hC7 hG hbw7
        obtain ⟨i', hi4, rfl, hn, hC, hG, hbz⟩ := hrel
        by_cases hi : i' < 4
        · have hi' : (i' : Int) < 4 := by omega
          have hi0 : (0 : Int) ≤ (i' : Int) := by omega
          have hp := ptr4 hG hi
          have ht := chText_cell hC hi
          have hnl := notLong HL2.out i'
          have hlen := preB_len HL2.out hi4
          have hct := fun W => ctext_w ((chTexts c).getD i' e0) W (by omega)
          have hsu := preB_succ c hi
          have hlt := txt_length ((chTexts c).getD i' e0)
          have hbt := fun W (h : Bu w.heap.size N (fun i => (P i ∨ i = C) ∨ i = G) (preB c i') W) => bu_text (txt ((chTexts c).getD i' e0)) h (by omega) (by omega)
          rw [← hsu] at hbt
          obtain ⟨s, hs⟩ := named ((chTexts c).getD i' e0)
          rw [← hs.out] at ht
          simp only [← hs.out] at hct hbt
          obtain ⟨S, hS⟩ := named (str (txt s))
          simp only [← hS.out] at hct hbt
          clear hs hS hsu hlt hnl hlen
          go_wp2_with fail
          refine (hct _).mono ?_
          rintro e w8 ⟨rfl, hb8⟩
          have hn8 : Bu w.heap.size N (fun i => (P i ∨ i = C) ∨ i = G) (preB c i') w8 := BuT.below hn hb8
          have hC8 := hC.below hb8
          have hG8 := hG.below hb8
          have hbz8 := bt hbz hb8
          clear hct hp ht hn hC hG hbz hb8
          go_wp2_with fail
          refine (hbt _ hn8).mono ?_
          rintro e w9 ⟨⟨v9, rfl⟩, hn9, kp9⟩
          have hC9 := hC8.kP kp9 (.inl (.inr rfl))
          have hG9 := hG8.kP kp9 (.inr rfl)
          have hbz9 := hbz8.trans kp9.2
          clear hbt hn8 hC8 hG8 hbz8 kp9
          go_wp2
          go_roundw
          case rel => exact ⟨i' + 1, by omega, by first | rfl | go_num, hn9, hC9, hG9, hbz9⟩
          case measure => simp [intOf]; omega
        · obtain rfl : i' = 4 := by omega
          have hn4 : Bu w.heap.size N (fun i => (P i ∨ i = C) ∨ i = G) (packB c) wr := hn
          clear hC hG hi hn
          go_wp2
          go_roundw
          case rel => exact ⟨1, _, by omega, by first | rfl | go_num, by rw [hcn.out] at hn4; exact hn4, hbz⟩
          case measure => simp [intOf]
    · obtain rfl : j = 1 := by omega
      have hn1 : Bu w.heap.size N P (packB c) wr := hn
      have hst := stringT w.heap.size N (packB c) wr hn1 (by decide) (by simp [packB, preB])
      obtain ⟨S, hS⟩ := named (str (packB c))
      rw [← hS.out] at hst
      clear hn hn1 hj
      go_wp2_with fail
      refine hst.mono ?_
      rintro e w8 ⟨rfl, kp8⟩
      have hbz8 := hbw.trans kp8.2
      clear hst kp8
      go_wp2
      go_ret2
      exact ⟨by rw [← hS.out]; rfl, hbz8⟩
end Go.Proofs.Ytiodfbbgbnbdpaa
