/- lictorref16.Pack of a list of one. -/
import Derived.Test.YtiodfbbgbnbdpaaRef16
import Derived.Test.YtiodfbbgbnbdpaaGD
import Derived.Deep.DeepCutAuto
namespace Go.Proofs.Ytiodfbbgbnbdpaa
set_option linter.unusedSimpArgs false
set_option linter.unusedVariables false
open Go.RowKit
open Crc
theorem blk_string' {u : World} {g : Nat} {k : UInt8} (h : Blk u g [.int .u8 (k.toNat : Int)] 5) : (convert 51 9 (.slice (some ⟨g, 0, none⟩) 1 1)).run Try.prog u = .ok (.string (str [k])) u := by
  refine run_convert_bytes_back u 51 9 5 _ 1 [k] Try.underlying51 Try.underlying5 Try.underlying9 ?_
  intro j hj
  rw [addr_add, Nat.zero_add, h.cell]
  simp at hj
  subst hj
  rfl
theorem packB_eq' (c : Chg) : packB c = 1 :: c.k :: (txt c.id ++ (txt c.tx ++ (txt c.ut ++ (txt c.ui ++ [])))) := rfl
theorem longs4 (k : UInt8) (id tx ut ui : ByteArray) : chLong ⟨k, id, tx, ut, ui⟩ = (decide (2048 < id.size) || (decide (2048 < tx.size) || (decide (2048 < ut.size) || decide (2048 < ui.size)))) := by
  simp [chLong, chTexts]
set_option maxRecDepth 100000 in
set_option maxHeartbeats 4000000 in
theorem refPack_w (b : Nat) (c : Chg) (w : World) (hb : Blk w b (chCells c) 28) :
    Calls Try.prog 22 #[.slice (some ⟨b, 0, none⟩) 1 1] w fun e w' => e = .returned (.tuple #[.string (str (packR c).1), .int .i64 (packR c).2]) ∧ Below w.heap.size w w' := by
  have hr := fun W => refRight_w c W
  have hpk : packR c = if chRight c = false then ([], 5) else if chLong c = true then ([], 3) else (packB c, 0) := rfl
  have hpb := packB_eq' c
  have hnl := fun h i => notLong (c := c) h i
  obtain ⟨F, hF⟩ := named (packR c)
  rw [← hF.out] at hpk ⊢
  clear hF
  have HPK := hide hpk
  clear hpk
  obtain ⟨qr, hqr⟩ := named (chRight c)
  simp only [← hqr.out] at hr
  replace HPK : Hid (F = if qr = false then ([], 5) else if chLong c = true then ([], 3) else (packB c, 0)) := by rw [hqr.out]; exact HPK
  clear hqr
  obtain ⟨k, id, tx, ut, ui⟩ := c
  have hl4 := longs4 k id tx ut ui
  have d1 := long_cast id
  have d2 := long_cast tx
  have d3 := long_cast ut
  have d4 := long_cast ui
  simp only [chCells] at hb hr
  obtain ⟨ql, hql⟩ := named (chLong ⟨k, id, tx, ut, ui⟩)
  rw [← hql.out] at hl4
  simp only [← hql.out] at hnl
  replace HPK : Hid (F = if qr = false then ([], 5) else if ql = true then ([], 3) else (packB ⟨k, id, tx, ut, ui⟩, 0)) := by rw [hql.out]; exact HPK
  clear hql
  have HNL := hide hnl
  clear hnl
  obtain ⟨b1, hb1⟩ := named (decide (2048 < id.size))
  obtain ⟨b2, hb2⟩ := named (decide (2048 < tx.size))
  obtain ⟨b3, hb3⟩ := named (decide (2048 < ut.size))
  obtain ⟨b4, hb4⟩ := named (decide (2048 < ui.size))
  rw [← hb1.out, ← hb2.out, ← hb3.out, ← hb4.out] at hl4
  rw [← hb1.out] at d1
  rw [← hb2.out] at d2
  rw [← hb3.out] at d3
  rw [← hb4.out] at d4
  clear hb1 hb2 hb3 hb4
  have HL4 := hide hl4
  have HPB := hide hpb
  clear hl4 hpb
  go_enter Try.func22, Try.ntmps22
  go_upto_region 4 with fail
  go_loopw [16] (fun i wr => ∃ j : Nat, j ≤ 1 ∧ i = .int .i64 (j : Int) ∧ Below w.heap.size w wr ∧ (j = 1 → qr = true)) (fun i _ => 1 - (intOf i).toNat)
  case atStart => exact ⟨0, by omega, rfl, Below.refl _ _, fun h => absurd h (by omega)⟩
  case round =>
    obtain ⟨j, hj1, rfl, hbw, hq⟩ := hrel
    have HQ := hide hq
    clear hq
    by_cases hj : j < 1
    · obtain rfl : j = 0 := by omega
      have xb := (hb.below hbw).cell
      have hC := Blk.new wr [.int .u8 (k.toNat : Int), .string id, .string tx, .string ut, .string ui] 28
      have hbc := bt hbw (below_alloc wr (.cells #[.int .u8 (k.toNat : Int), .string id, .string tx, .string ut, .string ui] 28))
      have xC := hC.cell
      clear hj HQ
      go_wp2_with fail
      refine (hr _).mono ?_
      rintro e w3 ⟨rfl, hb3⟩
      have hb4 := bt hbc hb3
      clear hr xb xC hC hbc hb3 hbw
      cases qr with
      | true =>
        go_wp2
        go_roundw
        case rel => exact ⟨1, by omega, by first | rfl | go_num, hb4, by simp⟩
        case measure => simp [intOf]
      | false =>
        go_wp2
        go_ret2
        exact ⟨by rw [HPK.out]; rfl, hb4⟩
    · obtain rfl : j = 1 := by omega
      obtain rfl := HQ.out rfl
      rw [show ((1 : Nat) : Int) = 1 from rfl]
      clear HQ hj hr
      go_upto_region 10 with fail
      obtain ⟨w5, hw5⟩ := named wr
      rw [← hw5.out] at hbw ⊢
      clear hw5
      go_loopw [26] (fun i wr => ∃ j : Nat, j ≤ 1 ∧ i = .int .i64 (j : Int) ∧ Below w.heap.size w wr ∧ (j = 1 → ql = false)) (fun i _ => 1 - (intOf i).toNat)
      case atStart => exact ⟨0, by omega, rfl, hbw, fun h => absurd h (by omega)⟩
      case round =>
        clear hbw
        obtain ⟨j, hj1, rfl, hbw, hq⟩ := hrel
        have HQ := hide hq
        clear hq
        by_cases hj : j < 1
        · obtain rfl : j = 0 := by omega
          have xb := (hb.below hbw).cell
          have hC := Blk.new wr [.int .u8 (k.toNat : Int), .string id, .string tx, .string ut, .string ui] 28
          have hbc := bt hbw (below_alloc wr (.cells #[.int .u8 (k.toNat : Int), .string id, .string tx, .string ut, .string ui] 28))
          have xC := hC.cell
          clear hj HQ hbw
          go_upto_region 12 with fail
          obtain ⟨w6, hw6⟩ := named (wr.alloc (.cells #[.int .u8 (k.toNat : Int), .string id, .string tx, .string ut, .string ui] 28))
          obtain ⟨C, hCn⟩ := named wr.heap.size
          rw [← hCn.out] at hC xC ⊢
          rw [← hw6.out] at hC xC hbc ⊢
          clear hw6 hCn xb
          cases b1 with
          | true =>
            go_wp2
            go_ret2
            exact ⟨by rw [HPK.out, HL4.out]; rfl, hbc⟩
          | false =>
          cases b2 with
          | true =>
            go_wp2
            go_ret2
            exact ⟨by rw [HPK.out, HL4.out]; rfl, hbc⟩
          | false =>
          cases b3 with
          | true =>
            go_wp2
            go_ret2
            exact ⟨by rw [HPK.out, HL4.out]; rfl, hbc⟩
          | false =>
          cases b4 with
          | true =>
            go_wp2
            go_ret2
            exact ⟨by rw [HPK.out, HL4.out]; rfl, hbc⟩
          | false =>
            go_wp2
            go_roundw
            case rel => exact ⟨1, by omega, by first | rfl | go_num, hbc, fun _ => HL4.out⟩
            case measure => simp [intOf]
        · obtain rfl : j = 1 := by omega
          rw [show ((1 : Nat) : Int) = 1 from rfl]
          have hq0 := HQ.out rfl
          have HPK2 : Hid (F = (packB ⟨k, id, tx, ut, ui⟩, 0)) := by rw [HPK.out, hq0]; rfl
          have z1 := HNL.out hq0 0
          have z2 := HNL.out hq0 1
          have z3 := HNL.out hq0 2
          have z4 := HNL.out hq0 3
          simp only [chTexts, List.getD_cons_zero, List.getD_cons_succ] at z1 z2 z3 z4
          have hT1 := fun W => refText_w id W (by omega)
          have hT2 := fun W => refText_w tx W (by omega)
          have hT3 := fun W => refText_w ut W (by omega)
          have hT4 := fun W => refText_w ui W (by omega)
          have y1 := txt_size id
          have y2 := txt_size tx
          have y3 := txt_size ut
          have y4 := txt_size ui
          have hone : convert 51 9 = convert 51 9 := rfl
          obtain ⟨U0, H0⟩ := named (str [(1 : UInt8)])
          obtain ⟨T0, G0⟩ := named (str [k])
          obtain ⟨T1, G1⟩ := named (str (txt id))
          obtain ⟨T2, G2⟩ := named (str (txt tx))
          obtain ⟨T3, G3⟩ := named (str (txt ut))
          obtain ⟨T4, G4⟩ := named (str (txt ui))
          simp only [← G1.out] at hT1 y1
          simp only [← G2.out] at hT2 y2
          simp only [← G3.out] at hT3 y3
          simp only [← G4.out] at hT4 y4
          have s0 : T0.size = 1 := by rw [G0.out]; rfl
          have su : U0.size = 1 := by rw [H0.out]; rfl
          obtain ⟨A1, e1⟩ := named (T0 ++ T1)
          have v1 : A1.size = T0.size + T1.size := by rw [e1.out, ByteArray.size_append]
          obtain ⟨A2, e2⟩ := named (A1 ++ T2)
          have v2 : A2.size = A1.size + T2.size := by rw [e2.out, ByteArray.size_append]
          obtain ⟨A3, e3⟩ := named (A2 ++ T3)
          have v3 : A3.size = A2.size + T3.size := by rw [e3.out, ByteArray.size_append]
          obtain ⟨A4, e4⟩ := named (A3 ++ T4)
          have v4 : A4.size = A3.size + T4.size := by rw [e4.out, ByteArray.size_append]
          obtain ⟨A5, e5⟩ := named (U0 ++ A4)
          have ha1 : ∀ W : World, (Op.stringOp .add T0 T1).run Try.prog W = .ok (.string A1) W := fun W => by rw [e1.out]; exact run_string_add_sum W _ _ (by omega)
          have ha2 : ∀ W : World, (Op.stringOp .add A1 T2).run Try.prog W = .ok (.string A2) W := fun W => by rw [e2.out]; exact run_string_add_sum W _ _ (by omega)
          have ha3 : ∀ W : World, (Op.stringOp .add A2 T3).run Try.prog W = .ok (.string A3) W := fun W => by rw [e3.out]; exact run_string_add_sum W _ _ (by omega)
          have ha4 : ∀ W : World, (Op.stringOp .add A3 T4).run Try.prog W = .ok (.string A4) W := fun W => by rw [e4.out]; exact run_string_add_sum W _ _ (by omega)
          have ha5 : ∀ W : World, (Op.stringOp .add U0 A4).run Try.prog W = .ok (.string A5) W := fun W => by rw [e5.out]; exact run_string_add_sum W _ _ (by omega)
          have hres : A5 = str (packB ⟨k, id, tx, ut, ui⟩) := by
            rw [e5.out, e4.out, e3.out, e2.out, e1.out, H0.out, G0.out, G1.out, G2.out, G3.out, G4.out, str_append, str_append, str_append, str_append, str_append, HPB.out]
            congr 1
            simp
          have HRES := hide hres
          clear hres e1 e2 e3 e4 e5 G1 G2 G3 G4 HPB HPK HQ HNL HL4 hj hq0 d1 d2 d3 d4 z1 z2 z3 z4 hone y1 y2 y3 y4 s0 su v1 v2 v3 v4
          have hu := blk_string' (Blk.new wr [.int .u8 ((1 : UInt8).toNat : Int)] 5)
          rw [← H0.out] at hu
          have hu' : (convert 51 9 (.slice (some ⟨wr.heap.size, 0, none⟩) 1 1)).run Try.prog (wr.alloc (.cells #[.int .u8 1] 5)) = .ok (.string U0) (wr.alloc (.cells #[.int .u8 1] 5)) := hu
          have hbu := bt hbw (below_alloc wr (.cells #[.int .u8 1] 5))
          clear hu hbw
          go_upto_region 17 with fail
          obtain ⟨w7, hw7⟩ := named (wr.alloc (.cells #[.int .u8 1] 5))
          rw [← hw7.out] at hbu ⊢
          clear hw7 hu'
          go_loopw [8, 62] (fun s i wr => ∃ (j : Nat) (T : ByteArray), j ≤ 1 ∧ i = .int .i64 (j : Int) ∧ s = .string T ∧ Hid ((j = 0 → T = U0) ∧ (j = 1 → T = A5)) ∧ Below w.heap.size w wr) (fun _ i _ => 1 - (intOf i).toNat)
          case atStart => exact ⟨0, U0, by omega, rfl, rfl, ⟨fun _ => rfl, fun h => absurd h (by decide)⟩, hbu⟩
          case round =>
            clear hbu
            obtain ⟨j, T, hj1, rfl, rfl, hTT, hbw⟩ := hrel
            by_cases hj : j < 1
            · obtain rfl : j = 0 := by omega
              obtain rfl : U0 = T := (hTT.out.1 rfl).symm
              clear hTT
              have xb := (hb.below hbw).cell
              have hC := Blk.new wr [.int .u8 (k.toNat : Int), .string id, .string tx, .string ut, .string ui] 28
              have hbc := bt hbw (below_alloc wr (.cells #[.int .u8 (k.toNat : Int), .string id, .string tx, .string ut, .string ui] 28))
              clear hj hbw
              go_upto_region 19 with fail
              obtain ⟨C, hCn⟩ := named wr.heap.size
              obtain ⟨w8, hw8⟩ := named (wr.alloc (.cells #[.int .u8 (k.toNat : Int), .string id, .string tx, .string ut, .string ui] 28))
              rw [← hCn.out] at hC ⊢
              rw [← hw8.out] at hC hbc ⊢
              clear hCn hw8 xb
              skip
              go_wp2_with fail
              refine region_tailT 24 _ (fun L u => Blk u C [.int .u8 (k.toNat : Int), .string id, .string tx, .string ut, .string ui] 28 ∧ Below w.heap.size w u) (fun _ u u' => Below u.heap.size u u')
                (fun _ => rel [fun v _ => v = .string U0,
                  fun v _ => v = .pointer (some ⟨C, 0, none⟩),
                  fun v _ => v = .int .u8 (k.toNat : Int),
                  fun v u => ∃ g, v = Value.slice (some ⟨g, 0, none⟩) 1 1 ∧ Blk u g [.int .u8 (k.toNat : Int)] 5,
                  fun v _ => v = .string T0,
                  fun v _ => v = .pointer (some ⟨C, 1, none⟩),
                  fun v _ => v = .string id,
                  fun v _ => v = .string T1,
                  fun v _ => v = .string A1,
                  fun v _ => v = .pointer (some ⟨C, 2, none⟩),
                  fun v _ => v = .string tx,
                  fun v _ => v = .string T2,
                  fun v _ => v = .string A2,
                  fun v _ => v = .pointer (some ⟨C, 3, none⟩),
                  fun v _ => v = .pointer (some ⟨C, 3, none⟩),
                  fun v _ => v = .string ut,
                  fun v _ => v = .string T3,
                  fun v _ => v = .string A3,
                  fun v _ => v = .pointer (some ⟨C, 3, none⟩),
                  fun v _ => v = .pointer (some ⟨C, 4, none⟩),
                  fun v _ => v = .string ui,
                  fun v _ => v = .string T4,
                  fun v _ => v = .string A4,
                  fun v _ => v = .string A5])
                (by kernel_rfl) (by kernel_rfl) (by kernel_rfl) (by decide) (fun v => by simp only [putsV, List.take_succ_cons, List.take_zero, Act.put, List.toList_toArray, List.setIfInBounds_toArray, List.set_cons_zero, List.set_cons_succ, Nat.reduceAdd, Nat.zero_add]; rfl) ?_ (fun _ _ _ _ _ h => h) ⟨hC, hbc.drew⟩ ?_ (fun _ _ _ _ _ _ h => h) (fun L L' u hL h => by  exact h) ?_
              · intro i L j x u u' _ _ hG h
                match j with
                | 0 => exact h
                | 1 => exact h
                | 2 => exact h
                | 3 => (obtain ⟨g, e, hb9⟩ := h; exact ⟨g, e, hb9.below hG⟩)
                | 4 => exact h
                | 5 => exact h
                | 6 => exact h
                | 7 => exact h
                | 8 => exact h
                | 9 => exact h
                | 10 => exact h
                | 11 => exact h
                | 12 => exact h
                | 13 => exact h
                | 14 => exact h
                | 15 => exact h
                | 16 => exact h
                | 17 => exact h
                | 18 => exact h
                | 19 => exact h
                | 20 => exact h
                | 21 => exact h
                | 22 => exact h
                | 23 => exact h
                | _ + 24 => trivial
              · refine ⟨?_, ?_, ?_, ?_, ?_, ?_, ?_, ?_, ?_, ?_, ?_, ?_, ?_, ?_, ?_, ?_, ?_, ?_, ?_, ?_, ?_, ?_, ?_, ?_, trivial⟩
                · intro L hL hcl hw9 v u hS hd K' hK
                  simp only [waited, List.toList_toArray, Region.binds, rel, List.getD_cons_zero, List.getD_cons_succ, true_imp_iff, and_true] at hd
                  simp only [rel, List.getD_cons_zero, List.getD_cons_succ, Act.put, List.setIfInBounds_toArray, List.set_cons_zero, List.set_cons_succ] at hK
                  try simp only [hd] at hK
                  go_simp
                  exact hK.out _ _ ⟨hS, Below.refl _ _, rfl⟩
                · intro L hL hcl hw9 v u hS hd K' hK
                  simp only [waited, List.toList_toArray, Region.binds, rel, List.getD_cons_zero, List.getD_cons_succ, true_imp_iff, and_true] at hd
                  simp only [rel, List.getD_cons_zero, List.getD_cons_succ, Act.put, List.setIfInBounds_toArray, List.set_cons_zero, List.set_cons_succ] at hK
                  try simp only [hd] at hK
                  go_simp
                  exact hK.out _ _ ⟨hS, Below.refl _ _, rfl⟩
                · intro L hL hcl hw9 v u hS hd K' hK
                  simp only [waited, List.toList_toArray, Region.binds, rel, List.getD_cons_zero, List.getD_cons_succ, true_imp_iff, and_true] at hd
                  simp only [rel, List.getD_cons_zero, List.getD_cons_succ, Act.put, List.setIfInBounds_toArray, List.set_cons_zero, List.set_cons_succ] at hK
                  try simp only [hd] at hK
                  have x0 := hS.1.cell
                  go_simp
                  exact hK.out _ _ ⟨hS, Below.refl _ _, rfl⟩
                · intro L hL hcl hw9 v u hS hd K' hK
                  simp only [waited, List.toList_toArray, Region.binds, rel, List.getD_cons_zero, List.getD_cons_succ, true_imp_iff, and_true] at hd
                  simp only [rel, List.getD_cons_zero, List.getD_cons_succ, Act.put, List.setIfInBounds_toArray, List.set_cons_zero, List.set_cons_succ] at hK
                  try simp only [hd] at hK
                  go_simp
                  exact hK.out _ _ ⟨⟨hS.1.alloc _, bt hS.2 (below_alloc _ _)⟩, below_alloc _ _, ⟨_, rfl, Blk.new u _ _⟩⟩
                · intro L hL hcl hw9 v u hS hd K' hK
                  simp only [waited, List.toList_toArray, Region.binds, rel, List.getD_cons_zero, List.getD_cons_succ, true_imp_iff, and_true] at hd
                  simp only [rel, List.getD_cons_zero, List.getD_cons_succ, Act.put, List.setIfInBounds_toArray, List.set_cons_zero, List.set_cons_succ] at hK
                  try simp only [hd] at hK
                  obtain ⟨g, e0, hbg⟩ := hd
                  have hcv := blk_string' hbg
                  simp only [e0] at hK ⊢
                  go_simp
                  exact hK.out _ _ ⟨hS, Below.refl _ _, by rw [G0.out]⟩
                · intro L hL hcl hw9 v u hS hd K' hK
                  simp only [waited, List.toList_toArray, Region.binds, rel, List.getD_cons_zero, List.getD_cons_succ, true_imp_iff, and_true] at hd
                  simp only [rel, List.getD_cons_zero, List.getD_cons_succ, Act.put, List.setIfInBounds_toArray, List.set_cons_zero, List.set_cons_succ] at hK
                  try simp only [hd] at hK
                  go_simp
                  exact hK.out _ _ ⟨hS, Below.refl _ _, rfl⟩
                · intro L hL hcl hw9 v u hS hd K' hK
                  simp only [waited, List.toList_toArray, Region.binds, rel, List.getD_cons_zero, List.getD_cons_succ, true_imp_iff, and_true] at hd
                  simp only [rel, List.getD_cons_zero, List.getD_cons_succ, Act.put, List.setIfInBounds_toArray, List.set_cons_zero, List.set_cons_succ] at hK
                  try simp only [hd] at hK
                  have x0 := hS.1.cell
                  go_simp
                  exact hK.out _ _ ⟨hS, Below.refl _ _, rfl⟩
                · intro L hL hcl hw9 v u hS hd K' hK
                  simp only [waited, List.toList_toArray, Region.binds, rel, List.getD_cons_zero, List.getD_cons_succ, true_imp_iff, and_true] at hd
                  simp only [rel, List.getD_cons_zero, List.getD_cons_succ, Act.put, List.setIfInBounds_toArray, List.set_cons_zero, List.set_cons_succ] at hK
                  try simp only [hd] at hK
                  go_simp
                  refine (hT1 u).mono ?_
                  rintro e w2 ⟨rfl, hb2⟩
                  exact hK.out _ _ ⟨⟨hS.1.below hb2, bt hS.2 hb2⟩, hb2, rfl⟩
                · intro L hL hcl hw9 v u hS hd K' hK
                  simp only [waited, List.toList_toArray, Region.binds, rel, List.getD_cons_zero, List.getD_cons_succ, true_imp_iff, and_true] at hd
                  simp only [rel, List.getD_cons_zero, List.getD_cons_succ, Act.put, List.setIfInBounds_toArray, List.set_cons_zero, List.set_cons_succ] at hK
                  try simp only [hd] at hK
                  have hadd := ha1
                  go_simp
                  exact hK.out _ _ ⟨hS, Below.refl _ _, rfl⟩
                · intro L hL hcl hw9 v u hS hd K' hK
                  simp only [waited, List.toList_toArray, Region.binds, rel, List.getD_cons_zero, List.getD_cons_succ, true_imp_iff, and_true] at hd
                  simp only [rel, List.getD_cons_zero, List.getD_cons_succ, Act.put, List.setIfInBounds_toArray, List.set_cons_zero, List.set_cons_succ] at hK
                  try simp only [hd] at hK
                  go_simp
                  exact hK.out _ _ ⟨hS, Below.refl _ _, rfl⟩
                · intro L hL hcl hw9 v u hS hd K' hK
                  simp only [waited, List.toList_toArray, Region.binds, rel, List.getD_cons_zero, List.getD_cons_succ, true_imp_iff, and_true] at hd
                  simp only [rel, List.getD_cons_zero, List.getD_cons_succ, Act.put, List.setIfInBounds_toArray, List.set_cons_zero, List.set_cons_succ] at hK
                  try simp only [hd] at hK
                  have x0 := hS.1.cell
                  go_simp
                  exact hK.out _ _ ⟨hS, Below.refl _ _, rfl⟩
                · intro L hL hcl hw9 v u hS hd K' hK
                  simp only [waited, List.toList_toArray, Region.binds, rel, List.getD_cons_zero, List.getD_cons_succ, true_imp_iff, and_true] at hd
                  simp only [rel, List.getD_cons_zero, List.getD_cons_succ, Act.put, List.setIfInBounds_toArray, List.set_cons_zero, List.set_cons_succ] at hK
                  try simp only [hd] at hK
                  go_simp
                  refine (hT2 u).mono ?_
                  rintro e w2 ⟨rfl, hb2⟩
                  exact hK.out _ _ ⟨⟨hS.1.below hb2, bt hS.2 hb2⟩, hb2, rfl⟩
                · intro L hL hcl hw9 v u hS hd K' hK
                  simp only [waited, List.toList_toArray, Region.binds, rel, List.getD_cons_zero, List.getD_cons_succ, true_imp_iff, and_true] at hd
                  simp only [rel, List.getD_cons_zero, List.getD_cons_succ, Act.put, List.setIfInBounds_toArray, List.set_cons_zero, List.set_cons_succ] at hK
                  try simp only [hd] at hK
                  have hadd := ha2
                  go_simp
                  exact hK.out _ _ ⟨hS, Below.refl _ _, rfl⟩
                · intro L hL hcl hw9 v u hS hd K' hK
                  simp only [waited, List.toList_toArray, Region.binds, rel, List.getD_cons_zero, List.getD_cons_succ, true_imp_iff, and_true] at hd
                  simp only [rel, List.getD_cons_zero, List.getD_cons_succ, Act.put, List.setIfInBounds_toArray, List.set_cons_zero, List.set_cons_succ] at hK
                  try simp only [hd] at hK
                  go_simp
                  exact hK.out _ _ ⟨hS, Below.refl _ _, rfl⟩
                · intro L hL hcl hw9 v u hS hd K' hK
                  simp only [waited, List.toList_toArray, Region.binds, rel, List.getD_cons_zero, List.getD_cons_succ, true_imp_iff, and_true] at hd
                  simp only [rel, List.getD_cons_zero, List.getD_cons_succ, Act.put, List.setIfInBounds_toArray, List.set_cons_zero, List.set_cons_succ] at hK
                  try simp only [hd] at hK
                  go_simp
                  exact hK.out _ _ ⟨hS, Below.refl _ _, rfl⟩
                · intro L hL hcl hw9 v u hS hd K' hK
                  simp only [waited, List.toList_toArray, Region.binds, rel, List.getD_cons_zero, List.getD_cons_succ, true_imp_iff, and_true] at hd
                  simp only [rel, List.getD_cons_zero, List.getD_cons_succ, Act.put, List.setIfInBounds_toArray, List.set_cons_zero, List.set_cons_succ] at hK
                  try simp only [hd] at hK
                  have x0 := hS.1.cell
                  go_simp
                  exact hK.out _ _ ⟨hS, Below.refl _ _, rfl⟩
                · intro L hL hcl hw9 v u hS hd K' hK
                  simp only [waited, List.toList_toArray, Region.binds, rel, List.getD_cons_zero, List.getD_cons_succ, true_imp_iff, and_true] at hd
                  simp only [rel, List.getD_cons_zero, List.getD_cons_succ, Act.put, List.setIfInBounds_toArray, List.set_cons_zero, List.set_cons_succ] at hK
                  try simp only [hd] at hK
                  go_simp
                  refine (hT3 u).mono ?_
                  rintro e w2 ⟨rfl, hb2⟩
                  exact hK.out _ _ ⟨⟨hS.1.below hb2, bt hS.2 hb2⟩, hb2, rfl⟩
                · intro L hL hcl hw9 v u hS hd K' hK
                  simp only [waited, List.toList_toArray, Region.binds, rel, List.getD_cons_zero, List.getD_cons_succ, true_imp_iff, and_true] at hd
                  simp only [rel, List.getD_cons_zero, List.getD_cons_succ, Act.put, List.setIfInBounds_toArray, List.set_cons_zero, List.set_cons_succ] at hK
                  try simp only [hd] at hK
                  have hadd := ha3
                  go_simp
                  exact hK.out _ _ ⟨hS, Below.refl _ _, rfl⟩
                · intro L hL hcl hw9 v u hS hd K' hK
                  simp only [waited, List.toList_toArray, Region.binds, rel, List.getD_cons_zero, List.getD_cons_succ, true_imp_iff, and_true] at hd
                  simp only [rel, List.getD_cons_zero, List.getD_cons_succ, Act.put, List.setIfInBounds_toArray, List.set_cons_zero, List.set_cons_succ] at hK
                  try simp only [hd] at hK
                  go_simp
                  exact hK.out _ _ ⟨hS, Below.refl _ _, rfl⟩
                · intro L hL hcl hw9 v u hS hd K' hK
                  simp only [waited, List.toList_toArray, Region.binds, rel, List.getD_cons_zero, List.getD_cons_succ, true_imp_iff, and_true] at hd
                  simp only [rel, List.getD_cons_zero, List.getD_cons_succ, Act.put, List.setIfInBounds_toArray, List.set_cons_zero, List.set_cons_succ] at hK
                  try simp only [hd] at hK
                  go_simp
                  exact hK.out _ _ ⟨hS, Below.refl _ _, rfl⟩
                · intro L hL hcl hw9 v u hS hd K' hK
                  simp only [waited, List.toList_toArray, Region.binds, rel, List.getD_cons_zero, List.getD_cons_succ, true_imp_iff, and_true] at hd
                  simp only [rel, List.getD_cons_zero, List.getD_cons_succ, Act.put, List.setIfInBounds_toArray, List.set_cons_zero, List.set_cons_succ] at hK
                  try simp only [hd] at hK
                  have x0 := hS.1.cell
                  go_simp
                  exact hK.out _ _ ⟨hS, Below.refl _ _, rfl⟩
                · intro L hL hcl hw9 v u hS hd K' hK
                  simp only [waited, List.toList_toArray, Region.binds, rel, List.getD_cons_zero, List.getD_cons_succ, true_imp_iff, and_true] at hd
                  simp only [rel, List.getD_cons_zero, List.getD_cons_succ, Act.put, List.setIfInBounds_toArray, List.set_cons_zero, List.set_cons_succ] at hK
                  try simp only [hd] at hK
                  go_simp
                  refine (hT4 u).mono ?_
                  rintro e w2 ⟨rfl, hb2⟩
                  exact hK.out _ _ ⟨⟨hS.1.below hb2, bt hS.2 hb2⟩, hb2, rfl⟩
                · intro L hL hcl hw9 v u hS hd K' hK
                  simp only [waited, List.toList_toArray, Region.binds, rel, List.getD_cons_zero, List.getD_cons_succ, true_imp_iff, and_true] at hd
                  simp only [rel, List.getD_cons_zero, List.getD_cons_succ, Act.put, List.setIfInBounds_toArray, List.set_cons_zero, List.set_cons_succ] at hK
                  try simp only [hd] at hK
                  have hadd := ha4
                  go_simp
                  exact hK.out _ _ ⟨hS, Below.refl _ _, rfl⟩
                · intro L hL hcl hw9 v u hS hd K' hK
                  simp only [waited, List.toList_toArray, Region.binds, rel, List.getD_cons_zero, List.getD_cons_succ, true_imp_iff, and_true] at hd
                  simp only [rel, List.getD_cons_zero, List.getD_cons_succ, Act.put, List.setIfInBounds_toArray, List.set_cons_zero, List.set_cons_succ] at hK
                  try simp only [hd] at hK
                  have hadd := ha5
                  go_simp
                  exact hK.out _ _ ⟨hS, Below.refl _ _, rfl⟩
              · rintro v u hS hR
                simp only [holdAll, List.size_toArray, List.length_cons, List.length_nil, Nat.reduceAdd, rel, List.getD_cons_zero, List.getD_cons_succ] at hR
                simp only [List.toList_toArray, List.drop_succ_cons, List.drop_zero]
                obtain ⟨-, h23⟩ := hR
                simp only [h23]
                clear h23
                refine seqOps_cons fun K hK => ?_
                go_simp
                refine hK.out _ _ (seqOps_nil ?_)
                clear hK
                have hbw9 := hS.2
                clear hS
                go_wp2
                go_roundw
                case rel => exact ⟨1, A5, by omega, by first | rfl | go_num, by first | rfl | trivial, ⟨fun h => absurd h (by decide), fun _ => rfl⟩, hbw9⟩
                case measure => simp [intOf]
            · obtain rfl : j = 1 := by omega
              obtain rfl : A5 = T := (hTT.out.2 rfl).symm
              clear hTT
              clear hj hT1 hT2 hT3 hT4 ha1 ha2 ha3 ha4 ha5
              go_wp2
              go_ret2
              exact ⟨by rw [HPK2.out, HRES.out]; rfl, hbw⟩
end Go.Proofs.Ytiodfbbgbnbdpaa
