/- record.head, Check, Pieces. -/
import Derived.Test.YtpfbmmeipojodaaRecSector
import Derived.Test.YtpfbmmeipojodaaCrcB
import Derived.Test.YtpfbmmeipojodaaFlat
import Derived.Deep.DrawnRows
namespace Go.Proofs.Ytpfbmmeipojodaa
set_option linter.unusedSimpArgs false
set_option linter.unusedVariables false
open Go.RowKit
open Crc
/-- Two bytes that were laid, as a slice. -/
def PairAt (a b : UInt8) (E : TypeId) (v : Value) (w : World) : Prop := ∃ g, v = .slice (some ⟨g, 0, none⟩) 2 2 ∧ Blk w g (cellsOf [a, b]) E
theorem PairAt.conv {P : Program} {a b : UInt8} {E : TypeId} {v : Value} {w : World} (h : PairAt a b E v w) (src dst e : TypeId) (hs : P.underlying src = some (.slice e)) (he : P.underlying e = some (.int .u8)) (hd : P.underlying dst = some .string) :
    (convert src dst v).run P w = .ok (.string (str [a, b])) w := by
  obtain ⟨g, rfl, hb⟩ := h
  refine run_convert_bytes_back w src dst e _ 2 [a, b] hs he hd ?_
  intro j hj
  rw [addr_add, hb.cell, Nat.zero_add]
  simp only [cellsOf, List.map_cons, List.map_nil]
  match j, hj with
  | 0, _ => rfl
  | 1, _ => rfl
theorem texts_of_blk {w : World} {g : Nat} {l : List ByteArray} {E : TypeId} (h : Blk w g (strs l) E) : Texts w (some ⟨g, 0, none⟩) l :=
  ⟨by simp [strs], fun _ => ⟨g, 0, rfl, fun j u hu => by rw [Nat.zero_add, h.cell]; exact hu⟩⟩
theorem str_app_size (a b : ByteArray) : (a ++ b).size = a.size + b.size := ByteArray.size_append
set_option maxHeartbeats 16000000 in
set_option maxRecDepth 100000 in
theorem head_w (kind : UInt8) (epoch seq len sum : Nat) (w : World) (hlen : len < 4294967296) (hsum : sum < 4294967296) :
    Calls Try.prog 43 #[.agg #[.int .u8 (kind.toNat : Int), .int .u64 (epoch : Int), .int .u64 (seq : Int), .int .i64 (len : Int), .int .u32 (sum : Int)]] w fun e w' => e = .returned (.string (str (headL kind epoch seq len sum))) ∧ Below w.heap.size w w' := by
  have hwr := wrap_u32_nat len hlen
  obtain ⟨F, HF⟩ := named (str (headL kind epoch seq len sum))
  rw [← HF.out]
  obtain ⟨T0, H0⟩ := named (str [72, kind])
  obtain ⟨T1, H1⟩ := named (str (putL epoch 8))
  obtain ⟨T2, H2⟩ := named (str (putL seq 8))
  obtain ⟨T3, H3⟩ := named (str (putL len 4))
  obtain ⟨T4, H4⟩ := named (str (putL sum 4))
  have hq1 := put64_w epoch
  have hq2 := put64_w seq
  have hq3 := fun w => put32_w len w hlen
  have hq4 := fun w => put32_w sum w hsum
  rw [← H1.out] at hq1
  rw [← H2.out] at hq2
  rw [← H3.out] at hq3
  rw [← H4.out] at hq4
  have z0 : Hid (T0.size = 2) := by show _ = _; rw [H0.out, str_size]; rfl
  have z1 : Hid (T1.size = 8) := by show _ = _; rw [H1.out, str_size, putL_length]
  have z2 : Hid (T2.size = 8) := by show _ = _; rw [H2.out, str_size, putL_length]
  have z3 : Hid (T3.size = 4) := by show _ = _; rw [H3.out, str_size, putL_length]
  have z4 : Hid (T4.size = 4) := by show _ = _; rw [H4.out, str_size, putL_length]
  have hall : Hid (T0 ++ T1 ++ T2 ++ T3 ++ T4 = str (frontL kind epoch seq len sum)) := by
    show _ = _
    rw [H0.out, H1.out, H2.out, H3.out, H4.out, str_append, str_append, str_append, str_append]
    rfl
  have ha1 : ∀ w', (Op.stringOp .add T0 T1).run Try.prog w' = .ok (.string (T0 ++ T1)) w' := fun w' => run_string_add_sum w' _ _ (by rw [z0.out, z1.out]; decide)
  obtain ⟨U1, G1⟩ := named (T0 ++ T1)
  have y1 : Hid (U1.size = 10) := by show _ = _; rw [G1.out, str_app_size, z0.out, z1.out]
  rw [← G1.out] at ha1
  have ha2 : ∀ w', (Op.stringOp .add U1 T2).run Try.prog w' = .ok (.string (U1 ++ T2)) w' := fun w' => run_string_add_sum w' _ _ (by rw [y1.out, z2.out]; decide)
  obtain ⟨U2, G2⟩ := named (U1 ++ T2)
  have y2 : Hid (U2.size = 18) := by show _ = _; rw [G2.out, str_app_size, y1.out, z2.out]
  rw [← G2.out] at ha2
  have ha3 : ∀ w', (Op.stringOp .add U2 T3).run Try.prog w' = .ok (.string (U2 ++ T3)) w' := fun w' => run_string_add_sum w' _ _ (by rw [y2.out, z3.out]; decide)
  obtain ⟨U3, G3⟩ := named (U2 ++ T3)
  have y3 : Hid (U3.size = 22) := by show _ = _; rw [G3.out, str_app_size, y2.out, z3.out]
  rw [← G3.out] at ha3
  have ha4 : ∀ w', (Op.stringOp .add U3 T4).run Try.prog w' = .ok (.string (U3 ++ T4)) w' := fun w' => run_string_add_sum w' _ _ (by rw [y3.out, z4.out]; decide)
  obtain ⟨U4, G4⟩ := named (U3 ++ T4)
  have y4 : U4.size ≤ maxLen := by rw [G4.out, str_app_size, y3.out, z4.out]; decide
  rw [← G4.out] at ha4
  have hU4 : Hid (U4 = str (frontL kind epoch seq len sum)) := by show _ = _; rw [G4.out, G3.out, G2.out, G1.out]; exact hall.out
  have hU4d : Hid (U4.data.toList = frontL kind epoch seq len sum) := by show _ = _; rw [hU4.out, str_data]
  obtain ⟨C, HC⟩ := named (str (putL (crcOf (frontL kind epoch seq len sum)) 4))
  have hlast : Hid (str (fillL 64 (catL [U4, C])) = F) := by
    show _ = _
    rw [HF.out, headL, HC.out]
    simp only [catL, List.flatMap_cons, List.flatMap_nil, List.append_nil, hU4d.out, str_data]
  have hcat : (catL [U4, C]).length ≤ 100000 := by
    simp only [catL, List.flatMap_cons, List.flatMap_nil, List.append_nil, hU4d.out, HC.out, str_data, List.length_append, frontL_length, putL_length]
    omega
  have hcv : ∀ v u, PairAt 72 kind 5 v u → (convert 56 9 v).run Try.prog u = .ok (.string T0) u := fun v u h => by
    rw [H0.out]; exact h.conv _ _ _ Try.underlying56 Try.underlying5 Try.underlying9
  clear z0 z1 z2 z3 z4 y1 y2 y3 G1 G2 G3 G4 H0 H1 H2 H3 H4 hall hU4
  have K := Blk.new w [.int .u8 (kind.toNat : Int), .int .u64 (epoch : Int), .int .u64 (seq : Int), .int .i64 (len : Int), .int .u32 (sum : Int)] 87
  have b0 := below_alloc w (.cells #[.int .u8 (kind.toNat : Int), .int .u64 (epoch : Int), .int .u64 (seq : Int), .int .i64 (len : Int), .int .u32 (sum : Int)] 87)
  obtain ⟨W, HW⟩ := named (w.alloc (.cells #[.int .u8 (kind.toNat : Int), .int .u64 (epoch : Int), .int .u64 (seq : Int), .int .i64 (len : Int), .int .u32 (sum : Int)] 87))
  go_enter Try.func43, Try.ntmps43
  go_wp2_with fail
  rw [← HW.out] at K b0 ⊢
  clear HW
  refine region_flat _ (fun u => Blk u w.heap.size [.int .u8 (kind.toNat : Int), .int .u64 (epoch : Int), .int .u64 (seq : Int), .int .i64 (len : Int), .int .u32 (sum : Int)] 87 ∧ Below w.heap.size w u) (fun u u' => Below u.heap.size u u')
    (rel [fun v _ => v = .pointer (some ⟨w.heap.size, 0, none⟩),
      fun v _ => v = .int .u8 (kind.toNat : Int),
      PairAt 72 kind 5,
      fun v _ => v = .string T0,
      fun v _ => v = .pointer (some ⟨w.heap.size, 1, none⟩),
      fun v _ => v = .int .u64 (epoch : Int),
      fun v _ => v = .string T1,
      fun v _ => v = .string U1,
      fun v _ => v = .pointer (some ⟨w.heap.size, 2, none⟩),
      fun v _ => v = .int .u64 (seq : Int),
      fun v _ => v = .string T2,
      fun v _ => v = .string U2,
      fun v _ => v = .pointer (some ⟨w.heap.size, 3, none⟩),
      fun v _ => v = .int .i64 (len : Int),
      fun v _ => v = .int .u32 (len : Int),
      fun v _ => v = .string T3,
      fun v _ => v = .string U3,
      fun v _ => v = .pointer (some ⟨w.heap.size, 4, none⟩),
      fun v _ => v = .int .u32 (sum : Int),
      fun v _ => v = .string T4,
      fun v _ => v = .string U4,
      fun v _ => v = .string U4])
    (by kernel_rfl) (by kernel_rfl) (fun v => by simp only [putsV, Act.put, List.toList_toArray, List.setIfInBounds_toArray, List.set_cons_zero, List.set_cons_succ, Nat.reduceAdd, Nat.zero_add]; rfl) ?_ ⟨K, b0.drew⟩ ?_ ?_
  · intro j x u u' hb h
    match j with
    | 0 => exact h
    | 1 => exact h
    | 2 => exact (let ⟨g, e, hg⟩ := h; ⟨g, e, hg.below hb⟩)
    | 3 => exact h
    | 4 => exact h
    | 5 => exact h
    | 6 => exact h
    | 7 => exact h
    | 8 => exact h
    | 9 => exact h
    | 10 => exact h
    | 11 => exact h
    | 12 => exact h
    | 13 => exact h
    | 14 => exact h
    | 15 => exact h
    | 16 => exact h
    | 17 => exact h
    | 18 => exact h
    | 19 => exact h
    | 20 => exact h
    | 21 => exact h
    | _ + 22 => trivial
  · refine ⟨?_, ?_, ?_, ?_, ?_, ?_, ?_, ?_, ?_, ?_, ?_, ?_, ?_, ?_, ?_, ?_, ?_, ?_, ?_, ?_, ?_, ?_, trivial⟩
    · intro v u hS hd K' hK
      simp only [waited, List.toList_toArray, Region.binds, rel, List.getD_cons_zero, List.getD_cons_succ, true_imp_iff, and_true] at hd
      simp only [rel, List.getD_cons_zero, List.getD_cons_succ, Act.put, List.setIfInBounds_toArray, List.set_cons_zero, List.set_cons_succ] at hK
      try simp only [hd] at hK
      obtain ⟨hS1, hS2⟩ := hS
      go_simp
      exact hK.out _ _ ⟨⟨hS1, hS2⟩, Below.refl _ _, rfl⟩
    · intro v u hS hd K' hK
      simp only [waited, List.toList_toArray, Region.binds, rel, List.getD_cons_zero, List.getD_cons_succ, true_imp_iff, and_true] at hd
      simp only [rel, List.getD_cons_zero, List.getD_cons_succ, Act.put, List.setIfInBounds_toArray, List.set_cons_zero, List.set_cons_succ] at hK
      try simp only [hd] at hK
      obtain ⟨hS1, hS2⟩ := hS
      have x0 := hS1.cell 0
      go_simp
      exact hK.out _ _ ⟨⟨hS1, hS2⟩, Below.refl _ _, rfl⟩
    · intro v u hS hd K' hK
      simp only [waited, List.toList_toArray, Region.binds, rel, List.getD_cons_zero, List.getD_cons_succ, true_imp_iff, and_true] at hd
      simp only [rel, List.getD_cons_zero, List.getD_cons_succ, Act.put, List.setIfInBounds_toArray, List.set_cons_zero, List.set_cons_succ] at hK
      try simp only [hd] at hK
      obtain ⟨hS1, hS2⟩ := hS
      go_simp
      exact hK.out _ _ ⟨⟨hS1.alloc _, hS2.alloc hS2.size _⟩, below_alloc _ _, ⟨_, rfl, Blk.new _ _ _⟩⟩
    · intro v u hS hd K' hK
      simp only [waited, List.toList_toArray, Region.binds, rel, List.getD_cons_zero, List.getD_cons_succ, true_imp_iff, and_true] at hd
      simp only [rel, List.getD_cons_zero, List.getD_cons_succ, Act.put, List.setIfInBounds_toArray, List.set_cons_zero, List.set_cons_succ] at hK
      try simp only [hd] at hK
      obtain ⟨hS1, hS2⟩ := hS
      go_simp
      exact hK.out _ _ ⟨⟨hS1, hS2⟩, Below.refl _ _, rfl⟩
    · intro v u hS hd K' hK
      simp only [waited, List.toList_toArray, Region.binds, rel, List.getD_cons_zero, List.getD_cons_succ, true_imp_iff, and_true] at hd
      simp only [rel, List.getD_cons_zero, List.getD_cons_succ, Act.put, List.setIfInBounds_toArray, List.set_cons_zero, List.set_cons_succ] at hK
      try simp only [hd] at hK
      obtain ⟨hS1, hS2⟩ := hS
      go_simp
      exact hK.out _ _ ⟨⟨hS1, hS2⟩, Below.refl _ _, rfl⟩
    · intro v u hS hd K' hK
      simp only [waited, List.toList_toArray, Region.binds, rel, List.getD_cons_zero, List.getD_cons_succ, true_imp_iff, and_true] at hd
      simp only [rel, List.getD_cons_zero, List.getD_cons_succ, Act.put, List.setIfInBounds_toArray, List.set_cons_zero, List.set_cons_succ] at hK
      try simp only [hd] at hK
      obtain ⟨hS1, hS2⟩ := hS
      have x0 := hS1.cell 1
      go_simp
      exact hK.out _ _ ⟨⟨hS1, hS2⟩, Below.refl _ _, rfl⟩
    · intro v u hS hd K' hK
      simp only [waited, List.toList_toArray, Region.binds, rel, List.getD_cons_zero, List.getD_cons_succ, true_imp_iff, and_true] at hd
      simp only [rel, List.getD_cons_zero, List.getD_cons_succ, Act.put, List.setIfInBounds_toArray, List.set_cons_zero, List.set_cons_succ] at hK
      try simp only [hd] at hK
      obtain ⟨hS1, hS2⟩ := hS
      go_simp
      refine (hq1 _).mono ?_
      rintro e w2 ⟨rfl, hb2⟩
      exact hK.out _ _ ⟨⟨hS1.below hb2, bt hS2 hb2⟩, hb2, rfl⟩
    · intro v u hS hd K' hK
      simp only [waited, List.toList_toArray, Region.binds, rel, List.getD_cons_zero, List.getD_cons_succ, true_imp_iff, and_true] at hd
      simp only [rel, List.getD_cons_zero, List.getD_cons_succ, Act.put, List.setIfInBounds_toArray, List.set_cons_zero, List.set_cons_succ] at hK
      try simp only [hd] at hK
      obtain ⟨hS1, hS2⟩ := hS
      go_simp
      exact hK.out _ _ ⟨⟨hS1, hS2⟩, Below.refl _ _, rfl⟩
    · intro v u hS hd K' hK
      simp only [waited, List.toList_toArray, Region.binds, rel, List.getD_cons_zero, List.getD_cons_succ, true_imp_iff, and_true] at hd
      simp only [rel, List.getD_cons_zero, List.getD_cons_succ, Act.put, List.setIfInBounds_toArray, List.set_cons_zero, List.set_cons_succ] at hK
      try simp only [hd] at hK
      obtain ⟨hS1, hS2⟩ := hS
      go_simp
      exact hK.out _ _ ⟨⟨hS1, hS2⟩, Below.refl _ _, rfl⟩
    · intro v u hS hd K' hK
      simp only [waited, List.toList_toArray, Region.binds, rel, List.getD_cons_zero, List.getD_cons_succ, true_imp_iff, and_true] at hd
      simp only [rel, List.getD_cons_zero, List.getD_cons_succ, Act.put, List.setIfInBounds_toArray, List.set_cons_zero, List.set_cons_succ] at hK
      try simp only [hd] at hK
      obtain ⟨hS1, hS2⟩ := hS
      have x0 := hS1.cell 2
      go_simp
      exact hK.out _ _ ⟨⟨hS1, hS2⟩, Below.refl _ _, rfl⟩
    · intro v u hS hd K' hK
      simp only [waited, List.toList_toArray, Region.binds, rel, List.getD_cons_zero, List.getD_cons_succ, true_imp_iff, and_true] at hd
      simp only [rel, List.getD_cons_zero, List.getD_cons_succ, Act.put, List.setIfInBounds_toArray, List.set_cons_zero, List.set_cons_succ] at hK
      try simp only [hd] at hK
      obtain ⟨hS1, hS2⟩ := hS
      go_simp
      refine (hq2 _).mono ?_
      rintro e w2 ⟨rfl, hb2⟩
      exact hK.out _ _ ⟨⟨hS1.below hb2, bt hS2 hb2⟩, hb2, rfl⟩
    · intro v u hS hd K' hK
      simp only [waited, List.toList_toArray, Region.binds, rel, List.getD_cons_zero, List.getD_cons_succ, true_imp_iff, and_true] at hd
      simp only [rel, List.getD_cons_zero, List.getD_cons_succ, Act.put, List.setIfInBounds_toArray, List.set_cons_zero, List.set_cons_succ] at hK
      try simp only [hd] at hK
      obtain ⟨hS1, hS2⟩ := hS
      go_simp
      exact hK.out _ _ ⟨⟨hS1, hS2⟩, Below.refl _ _, rfl⟩
    · intro v u hS hd K' hK
      simp only [waited, List.toList_toArray, Region.binds, rel, List.getD_cons_zero, List.getD_cons_succ, true_imp_iff, and_true] at hd
      simp only [rel, List.getD_cons_zero, List.getD_cons_succ, Act.put, List.setIfInBounds_toArray, List.set_cons_zero, List.set_cons_succ] at hK
      try simp only [hd] at hK
      obtain ⟨hS1, hS2⟩ := hS
      go_simp
      exact hK.out _ _ ⟨⟨hS1, hS2⟩, Below.refl _ _, rfl⟩
    · intro v u hS hd K' hK
      simp only [waited, List.toList_toArray, Region.binds, rel, List.getD_cons_zero, List.getD_cons_succ, true_imp_iff, and_true] at hd
      simp only [rel, List.getD_cons_zero, List.getD_cons_succ, Act.put, List.setIfInBounds_toArray, List.set_cons_zero, List.set_cons_succ] at hK
      try simp only [hd] at hK
      obtain ⟨hS1, hS2⟩ := hS
      have x0 := hS1.cell 3
      go_simp
      exact hK.out _ _ ⟨⟨hS1, hS2⟩, Below.refl _ _, rfl⟩
    · intro v u hS hd K' hK
      simp only [waited, List.toList_toArray, Region.binds, rel, List.getD_cons_zero, List.getD_cons_succ, true_imp_iff, and_true] at hd
      simp only [rel, List.getD_cons_zero, List.getD_cons_succ, Act.put, List.setIfInBounds_toArray, List.set_cons_zero, List.set_cons_succ] at hK
      try simp only [hd] at hK
      obtain ⟨hS1, hS2⟩ := hS
      go_simp
      exact hK.out _ _ ⟨⟨hS1, hS2⟩, Below.refl _ _, rfl⟩
    · intro v u hS hd K' hK
      simp only [waited, List.toList_toArray, Region.binds, rel, List.getD_cons_zero, List.getD_cons_succ, true_imp_iff, and_true] at hd
      simp only [rel, List.getD_cons_zero, List.getD_cons_succ, Act.put, List.setIfInBounds_toArray, List.set_cons_zero, List.set_cons_succ] at hK
      try simp only [hd] at hK
      obtain ⟨hS1, hS2⟩ := hS
      go_simp
      refine (hq3 _).mono ?_
      rintro e w2 ⟨rfl, hb2⟩
      exact hK.out _ _ ⟨⟨hS1.below hb2, bt hS2 hb2⟩, hb2, rfl⟩
    · intro v u hS hd K' hK
      simp only [waited, List.toList_toArray, Region.binds, rel, List.getD_cons_zero, List.getD_cons_succ, true_imp_iff, and_true] at hd
      simp only [rel, List.getD_cons_zero, List.getD_cons_succ, Act.put, List.setIfInBounds_toArray, List.set_cons_zero, List.set_cons_succ] at hK
      try simp only [hd] at hK
      obtain ⟨hS1, hS2⟩ := hS
      go_simp
      exact hK.out _ _ ⟨⟨hS1, hS2⟩, Below.refl _ _, rfl⟩
    · intro v u hS hd K' hK
      simp only [waited, List.toList_toArray, Region.binds, rel, List.getD_cons_zero, List.getD_cons_succ, true_imp_iff, and_true] at hd
      simp only [rel, List.getD_cons_zero, List.getD_cons_succ, Act.put, List.setIfInBounds_toArray, List.set_cons_zero, List.set_cons_succ] at hK
      try simp only [hd] at hK
      obtain ⟨hS1, hS2⟩ := hS
      go_simp
      exact hK.out _ _ ⟨⟨hS1, hS2⟩, Below.refl _ _, rfl⟩
    · intro v u hS hd K' hK
      simp only [waited, List.toList_toArray, Region.binds, rel, List.getD_cons_zero, List.getD_cons_succ, true_imp_iff, and_true] at hd
      simp only [rel, List.getD_cons_zero, List.getD_cons_succ, Act.put, List.setIfInBounds_toArray, List.set_cons_zero, List.set_cons_succ] at hK
      try simp only [hd] at hK
      obtain ⟨hS1, hS2⟩ := hS
      have x0 := hS1.cell 4
      go_simp
      exact hK.out _ _ ⟨⟨hS1, hS2⟩, Below.refl _ _, rfl⟩
    · intro v u hS hd K' hK
      simp only [waited, List.toList_toArray, Region.binds, rel, List.getD_cons_zero, List.getD_cons_succ, true_imp_iff, and_true] at hd
      simp only [rel, List.getD_cons_zero, List.getD_cons_succ, Act.put, List.setIfInBounds_toArray, List.set_cons_zero, List.set_cons_succ] at hK
      try simp only [hd] at hK
      obtain ⟨hS1, hS2⟩ := hS
      go_simp
      refine (hq4 _).mono ?_
      rintro e w2 ⟨rfl, hb2⟩
      exact hK.out _ _ ⟨⟨hS1.below hb2, bt hS2 hb2⟩, hb2, rfl⟩
    · intro v u hS hd K' hK
      simp only [waited, List.toList_toArray, Region.binds, rel, List.getD_cons_zero, List.getD_cons_succ, true_imp_iff, and_true] at hd
      simp only [rel, List.getD_cons_zero, List.getD_cons_succ, Act.put, List.setIfInBounds_toArray, List.set_cons_zero, List.set_cons_succ] at hK
      try simp only [hd] at hK
      obtain ⟨hS1, hS2⟩ := hS
      go_simp
      exact hK.out _ _ ⟨⟨hS1, hS2⟩, Below.refl _ _, rfl⟩
    · intro v u hS hd K' hK
      simp only [waited, List.toList_toArray, Region.binds, rel, List.getD_cons_zero, List.getD_cons_succ, true_imp_iff, and_true] at hd
      simp only [rel, List.getD_cons_zero, List.getD_cons_succ, Act.put, List.setIfInBounds_toArray, List.set_cons_zero, List.set_cons_succ] at hK
      try simp only [hd] at hK
      obtain ⟨hS1, hS2⟩ := hS
      go_simp
      exact hK.out _ _ ⟨⟨hS1, hS2⟩, Below.refl _ _, rfl⟩
  · rintro v u ⟨hS1, hS2⟩ hR
    simp only [holdAll, List.size_toArray, List.length_cons, List.length_nil, Nat.reduceAdd, rel, List.getD_cons_zero, List.getD_cons_succ] at hR
    obtain ⟨_, h21⟩ := hR
    rw [h21]
    clear h21
    have hu := hS2
    clear K b0 hS1 hS2
    have hq5 := put32_w (crcOf (frontL kind epoch seq len sum)) u (crcOf_lt _)
    rw [← HC.out] at hq5
    rw [crcOf, ← hU4d.out] at hq5
    go_wp2_with fail
    refine (sum_w _ _ y4).mono ?_
    rintro e w2 ⟨rfl, rfl⟩
    go_wp2_with fail
    refine hq5.mono ?_
    rintro e w2 ⟨rfl, hb2⟩
    have hbl := Blk.new w2 [.string U4, .string C] 9
    have hbu := bt hu hb2
    have hbv := hbu.alloc hbu.size (.cells #[.string U4, .string C] 9)
    obtain ⟨W2, HW2⟩ := named (w2.alloc (.cells #[.string U4, .string C] 9))
    obtain ⟨g, Hg⟩ := named w2.heap.size
    have hsec : ∀ W3, Below W2.heap.size W2 W3 → Calls Try.prog 45 #[.slice (some ⟨g, 0, none⟩) 2 2] W3 fun e w' => e = .returned (.string F) ∧ Below W3.heap.size W3 w' := fun W3 h3 => by
      have ht : Texts W3 (some ⟨g, 0, none⟩) [U4, C] := by
        rw [Hg.out]
        rw [← HW2.out] at hbl
        exact texts_of_blk (hbl.below h3)
      have := sector_w (some ⟨g, 0, none⟩) 2 [U4, C] W3 ht (by simp) hcat
      rw [hlast.out] at this
      exact this
    go_wp2_with fail
    rw [← HW2.out, ← Hg.out]
    rw [← HW2.out] at hbv
    refine (hsec _ (Below.refl _ _)).mono ?_
    rintro e w3 ⟨rfl, hb3⟩
    go_wp2
    go_ret
    exact ⟨rfl, bt hbv hb3⟩
end Go.Proofs.Ytpfbmmeipojodaa
