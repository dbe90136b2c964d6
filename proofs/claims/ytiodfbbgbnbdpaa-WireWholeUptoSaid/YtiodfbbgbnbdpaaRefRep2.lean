/- The document on replies: WriteReply, ReadReply. -/
import Derived.Test.YtiodfbbgbnbdpaaRefRep
import Derived.Test.YtiodfbbgbnbdpaaWReply
namespace Go.Proofs.Ytiodfbbgbnbdpaa
set_option linter.unusedSimpArgs false
set_option linter.unusedVariables false
open Go.RowKit
open Crc
theorem blk_string2 {u : World} {g : Nat} {a b : UInt8} (h : Blk u g [.int .u8 (a.toNat : Int), .int .u8 (b.toNat : Int)] 5) : (convert 51 9 (.slice (some ⟨g, 0, none⟩) 2 2)).run Try.prog u = .ok (.string (str [a, b])) u := by
  refine run_convert_bytes_back u 51 9 5 _ 2 [a, b] Try.underlying51 Try.underlying5 Try.underlying9 ?_
  intro j hj
  rw [addr_add, Nat.zero_add, h.cell]
  match j, hj with
  | 0, _ => rfl
  | 1, _ => rfl
set_option maxRecDepth 100000 in
set_option maxHeartbeats 4000000 in
theorem refWriteReply_x {n : Nat} {why pl : Int} {al o1 o2 : Bool} {v1 v2 : Value} {y p : UInt8} (t1 t2 R : ByteArray) (F : ByteArray × Int) (w : World) (hn : n < 18446744073709551616)
    (h1 : ∀ W, Below w.heap.size w W → Calls Try.prog 31 #[v1] W fun e w' => e = .returned (.tuple #[.string t1, .bool o1]) ∧ Below W.heap.size W w')
    (h2 : ∀ W, Below w.heap.size w W → Calls Try.prog 31 #[v2] W fun e w' => e = .returned (.tuple #[.string t2, .bool o2]) ∧ Below W.heap.size W w')
    (z1 : t1.size ≤ 10000000000) (z2 : t2.size ≤ 10000000000)
    (hF0 : o1 = false ∨ o2 = false ∨ why < 0 ∨ 255 < why ∨ pl < 0 ∨ 255 < pl → F = (⟨#[]⟩, 14))
    (hF1 : o1 = true → o2 = true → 0 ≤ why → why ≤ 255 → 0 ≤ pl → pl ≤ 255 → F = (R, 0))
    (hy8 : IntKind.u8.wrap why = (y.toNat : Int)) (hp8 : IntKind.u8.wrap pl = (p.toNat : Int)) (hR : R = str [y] ++ str (putL n 8) ++ str [p, bOf al] ++ t1 ++ t2) :
    Calls Try.prog 15 #[.agg #[.int .i64 why, .int .u64 (n : Int), .int .i64 pl, .bool al, v1, v2]] w fun e w' => e = .returned (.tuple #[.string F.1, .int .i64 F.2]) ∧ Below w.heap.size w w' := by
  have hA := Blk.new w [.int .i64 why, .int .u64 (n : Int), .int .i64 pl, .bool al, v1, v2] 44
  have hb := below_alloc w (.cells #[.int .i64 why, .int .u64 (n : Int), .int .i64 pl, .bool al, v1, v2] 44)
  have HF0 := hide hF0
  have HF1 := hide hF1
  clear hF0 hF1
  have hP := fun W => refput64_w n W hn
  have s0 : (str [y]).size = 1 := rfl
  have s1 : (str (putL n 8)).size = 8 := by rw [str_size, putL_length]
  have s2 : (str [p, bOf al]).size = 2 := rfl
  obtain ⟨T0, G0⟩ := named (str [y])
  obtain ⟨T1, G1⟩ := named (str (putL n 8))
  obtain ⟨T2, G2⟩ := named (str [p, bOf al])
  rw [← G0.out] at s0
  rw [← G1.out] at s1
  rw [← G2.out] at s2
  rw [← G0.out, ← G1.out, ← G2.out] at hR
  simp only [← G1.out] at hP
  obtain ⟨A1, E1⟩ := named (T0 ++ T1)
  obtain ⟨A2, E2⟩ := named (A1 ++ T2)
  obtain ⟨A3, E3⟩ := named (A2 ++ t1)
  obtain ⟨A4, E4⟩ := named (A3 ++ t2)
  have m1 : A1.size = T0.size + T1.size := by rw [E1.out, ByteArray.size_append]
  have m2 : A2.size = A1.size + T2.size := by rw [E2.out, ByteArray.size_append]
  have m3 : A3.size = A2.size + t1.size := by rw [E3.out, ByteArray.size_append]
  have ha1 : ∀ W : World, (Op.stringOp .add T0 T1).run Try.prog W = .ok (.string A1) W := fun W => by rw [E1.out]; exact run_string_add_sum W _ _ (by omega)
  have ha2 : ∀ W : World, (Op.stringOp .add A1 T2).run Try.prog W = .ok (.string A2) W := fun W => by rw [E2.out]; exact run_string_add_sum W _ _ (by omega)
  have ha3 : ∀ W : World, (Op.stringOp .add A2 t1).run Try.prog W = .ok (.string A3) W := fun W => by rw [E3.out]; exact run_string_add_sum W _ _ (by omega)
  have ha4 : ∀ W : World, (Op.stringOp .add A3 t2).run Try.prog W = .ok (.string A4) W := fun W => by rw [E4.out]; exact run_string_add_sum W _ _ (by omega)
  have HRR : Hid (R = A4) := hide (by rw [hR, E4.out, E3.out, E2.out, E1.out])
  clear E1 E2 E3 E4 m1 m2 m3 s0 s1 s2 z1 z2 hR G1
  go_enter Try.func15, Try.ntmps15
  go_upto_region 1 with fail
  obtain ⟨w1, hw1⟩ := named (w.alloc (.cells #[.int .i64 why, .int .u64 (n : Int), .int .i64 pl, .bool al, v1, v2] 44))
  rw [← hw1.out] at hA hb ⊢
  clear hw1
  have xA := hA.cell
  go_wp2_with fail
  refine (h1 _ hb).mono ?_
  rintro e w2 ⟨rfl, hb2⟩
  replace hA := hA.below hb2
  replace hb := bt hb hb2
  clear h1 hb2 xA
  have xA := hA.cell
  go_wp2_with fail
  refine (h2 _ hb).mono ?_
  rintro e w3 ⟨rfl, hb3⟩
  replace hA := hA.below hb3
  replace hb := bt hb hb3
  clear h2 hb3 xA
  have xA := hA.cell
  cases o1 with
  | false =>
    have hF := HF0.out (.inl rfl)
    clear HF1 hP ha1 ha2 ha3 ha4
    go_wp2
    go_ret2
    exact ⟨by rw [hF]; first | done | rfl, hb⟩
  | true =>
  cases o2 with
  | false =>
    have hF := HF0.out (.inr (.inl rfl))
    clear HF1 hP ha1 ha2 ha3 ha4
    go_wp2
    go_ret2
    exact ⟨by rw [hF]; first | done | rfl, hb⟩
  | true =>
  by_cases c1 : why < 0
  · have hF := HF0.out (.inr (.inr (.inl c1)))
    clear HF1 hP ha1 ha2 ha3 ha4
    go_wp2
    go_ret2
    exact ⟨by rw [hF]; first | done | rfl, hb⟩
  by_cases c2 : 255 < why
  · have hF := HF0.out (.inr (.inr (.inr (.inl c2))))
    clear HF1 hP ha1 ha2 ha3 ha4
    go_wp2
    go_ret2
    exact ⟨by rw [hF]; first | done | rfl, hb⟩
  by_cases c3 : pl < 0
  · have hF := HF0.out (.inr (.inr (.inr (.inr (.inl c3)))))
    clear HF1 hP ha1 ha2 ha3 ha4
    go_wp2
    go_ret2
    exact ⟨by rw [hF]; first | done | rfl, hb⟩
  by_cases c4 : 255 < pl
  · have hF := HF0.out (.inr (.inr (.inr (.inr (.inr c4)))))
    clear HF1 hP ha1 ha2 ha3 ha4
    go_wp2
    go_ret2
    exact ⟨by rw [hF]; first | done | rfl, hb⟩
  have HRES : Hid (F = (A4, 0)) := hide (by rw [HF1.out rfl rfl (by omega) (by omega) (by omega) (by omega), HRR.out])
  clear HF0 HF1 HRR
  cases al with
  | true =>
    go_upto_region 8 with fail
    clear c1 c2 c3 c4 xA
    go_wp2_with fail
    refine region_flatS _ (fun L u => Blk u w.heap.size [.int .i64 why, .int .u64 (n : Int), .int .i64 pl, .bool true, v1, v2] 44 ∧ Below w.heap.size w u) (fun _ u u' => Below u.heap.size u u')
      (fun _ => rel [fun v _ => v = .pointer (some ⟨w.heap.size, 0, none⟩),
        fun v _ => v = .int .i64 why,
        fun v _ => v = .int .u8 (y.toNat : Int),
        fun v u => ∃ g, v = Value.slice (some ⟨g, 0, none⟩) 1 1 ∧ Blk u g [.int .u8 (y.toNat : Int)] 5,
        fun v _ => v = .string T0,
        fun v _ => v = .pointer (some ⟨w.heap.size, 1, none⟩),
        fun v _ => v = .int .u64 (n : Int),
        fun v _ => v = .string T1,
        fun v _ => v = .string A1,
        fun v _ => v = .pointer (some ⟨w.heap.size, 2, none⟩),
        fun v _ => v = .int .i64 pl,
        fun v _ => v = .int .u8 (p.toNat : Int),
        fun v _ => v = .int .u8 ((bOf true).toNat : Int),
        fun v u => ∃ g, v = Value.slice (some ⟨g, 0, none⟩) 2 2 ∧ Blk u g [.int .u8 (p.toNat : Int), .int .u8 ((bOf true).toNat : Int)] 5,
        fun v _ => v = .string T2,
        fun v _ => v = .string A2,
        fun v _ => v = .string t1,
        fun v _ => v = .string A3,
        fun v _ => v = .string t2,
        fun v _ => v = .string A4,
        fun v _ => v = .string A4,
        fun v _ => v = .int .i64 0])
      (by kernel_rfl) (by kernel_rfl) (fun v => by simp only [putsV, Act.put, List.toList_toArray, List.setIfInBounds_toArray, List.set_cons_zero, List.set_cons_succ, Nat.reduceAdd, Nat.zero_add]; rfl) ?_ (fun _ _ _ _ _ h => h) ⟨hA, hb.drew⟩ ?_ (fun _ _ _ _ _ _ h => h) (fun L L' u hL h => by  exact h) ?_
    · intro i L j x u u' _ _ hG h
      match j with
      | 0 => exact h
      | 1 => exact h
      | 2 => exact h
      | 3 => (obtain ⟨g, e, hb9⟩ := h; exact ⟨g, e, hb9.below hG⟩)
      | 4 => exact h
      | 5 => exact h
      | 6 => exact h
      | 7 => exact h
      | 8 => exact h
      | 9 => exact h
      | 10 => exact h
      | 11 => exact h
      | 12 => exact h
      | 13 => (obtain ⟨g, e, hb9⟩ := h; exact ⟨g, e, hb9.below hG⟩)
      | 14 => exact h
      | 15 => exact h
      | 16 => exact h
      | 17 => exact h
      | 18 => exact h
      | 19 => exact h
      | 20 => exact h
      | 21 => exact h
      | _ + 22 => trivial
    · refine ⟨?_, ?_, ?_, ?_, ?_, ?_, ?_, ?_, ?_, ?_, ?_, ?_, ?_, ?_, ?_, ?_, ?_, ?_, ?_, ?_, ?_, ?_, trivial⟩
      · intro L hL hcl v u hS hd K' hK
        simp only [waited, List.toList_toArray, Region.binds, rel, List.getD_cons_zero, List.getD_cons_succ, true_imp_iff, and_true] at hd
        simp only [rel, List.getD_cons_zero, List.getD_cons_succ, Act.put, List.setIfInBounds_toArray, List.set_cons_zero, List.set_cons_succ] at hK
        try simp only [hd] at hK
        go_simp
        exact hK.out _ _ ⟨hS, Below.refl _ _, rfl⟩
      · intro L hL hcl v u hS hd K' hK
        simp only [waited, List.toList_toArray, Region.binds, rel, List.getD_cons_zero, List.getD_cons_succ, true_imp_iff, and_true] at hd
        simp only [rel, List.getD_cons_zero, List.getD_cons_succ, Act.put, List.setIfInBounds_toArray, List.set_cons_zero, List.set_cons_succ] at hK
        try simp only [hd] at hK
        have x0 := hS.1.cell
        go_simp
        exact hK.out _ _ ⟨hS, Below.refl _ _, rfl⟩
      · intro L hL hcl v u hS hd K' hK
        simp only [waited, List.toList_toArray, Region.binds, rel, List.getD_cons_zero, List.getD_cons_succ, true_imp_iff, and_true] at hd
        simp only [rel, List.getD_cons_zero, List.getD_cons_succ, Act.put, List.setIfInBounds_toArray, List.set_cons_zero, List.set_cons_succ] at hK
        try simp only [hd] at hK
        go_simp
        exact hK.out _ _ ⟨hS, Below.refl _ _, rfl⟩
      · intro L hL hcl v u hS hd K' hK
        simp only [waited, List.toList_toArray, Region.binds, rel, List.getD_cons_zero, List.getD_cons_succ, true_imp_iff, and_true] at hd
        simp only [rel, List.getD_cons_zero, List.getD_cons_succ, Act.put, List.setIfInBounds_toArray, List.set_cons_zero, List.set_cons_succ] at hK
        try simp only [hd] at hK
        go_simp
        exact hK.out _ _ ⟨⟨hS.1.alloc _, bt hS.2 (below_alloc _ _)⟩, below_alloc _ _, ⟨_, rfl, Blk.new u _ _⟩⟩
      · intro L hL hcl v u hS hd K' hK
        simp only [waited, List.toList_toArray, Region.binds, rel, List.getD_cons_zero, List.getD_cons_succ, true_imp_iff, and_true] at hd
        simp only [rel, List.getD_cons_zero, List.getD_cons_succ, Act.put, List.setIfInBounds_toArray, List.set_cons_zero, List.set_cons_succ] at hK
        try simp only [hd] at hK
        obtain ⟨g, e0, hbg⟩ := hd
        have hcv := blk_string' hbg
        simp only [e0] at hK ⊢
        go_simp
        exact hK.out _ _ ⟨hS, Below.refl _ _, by rw [G0.out]⟩
      · intro L hL hcl v u hS hd K' hK
        simp only [waited, List.toList_toArray, Region.binds, rel, List.getD_cons_zero, List.getD_cons_succ, true_imp_iff, and_true] at hd
        simp only [rel, List.getD_cons_zero, List.getD_cons_succ, Act.put, List.setIfInBounds_toArray, List.set_cons_zero, List.set_cons_succ] at hK
        try simp only [hd] at hK
        go_simp
        exact hK.out _ _ ⟨hS, Below.refl _ _, rfl⟩
      · intro L hL hcl v u hS hd K' hK
        simp only [waited, List.toList_toArray, Region.binds, rel, List.getD_cons_zero, List.getD_cons_succ, true_imp_iff, and_true] at hd
        simp only [rel, List.getD_cons_zero, List.getD_cons_succ, Act.put, List.setIfInBounds_toArray, List.set_cons_zero, List.set_cons_succ] at hK
        try simp only [hd] at hK
        have x0 := hS.1.cell
        go_simp
        exact hK.out _ _ ⟨hS, Below.refl _ _, rfl⟩
      · intro L hL hcl v u hS hd K' hK
        simp only [waited, List.toList_toArray, Region.binds, rel, List.getD_cons_zero, List.getD_cons_succ, true_imp_iff, and_true] at hd
        simp only [rel, List.getD_cons_zero, List.getD_cons_succ, Act.put, List.setIfInBounds_toArray, List.set_cons_zero, List.set_cons_succ] at hK
        try simp only [hd] at hK
        go_simp
        refine (hP u).mono ?_
        rintro e w2 ⟨rfl, hb2⟩
        exact hK.out _ _ ⟨⟨hS.1.below hb2, bt hS.2 hb2⟩, hb2, rfl⟩
      · intro L hL hcl v u hS hd K' hK
        simp only [waited, List.toList_toArray, Region.binds, rel, List.getD_cons_zero, List.getD_cons_succ, true_imp_iff, and_true] at hd
        simp only [rel, List.getD_cons_zero, List.getD_cons_succ, Act.put, List.setIfInBounds_toArray, List.set_cons_zero, List.set_cons_succ] at hK
        try simp only [hd] at hK
        have hadd := ha1
        go_simp
        exact hK.out _ _ ⟨hS, Below.refl _ _, rfl⟩
      · intro L hL hcl v u hS hd K' hK
        simp only [waited, List.toList_toArray, Region.binds, rel, List.getD_cons_zero, List.getD_cons_succ, true_imp_iff, and_true] at hd
        simp only [rel, List.getD_cons_zero, List.getD_cons_succ, Act.put, List.setIfInBounds_toArray, List.set_cons_zero, List.set_cons_succ] at hK
        try simp only [hd] at hK
        go_simp
        exact hK.out _ _ ⟨hS, Below.refl _ _, rfl⟩
      · intro L hL hcl v u hS hd K' hK
        simp only [waited, List.toList_toArray, Region.binds, rel, List.getD_cons_zero, List.getD_cons_succ, true_imp_iff, and_true] at hd
        simp only [rel, List.getD_cons_zero, List.getD_cons_succ, Act.put, List.setIfInBounds_toArray, List.set_cons_zero, List.set_cons_succ] at hK
        try simp only [hd] at hK
        have x0 := hS.1.cell
        go_simp
        exact hK.out _ _ ⟨hS, Below.refl _ _, rfl⟩
      · intro L hL hcl v u hS hd K' hK
        simp only [waited, List.toList_toArray, Region.binds, rel, List.getD_cons_zero, List.getD_cons_succ, true_imp_iff, and_true] at hd
        simp only [rel, List.getD_cons_zero, List.getD_cons_succ, Act.put, List.setIfInBounds_toArray, List.set_cons_zero, List.set_cons_succ] at hK
        try simp only [hd] at hK
        go_simp
        exact hK.out _ _ ⟨hS, Below.refl _ _, rfl⟩
      · intro L hL hcl v u hS hd K' hK
        simp only [waited, List.toList_toArray, Region.binds, rel, List.getD_cons_zero, List.getD_cons_succ, true_imp_iff, and_true] at hd
        simp only [rel, List.getD_cons_zero, List.getD_cons_succ, Act.put, List.setIfInBounds_toArray, List.set_cons_zero, List.set_cons_succ] at hK
        try simp only [hd] at hK
        go_simp
        exact hK.out _ _ ⟨hS, Below.refl _ _, rfl⟩
      · intro L hL hcl v u hS hd K' hK
        simp only [waited, List.toList_toArray, Region.binds, rel, List.getD_cons_zero, List.getD_cons_succ, true_imp_iff, and_true] at hd
        simp only [rel, List.getD_cons_zero, List.getD_cons_succ, Act.put, List.setIfInBounds_toArray, List.set_cons_zero, List.set_cons_succ] at hK
        try simp only [hd] at hK
        go_simp
        exact hK.out _ _ ⟨⟨hS.1.alloc _, bt hS.2 (below_alloc _ _)⟩, below_alloc _ _, ⟨_, rfl, Blk.new u _ _⟩⟩
      · intro L hL hcl v u hS hd K' hK
        simp only [waited, List.toList_toArray, Region.binds, rel, List.getD_cons_zero, List.getD_cons_succ, true_imp_iff, and_true] at hd
        simp only [rel, List.getD_cons_zero, List.getD_cons_succ, Act.put, List.setIfInBounds_toArray, List.set_cons_zero, List.set_cons_succ] at hK
        try simp only [hd] at hK
        obtain ⟨g, e0, hbg⟩ := hd
        have hcv := blk_string2 hbg
        simp only [e0] at hK ⊢
        go_simp
        exact hK.out _ _ ⟨hS, Below.refl _ _, by rw [G2.out]⟩
      · intro L hL hcl v u hS hd K' hK
        simp only [waited, List.toList_toArray, Region.binds, rel, List.getD_cons_zero, List.getD_cons_succ, true_imp_iff, and_true] at hd
        simp only [rel, List.getD_cons_zero, List.getD_cons_succ, Act.put, List.setIfInBounds_toArray, List.set_cons_zero, List.set_cons_succ] at hK
        try simp only [hd] at hK
        have hadd := ha2
        go_simp
        exact hK.out _ _ ⟨hS, Below.refl _ _, rfl⟩
      · intro L hL hcl v u hS hd K' hK
        simp only [waited, List.toList_toArray, Region.binds, rel, List.getD_cons_zero, List.getD_cons_succ, true_imp_iff, and_true] at hd
        simp only [rel, List.getD_cons_zero, List.getD_cons_succ, Act.put, List.setIfInBounds_toArray, List.set_cons_zero, List.set_cons_succ] at hK
        try simp only [hd] at hK
        go_simp
        exact hK.out _ _ ⟨hS, Below.refl _ _, rfl⟩
      · intro L hL hcl v u hS hd K' hK
        simp only [waited, List.toList_toArray, Region.binds, rel, List.getD_cons_zero, List.getD_cons_succ, true_imp_iff, and_true] at hd
        simp only [rel, List.getD_cons_zero, List.getD_cons_succ, Act.put, List.setIfInBounds_toArray, List.set_cons_zero, List.set_cons_succ] at hK
        try simp only [hd] at hK
        have hadd := ha3
        go_simp
        exact hK.out _ _ ⟨hS, Below.refl _ _, rfl⟩
      · intro L hL hcl v u hS hd K' hK
        simp only [waited, List.toList_toArray, Region.binds, rel, List.getD_cons_zero, List.getD_cons_succ, true_imp_iff, and_true] at hd
        simp only [rel, List.getD_cons_zero, List.getD_cons_succ, Act.put, List.setIfInBounds_toArray, List.set_cons_zero, List.set_cons_succ] at hK
        try simp only [hd] at hK
        go_simp
        exact hK.out _ _ ⟨hS, Below.refl _ _, rfl⟩
      · intro L hL hcl v u hS hd K' hK
        simp only [waited, List.toList_toArray, Region.binds, rel, List.getD_cons_zero, List.getD_cons_succ, true_imp_iff, and_true] at hd
        simp only [rel, List.getD_cons_zero, List.getD_cons_succ, Act.put, List.setIfInBounds_toArray, List.set_cons_zero, List.set_cons_succ] at hK
        try simp only [hd] at hK
        have hadd := ha4
        go_simp
        exact hK.out _ _ ⟨hS, Below.refl _ _, rfl⟩
      · intro L hL hcl v u hS hd K' hK
        simp only [waited, List.toList_toArray, Region.binds, rel, List.getD_cons_zero, List.getD_cons_succ, true_imp_iff, and_true] at hd
        simp only [rel, List.getD_cons_zero, List.getD_cons_succ, Act.put, List.setIfInBounds_toArray, List.set_cons_zero, List.set_cons_succ] at hK
        try simp only [hd] at hK
        go_simp
        exact hK.out _ _ ⟨hS, Below.refl _ _, rfl⟩
      · intro L hL hcl v u hS hd K' hK
        simp only [waited, List.toList_toArray, Region.binds, rel, List.getD_cons_zero, List.getD_cons_succ, true_imp_iff, and_true] at hd
        simp only [rel, List.getD_cons_zero, List.getD_cons_succ, Act.put, List.setIfInBounds_toArray, List.set_cons_zero, List.set_cons_succ] at hK
        try simp only [hd] at hK
        go_simp
        exact hK.out _ _ ⟨hS, Below.refl _ _, rfl⟩
    · rintro v u hS hR
      simp only [holdAll, List.size_toArray, List.length_cons, List.length_nil, Nat.reduceAdd, rel, List.getD_cons_zero, List.getD_cons_succ] at hR
      obtain ⟨⟨-, h20⟩, h21⟩ := hR
      simp only [h20, h21]
      clear h20 h21
      have hb9 := hS.2
      clear hS
      go_wp2
      go_ret2
      exact ⟨by rw [HRES.out]; first | done | rfl, hb9⟩
  | false =>
    go_upto_region 8 with fail
    clear c1 c2 c3 c4 xA
    go_wp2_with fail
    refine region_flatS _ (fun L u => Blk u w.heap.size [.int .i64 why, .int .u64 (n : Int), .int .i64 pl, .bool false, v1, v2] 44 ∧ Below w.heap.size w u) (fun _ u u' => Below u.heap.size u u')
      (fun _ => rel [fun v _ => v = .pointer (some ⟨w.heap.size, 0, none⟩),
        fun v _ => v = .int .i64 why,
        fun v _ => v = .int .u8 (y.toNat : Int),
        fun v u => ∃ g, v = Value.slice (some ⟨g, 0, none⟩) 1 1 ∧ Blk u g [.int .u8 (y.toNat : Int)] 5,
        fun v _ => v = .string T0,
        fun v _ => v = .pointer (some ⟨w.heap.size, 1, none⟩),
        fun v _ => v = .int .u64 (n : Int),
        fun v _ => v = .string T1,
        fun v _ => v = .string A1,
        fun v _ => v = .pointer (some ⟨w.heap.size, 2, none⟩),
        fun v _ => v = .int .i64 pl,
        fun v _ => v = .int .u8 (p.toNat : Int),
        fun v _ => v = .int .u8 ((bOf false).toNat : Int),
        fun v u => ∃ g, v = Value.slice (some ⟨g, 0, none⟩) 2 2 ∧ Blk u g [.int .u8 (p.toNat : Int), .int .u8 ((bOf false).toNat : Int)] 5,
        fun v _ => v = .string T2,
        fun v _ => v = .string A2,
        fun v _ => v = .string t1,
        fun v _ => v = .string A3,
        fun v _ => v = .string t2,
        fun v _ => v = .string A4,
        fun v _ => v = .string A4,
        fun v _ => v = .int .i64 0])
      (by kernel_rfl) (by kernel_rfl) (fun v => by simp only [putsV, Act.put, List.toList_toArray, List.setIfInBounds_toArray, List.set_cons_zero, List.set_cons_succ, Nat.reduceAdd, Nat.zero_add]; rfl) ?_ (fun _ _ _ _ _ h => h) ⟨hA, hb.drew⟩ ?_ (fun _ _ _ _ _ _ h => h) (fun L L' u hL h => by  exact h) ?_
    · intro i L j x u u' _ _ hG h
      match j with
      | 0 => exact h
      | 1 => exact h
      | 2 => exact h
      | 3 => (obtain ⟨g, e, hb9⟩ := h; exact ⟨g, e, hb9.below hG⟩)
      | 4 => exact h
      | 5 => exact h
      | 6 => exact h
      | 7 => exact h
      | 8 => exact h
      | 9 => exact h
      | 10 => exact h
      | 11 => exact h
      | 12 => exact h
      | 13 => (obtain ⟨g, e, hb9⟩ := h; exact ⟨g, e, hb9.below hG⟩)
      | 14 => exact h
      | 15 => exact h
      | 16 => exact h
      | 17 => exact h
      | 18 => exact h
      | 19 => exact h
      | 20 => exact h
      | 21 => exact h
      | _ + 22 => trivial
    · refine ⟨?_, ?_, ?_, ?_, ?_, ?_, ?_, ?_, ?_, ?_, ?_, ?_, ?_, ?_, ?_, ?_, ?_, ?_, ?_, ?_, ?_, ?_, trivial⟩
      · intro L hL hcl v u hS hd K' hK
        simp only [waited, List.toList_toArray, Region.binds, rel, List.getD_cons_zero, List.getD_cons_succ, true_imp_iff, and_true] at hd
        simp only [rel, List.getD_cons_zero, List.getD_cons_succ, Act.put, List.setIfInBounds_toArray, List.set_cons_zero, List.set_cons_succ] at hK
        try simp only [hd] at hK
        go_simp
        exact hK.out _ _ ⟨hS, Below.refl _ _, rfl⟩
      · intro L hL hcl v u hS hd K' hK
        simp only [waited, List.toList_toArray, Region.binds, rel, List.getD_cons_zero, List.getD_cons_succ, true_imp_iff, and_true] at hd
        simp only [rel, List.getD_cons_zero, List.getD_cons_succ, Act.put, List.setIfInBounds_toArray, List.set_cons_zero, List.set_cons_succ] at hK
        try simp only [hd] at hK
        have x0 := hS.1.cell
        go_simp
        exact hK.out _ _ ⟨hS, Below.refl _ _, rfl⟩
      · intro L hL hcl v u hS hd K' hK
        simp only [waited, List.toList_toArray, Region.binds, rel, List.getD_cons_zero, List.getD_cons_succ, true_imp_iff, and_true] at hd
        simp only [rel, List.getD_cons_zero, List.getD_cons_succ, Act.put, List.setIfInBounds_toArray, List.set_cons_zero, List.set_cons_succ] at hK
        try simp only [hd] at hK
        go_simp
        exact hK.out _ _ ⟨hS, Below.refl _ _, rfl⟩
      · intro L hL hcl v u hS hd K' hK
        simp only [waited, List.toList_toArray, Region.binds, rel, List.getD_cons_zero, List.getD_cons_succ, true_imp_iff, and_true] at hd
        simp only [rel, List.getD_cons_zero, List.getD_cons_succ, Act.put, List.setIfInBounds_toArray, List.set_cons_zero, List.set_cons_succ] at hK
        try simp only [hd] at hK
        go_simp
        exact hK.out _ _ ⟨⟨hS.1.alloc _, bt hS.2 (below_alloc _ _)⟩, below_alloc _ _, ⟨_, rfl, Blk.new u _ _⟩⟩
      · intro L hL hcl v u hS hd K' hK
        simp only [waited, List.toList_toArray, Region.binds, rel, List.getD_cons_zero, List.getD_cons_succ, true_imp_iff, and_true] at hd
        simp only [rel, List.getD_cons_zero, List.getD_cons_succ, Act.put, List.setIfInBounds_toArray, List.set_cons_zero, List.set_cons_succ] at hK
        try simp only [hd] at hK
        obtain ⟨g, e0, hbg⟩ := hd
        have hcv := blk_string' hbg
        simp only [e0] at hK ⊢
        go_simp
        exact hK.out _ _ ⟨hS, Below.refl _ _, by rw [G0.out]⟩
      · intro L hL hcl v u hS hd K' hK
        simp only [waited, List.toList_toArray, Region.binds, rel, List.getD_cons_zero, List.getD_cons_succ, true_imp_iff, and_true] at hd
        simp only [rel, List.getD_cons_zero, List.getD_cons_succ, Act.put, List.setIfInBounds_toArray, List.set_cons_zero, List.set_cons_succ] at hK
        try simp only [hd] at hK
        go_simp
        exact hK.out _ _ ⟨hS, Below.refl _ _, rfl⟩
      · intro L hL hcl v u hS hd K' hK
        simp only [waited, List.toList_toArray, Region.binds, rel, List.getD_cons_zero, List.getD_cons_succ, true_imp_iff, and_true] at hd
        simp only [rel, List.getD_cons_zero, List.getD_cons_succ, Act.put, List.setIfInBounds_toArray, List.set_cons_zero, List.set_cons_succ] at hK
        try simp only [hd] at hK
        have x0 := hS.1.cell
        go_simp
        exact hK.out _ _ ⟨hS, Below.refl _ _, rfl⟩
      · intro L hL hcl v u hS hd K' hK
        simp only [waited, List.toList_toArray, Region.binds, rel, List.getD_cons_zero, List.getD_cons_succ, true_imp_iff, and_true] at hd
        simp only [rel, List.getD_cons_zero, List.getD_cons_succ, Act.put, List.setIfInBounds_toArray, List.set_cons_zero, List.set_cons_succ] at hK
        try simp only [hd] at hK
        go_simp
        refine (hP u).mono ?_
        rintro e w2 ⟨rfl, hb2⟩
        exact hK.out _ _ ⟨⟨hS.1.below hb2, bt hS.2 hb2⟩, hb2, rfl⟩
      · intro L hL hcl v u hS hd K' hK
        simp only [waited, List.toList_toArray, Region.binds, rel, List.getD_cons_zero, List.getD_cons_succ, true_imp_iff, and_true] at hd
        simp only [rel, List.getD_cons_zero, List.getD_cons_succ, Act.put, List.setIfInBounds_toArray, List.set_cons_zero, List.set_cons_succ] at hK
        try simp only [hd] at hK
        have hadd := ha1
        go_simp
        exact hK.out _ _ ⟨hS, Below.refl _ _, rfl⟩
      · intro L hL hcl v u hS hd K' hK
        simp only [waited, List.toList_toArray, Region.binds, rel, List.getD_cons_zero, List.getD_cons_succ, true_imp_iff, and_true] at hd
        simp only [rel, List.getD_cons_zero, List.getD_cons_succ, Act.put, List.setIfInBounds_toArray, List.set_cons_zero, List.set_cons_succ] at hK
        try simp only [hd] at hK
        go_simp
        exact hK.out _ _ ⟨hS, Below.refl _ _, rfl⟩
      · intro L hL hcl v u hS hd K' hK
        simp only [waited, List.toList_toArray, Region.binds, rel, List.getD_cons_zero, List.getD_cons_succ, true_imp_iff, and_true] at hd
        simp only [rel, List.getD_cons_zero, List.getD_cons_succ, Act.put, List.setIfInBounds_toArray, List.set_cons_zero, List.set_cons_succ] at hK
        try simp only [hd] at hK
        have x0 := hS.1.cell
        go_simp
        exact hK.out _ _ ⟨hS, Below.refl _ _, rfl⟩
      · intro L hL hcl v u hS hd K' hK
        simp only [waited, List.toList_toArray, Region.binds, rel, List.getD_cons_zero, List.getD_cons_succ, true_imp_iff, and_true] at hd
        simp only [rel, List.getD_cons_zero, List.getD_cons_succ, Act.put, List.setIfInBounds_toArray, List.set_cons_zero, List.set_cons_succ] at hK
        try simp only [hd] at hK
        go_simp
        exact hK.out _ _ ⟨hS, Below.refl _ _, rfl⟩
      · intro L hL hcl v u hS hd K' hK
        simp only [waited, List.toList_toArray, Region.binds, rel, List.getD_cons_zero, List.getD_cons_succ, true_imp_iff, and_true] at hd
        simp only [rel, List.getD_cons_zero, List.getD_cons_succ, Act.put, List.setIfInBounds_toArray, List.set_cons_zero, List.set_cons_succ] at hK
        try simp only [hd] at hK
        go_simp
        exact hK.out _ _ ⟨hS, Below.refl _ _, rfl⟩
      · intro L hL hcl v u hS hd K' hK
        simp only [waited, List.toList_toArray, Region.binds, rel, List.getD_cons_zero, List.getD_cons_succ, true_imp_iff, and_true] at hd
        simp only [rel, List.getD_cons_zero, List.getD_cons_succ, Act.put, List.setIfInBounds_toArray, List.set_cons_zero, List.set_cons_succ] at hK
        try simp only [hd] at hK
        go_simp
        exact hK.out _ _ ⟨⟨hS.1.alloc _, bt hS.2 (below_alloc _ _)⟩, below_alloc _ _, ⟨_, rfl, Blk.new u _ _⟩⟩
      · intro L hL hcl v u hS hd K' hK
        simp only [waited, List.toList_toArray, Region.binds, rel, List.getD_cons_zero, List.getD_cons_succ, true_imp_iff, and_true] at hd
        simp only [rel, List.getD_cons_zero, List.getD_cons_succ, Act.put, List.setIfInBounds_toArray, List.set_cons_zero, List.set_cons_succ] at hK
        try simp only [hd] at hK
        obtain ⟨g, e0, hbg⟩ := hd
        have hcv := blk_string2 hbg
        simp only [e0] at hK ⊢
        go_simp
        exact hK.out _ _ ⟨hS, Below.refl _ _, by rw [G2.out]⟩
      · intro L hL hcl v u hS hd K' hK
        simp only [waited, List.toList_toArray, Region.binds, rel, List.getD_cons_zero, List.getD_cons_succ, true_imp_iff, and_true] at hd
        simp only [rel, List.getD_cons_zero, List.getD_cons_succ, Act.put, List.setIfInBounds_toArray, List.set_cons_zero, List.set_cons_succ] at hK
        try simp only [hd] at hK
        have hadd := ha2
        go_simp
        exact hK.out _ _ ⟨hS, Below.refl _ _, rfl⟩
      · intro L hL hcl v u hS hd K' hK
        simp only [waited, List.toList_toArray, Region.binds, rel, List.getD_cons_zero, List.getD_cons_succ, true_imp_iff, and_true] at hd
        simp only [rel, List.getD_cons_zero, List.getD_cons_succ, Act.put, List.setIfInBounds_toArray, List.set_cons_zero, List.set_cons_succ] at hK
        try simp only [hd] at hK
        go_simp
        exact hK.out _ _ ⟨hS, Below.refl _ _, rfl⟩
      · intro L hL hcl v u hS hd K' hK
        simp only [waited, List.toList_toArray, Region.binds, rel, List.getD_cons_zero, List.getD_cons_succ, true_imp_iff, and_true] at hd
        simp only [rel, List.getD_cons_zero, List.getD_cons_succ, Act.put, List.setIfInBounds_toArray, List.set_cons_zero, List.set_cons_succ] at hK
        try simp only [hd] at hK
        have hadd := ha3
        go_simp
        exact hK.out _ _ ⟨hS, Below.refl _ _, rfl⟩
      · intro L hL hcl v u hS hd K' hK
        simp only [waited, List.toList_toArray, Region.binds, rel, List.getD_cons_zero, List.getD_cons_succ, true_imp_iff, and_true] at hd
        simp only [rel, List.getD_cons_zero, List.getD_cons_succ, Act.put, List.setIfInBounds_toArray, List.set_cons_zero, List.set_cons_succ] at hK
        try simp only [hd] at hK
        go_simp
        exact hK.out _ _ ⟨hS, Below.refl _ _, rfl⟩
      · intro L hL hcl v u hS hd K' hK
        simp only [waited, List.toList_toArray, Region.binds, rel, List.getD_cons_zero, List.getD_cons_succ, true_imp_iff, and_true] at hd
        simp only [rel, List.getD_cons_zero, List.getD_cons_succ, Act.put, List.setIfInBounds_toArray, List.set_cons_zero, List.set_cons_succ] at hK
        try simp only [hd] at hK
        have hadd := ha4
        go_simp
        exact hK.out _ _ ⟨hS, Below.refl _ _, rfl⟩
      · intro L hL hcl v u hS hd K' hK
        simp only [waited, List.toList_toArray, Region.binds, rel, List.getD_cons_zero, List.getD_cons_succ, true_imp_iff, and_true] at hd
        simp only [rel, List.getD_cons_zero, List.getD_cons_succ, Act.put, List.setIfInBounds_toArray, List.set_cons_zero, List.set_cons_succ] at hK
        try simp only [hd] at hK
        go_simp
        exact hK.out _ _ ⟨hS, Below.refl _ _, rfl⟩
      · intro L hL hcl v u hS hd K' hK
        simp only [waited, List.toList_toArray, Region.binds, rel, List.getD_cons_zero, List.getD_cons_succ, true_imp_iff, and_true] at hd
        simp only [rel, List.getD_cons_zero, List.getD_cons_succ, Act.put, List.setIfInBounds_toArray, List.set_cons_zero, List.set_cons_succ] at hK
        try simp only [hd] at hK
        go_simp
        exact hK.out _ _ ⟨hS, Below.refl _ _, rfl⟩
    · rintro v u hS hR
      simp only [holdAll, List.size_toArray, List.length_cons, List.length_nil, Nat.reduceAdd, rel, List.getD_cons_zero, List.getD_cons_succ] at hR
      obtain ⟨⟨-, h20⟩, h21⟩ := hR
      simp only [h20, h21]
      clear h20 h21
      have hb9 := hS.2
      clear hS
      go_wp2
      go_ret2
      exact ⟨by rw [HRES.out]; first | done | rfl, hb9⟩
theorem w8_eq {z : Int} : ((w8 z).toNat : Int) = z ↔ 0 ≤ z ∧ z ≤ 255 := by
  have h := w8_wrap z
  have h2 : IntKind.u8.wrap z = z % 256 := by simp [IntKind.wrap, IntKind.bits, IntKind.signed]
  omega
theorem refWriteReply_w (r : Rep) (adi ade : Option Addr) (capi cape : Nat) (w : World) (hn : r.n < 18446744073709551616) (hi : Texts w adi r.ids) (he : Texts w ade r.er) (hli : r.ids.length ≤ 140737488351232) (hle : r.er.length ≤ 140737488351232) :
    Calls Try.prog 15 #[.agg (repCells r (.slice adi r.ids.length capi) (.slice ade r.er.length cape)).toArray] w fun e w' => e = .returned (.tuple #[.string (str (writeRp r).1), .int .i64 (writeRp r).2]) ∧ Below w.heap.size w w' := by
  obtain ⟨why, n, pl, al, ids, er⟩ := r
  have hz : ∀ l : List ByteArray, (str (tvL l).1).size ≤ 10000000000 := fun l => by
    rw [str_size]
    unfold tvL
    cases hc : texB l with
    | true => simp
    | false =>
      obtain ⟨q1, q2, q3⟩ := texB_ok hc
      obtain ⟨e1, _⟩ := textsW_ok hc
      have h1 := txts_len l 2049 (fun t ht => by have := q3 t ht; omega)
      have h3 : l.length * (2049 + 4) ≤ 255 * (2049 + 4) := Nat.mul_le_mul_right _ q1
      simp only [Bool.false_eq_true, if_false]
      rw [e1, List.length_cons]
      omega
  refine refWriteReply_x (y := w8 why) (p := w8 pl) (str (tvL ids).1) (str (tvL er).1) (str [w8 why] ++ str (putL n 8) ++ str [w8 pl, bOf al] ++ str (tvL ids).1 ++ str (tvL er).1) (str (writeRp ⟨why, n, pl, al, ids, er⟩).1, (writeRp ⟨why, n, pl, al, ids, er⟩).2) w hn
    (fun W hW => refTexts19_w ids adi capi W (hi.below hW) hli) (fun W hW => refTexts19_w er ade cape W (he.below hW) hle) (hz ids) (hz er) (fun h => ?_) (fun o1 o2 a b c d => ?_) (w8_wrap why) (w8_wrap pl) rfl
  · have hb : repBad ⟨why, n, pl, al, ids, er⟩ = true := by
      cases hc : repBad ⟨why, n, pl, al, ids, er⟩ with
      | true => rfl
      | false =>
        obtain ⟨e1, e2, e3⟩ := repBad_ok hc
        obtain ⟨d1, d2⟩ := whyB_ok e1
        have f1 := w8_eq.1 d1
        have f2 := w8_eq.1 d2
        simp only at e2 e3 f1 f2
        have g1 : (tvL ids).2 = true := by unfold tvL; rw [e2]; rfl
        have g2 : (tvL er).2 = true := by unfold tvL; rw [e3]; rfl
        simp only at h
        rcases h with h | h | h | h | h | h
        · rw [g1] at h; cases h
        · rw [g2] at h; cases h
        all_goals omega
    unfold writeRp
    rw [if_pos hb]
    rfl
  · have i1 : texB ids = false := by
      cases hc : texB ids with
      | true => unfold tvL at o1; rw [hc] at o1; cases o1
      | false => rfl
    have i2 : texB er = false := by
      cases hc : texB er with
      | true => unfold tvL at o2; rw [hc] at o2; cases o2
      | false => rfl
    have hb : repBad ⟨why, n, pl, al, ids, er⟩ = false := by
      unfold repBad whyB
      simp [w8_eq.2 ⟨a, b⟩, w8_eq.2 ⟨c, d⟩, i1, i2]
    unfold writeRp
    rw [if_neg (by rw [hb]; decide)]
    have t1 : (tvL ids).1 = textsW ids := by unfold tvL; rw [i1]; rfl
    have t2 : (tvL er).1 = textsW er := by unfold tvL; rw [i2]; rfl
    rw [t1, t2, str_append, str_append, str_append, str_append]
    simp [repW, headW]
end Go.Proofs.Ytiodfbbgbnbdpaa
