/- lictorref19.WriteAsk of a change. -/
import Derived.Test.YtiodfbbgbnbdpaaRefWA
import Derived.Test.YtiodfbbgbnbdpaaGD
namespace Go.Proofs.Ytiodfbbgbnbdpaa
set_option linter.unusedSimpArgs false
set_option linter.unusedVariables false
open Go.RowKit
open Crc
set_option maxRecDepth 100000 in
set_option maxHeartbeats 2000000 in
theorem refWA_2 (an : Nat) (ac : UInt8) (ai ax au aw : ByteArray) (av : Nat) (s1 s2 s3 s4 s5 s6 s7 : ByteArray) (F : List UInt8 × Int) (q : Bool) (w : World) (hn : an < 18446744073709551616) (p : List UInt8) (E : Int) (hp : ∀ W b, Blk W b [.int .u8 (ac.toNat : Int), .string ai, .string ax, .string au, .string aw] 28 → Calls Try.prog 22 #[.slice (some ⟨b, 0, none⟩) 1 1] W fun e w' => e = .returned (.tuple #[.string (str p), .int .i64 E]) ∧ Below W.heap.size W w') (hpl : p.length ≤ 10000)
    (hq : ∀ W : World, (binOp .neq 30 (.agg #[.int .u8 2, .int .u64 (an : Int), .int .u8 (ac.toNat : Int), .string ai, .string ax, .string au, .string aw, .int .u64 (av : Int), .string s1, .string s2, .string s3, .string s4, .string s5, .string s6, .string s7]) (.agg #[.int .u8 2, .int .u64 (an : Int), .int .u8 (ac.toNat : Int), .string ai, .string ax, .string au, .string aw, .int .u64 0, .string ⟨#[]⟩, .string ⟨#[]⟩, .string ⟨#[]⟩, .string ⟨#[]⟩, .string ⟨#[]⟩, .string ⟨#[]⟩, .string ⟨#[]⟩])).run Try.prog W = .ok (.bool q) W) (HF : Hid ((¬ E = 0 → F = ([], 14)) ∧ (E = 0 → q = true → F = ([], 14)) ∧ (E = 0 → q = false → F = (2 :: (putL an 8 ++ p), 0)))) :
    Calls Try.prog 10 #[.agg #[.int .u8 2, .int .u64 (an : Int), .int .u8 (ac.toNat : Int), .string ai, .string ax, .string au, .string aw, .int .u64 (av : Int), .string s1, .string s2, .string s3, .string s4, .string s5, .string s6, .string s7]] w fun e w' => e = .returned (.tuple #[.string (str F.1), .int .i64 F.2]) ∧ Below w.heap.size w w' := by
  have kA := ((Blk.new w [.int .u8 2, .int .u64 (an : Int), .int .u8 (ac.toNat : Int), .string ai, .string ax, .string au, .string aw, .int .u64 (av : Int), .string s1, .string s2, .string s3, .string s4, .string s5, .string s6, .string s7] 30).alloc (.cells #[.int .u8 2] 5)).alloc (.cells #[.int .u8 2, .int .u64 0, .int .u8 0, .string ⟨#[]⟩, .string ⟨#[]⟩, .string ⟨#[]⟩, .string ⟨#[]⟩, .int .u64 0, .string ⟨#[]⟩, .string ⟨#[]⟩, .string ⟨#[]⟩, .string ⟨#[]⟩, .string ⟨#[]⟩, .string ⟨#[]⟩, .string ⟨#[]⟩] 30)
  have hcv := blk_string' (k := 2) (Blk.new (w.alloc (.cells #[.int .u8 2, .int .u64 (an : Int), .int .u8 (ac.toNat : Int), .string ai, .string ax, .string au, .string aw, .int .u64 (av : Int), .string s1, .string s2, .string s3, .string s4, .string s5, .string s6, .string s7] 30)) [.int .u8 2] 5)
  rw [show (w.alloc (.cells #[.int .u8 2, .int .u64 (an : Int), .int .u8 (ac.toNat : Int), .string ai, .string ax, .string au, .string aw, .int .u64 (av : Int), .string s1, .string s2, .string s3, .string s4, .string s5, .string s6, .string s7] 30)).heap.size = w.heap.size + 1 by simp] at hcv
  have kB := Blk.new ((w.alloc (.cells #[.int .u8 2, .int .u64 (an : Int), .int .u8 (ac.toNat : Int), .string ai, .string ax, .string au, .string aw, .int .u64 (av : Int), .string s1, .string s2, .string s3, .string s4, .string s5, .string s6, .string s7] 30)).alloc (.cells #[.int .u8 2] 5)) [.int .u8 2, .int .u64 0, .int .u8 0, .string ⟨#[]⟩, .string ⟨#[]⟩, .string ⟨#[]⟩, .string ⟨#[]⟩, .int .u64 0, .string ⟨#[]⟩, .string ⟨#[]⟩, .string ⟨#[]⟩, .string ⟨#[]⟩, .string ⟨#[]⟩, .string ⟨#[]⟩, .string ⟨#[]⟩] 30
  rw [show ((w.alloc (.cells #[.int .u8 2, .int .u64 (an : Int), .int .u8 (ac.toNat : Int), .string ai, .string ax, .string au, .string aw, .int .u64 (av : Int), .string s1, .string s2, .string s3, .string s4, .string s5, .string s6, .string s7] 30)).alloc (.cells #[.int .u8 2] 5)).heap.size = w.heap.size + 1 + 1 by simp] at kB
  have hb := bt (bt (below_alloc w (.cells #[.int .u8 2, .int .u64 (an : Int), .int .u8 (ac.toNat : Int), .string ai, .string ax, .string au, .string aw, .int .u64 (av : Int), .string s1, .string s2, .string s3, .string s4, .string s5, .string s6, .string s7] 30)) (below_alloc _ (.cells #[.int .u8 2] 5))) (below_alloc _ (.cells #[.int .u8 2, .int .u64 0, .int .u8 0, .string ⟨#[]⟩, .string ⟨#[]⟩, .string ⟨#[]⟩, .string ⟨#[]⟩, .int .u64 0, .string ⟨#[]⟩, .string ⟨#[]⟩, .string ⟨#[]⟩, .string ⟨#[]⟩, .string ⟨#[]⟩, .string ⟨#[]⟩, .string ⟨#[]⟩] 30))
  have xA := kA.cell
  go_enter Try.func10, Try.ntmps10
  go_upto_region 3 with fail
  obtain ⟨w1, hw1⟩ := named (((w.alloc (.cells #[.int .u8 2, .int .u64 (an : Int), .int .u8 (ac.toNat : Int), .string ai, .string ax, .string au, .string aw, .int .u64 (av : Int), .string s1, .string s2, .string s3, .string s4, .string s5, .string s6, .string s7] 30)).alloc (.cells #[.int .u8 2] 5)).alloc (.cells #[.int .u8 2, .int .u64 0, .int .u8 0, .string ⟨#[]⟩, .string ⟨#[]⟩, .string ⟨#[]⟩, .string ⟨#[]⟩, .int .u64 0, .string ⟨#[]⟩, .string ⟨#[]⟩, .string ⟨#[]⟩, .string ⟨#[]⟩, .string ⟨#[]⟩, .string ⟨#[]⟩, .string ⟨#[]⟩] 30))
  rw [← hw1.out] at kA kB hb ⊢
  clear hw1 xA hcv
  have hq64 := fun W => refput64_w an W hn
  obtain ⟨U0, hU0⟩ := named (str [(2 : UInt8)])
  obtain ⟨T1, hT1⟩ := named (str (putL an 8))
  obtain ⟨T2, hT2⟩ := named (str p)
  obtain ⟨R1, hR1⟩ := named (T1 ++ T2)
  obtain ⟨R2, hR2⟩ := named (U0 ++ R1)
  have hres : R2 = str (2 :: (putL an 8 ++ p)) := by rw [hR2.out, hR1.out, hU0.out, hT1.out, hT2.out, str_append, str_append]; rfl
  have hz1 : T1.size = 8 := by rw [hT1.out, str_size, putL_length]
  have hz2 : T2.size ≤ 10000 := by rw [hT2.out, str_size]; exact hpl
  have hz0 : U0.size = 1 := by rw [hU0.out]; rfl
  have hzr : R1.size = T1.size + T2.size := by rw [hR1.out, ByteArray.size_append]
  have hadd1 : ∀ W : World, (Op.stringOp .add T1 T2).run Try.prog W = .ok (.string R1) W := fun W => by rw [hR1.out]; exact run_string_add_sum W _ _ (by omega)
  have hadd2 : ∀ W : World, (Op.stringOp .add U0 R1).run Try.prog W = .ok (.string R2) W := fun W => by rw [hR2.out]; exact run_string_add_sum W _ _ (by omega)
  simp only [← hT1.out] at hq64
  simp only [← hT2.out] at hp
  have HRES := hide hres
  rw [← hU0.out]
  clear hU0 hT1 hT2 hR1 hR2 hres hz0 hz1 hz2 hzr hpl
  have xA := kA.cell
  have kC := Blk.new w1 [.int .u8 (ac.toNat : Int), .string ai, .string ax, .string au, .string aw] 28
  have kA2 := kA.alloc (.cells #[.int .u8 (ac.toNat : Int), .string ai, .string ax, .string au, .string aw] 28)
  have kB2 := kB.alloc (.cells #[.int .u8 (ac.toNat : Int), .string ai, .string ax, .string au, .string aw] 28)
  have hb2 := bt hb (below_alloc w1 (.cells #[.int .u8 (ac.toNat : Int), .string ai, .string ax, .string au, .string aw] 28))
  have hpc := hp _ _ kC
  clear hp kA kB hb
  go_wp2_with fail
  clear xA
  refine hpc.mono ?_
  rintro e w2 ⟨rfl, hb3⟩
  replace kA2 := kA2.below hb3
  replace kB2 := kB2.below hb3
  replace hb2 := bt hb2 hb3
  clear hpc hb3 kC
  by_cases hE : E = 0
  case neg =>
    have t1 : (E != 0) = true := by simp [hE]
    have t2 : (E == 0) = false := by simp [hE]
    have HE := hide hE
    clear hE kA2 kB2 hq hq64 hadd1 hadd2
    go_wp2
    go_ret2
    exact ⟨by rw [HF.out.1 HE.out]; rfl, hb2⟩
  subst hE
  go_wp2_with fail
  refine region_flatS _ (fun L u => Blk u w.heap.size [.int .u8 2, .int .u64 (an : Int), .int .u8 (ac.toNat : Int), .string ai, .string ax, .string au, .string aw, .int .u64 (av : Int), .string s1, .string s2, .string s3, .string s4, .string s5, .string s6, .string s7] 30 ∧ Blk u (w.heap.size + 1 + 1) [.int .u8 2, cond (L 5) (.int .u64 (an : Int)) (.int .u64 0), cond (L 7) (.int .u8 (ac.toNat : Int)) (.int .u8 0), cond (L 7) (.string ai) (.string ⟨#[]⟩), cond (L 7) (.string ax) (.string ⟨#[]⟩), cond (L 7) (.string au) (.string ⟨#[]⟩), cond (L 7) (.string aw) (.string ⟨#[]⟩), .int .u64 0, .string ⟨#[]⟩, .string ⟨#[]⟩, .string ⟨#[]⟩, .string ⟨#[]⟩, .string ⟨#[]⟩, .string ⟨#[]⟩, .string ⟨#[]⟩] 30 ∧ Below w.heap.size w u) (fun _ _ _ => True)
    (fun _ => rel [fun v _ => v = .pointer (some ⟨w.heap.size, 1, none⟩),
      fun v _ => v = .int .u64 (an : Int),
      fun v _ => v = .pointer (some ⟨w.heap.size, 2, none⟩),
      fun v _ => v = .agg #[.int .u8 (ac.toNat : Int), .string ai, .string ax, .string au, .string aw],
      fun v _ => v = .pointer (some ⟨w.heap.size + 1 + 1, 1, none⟩),
      fun _ _ => True,
      fun v _ => v = .pointer (some ⟨w.heap.size + 1 + 1, 2, none⟩),
      fun _ _ => True])
    (by kernel_rfl) (by kernel_rfl) (fun v => by simp only [putsV, Act.put, List.toList_toArray, List.setIfInBounds_toArray, List.set_cons_zero, List.set_cons_succ, Nat.reduceAdd, Nat.zero_add]; rfl) ?_ (fun _ _ _ _ _ h => h) ⟨kA2, kB2, hb2.drew⟩ ?_ (fun _ _ _ _ _ _ h => h) (fun L L' u hL h => by rw [← hL 5 (by decide)]; rw [← hL 7 (by decide)]; exact h) ?_
  · intro i L j x u u' _ _ hG h
    match j with
    | 0 => exact h
    | 1 => exact h
    | 2 => exact h
    | 3 => exact h
    | 4 => exact h
    | 5 => exact h
    | 6 => exact h
    | 7 => exact h
    | _ + 8 => trivial
  · refine ⟨?_, ?_, ?_, ?_, ?_, ?_, ?_, ?_, trivial⟩
    · intro L hL hcl v u hS hd K' hK
      simp only [waited, List.toList_toArray, Region.binds, rel, List.getD_cons_zero, List.getD_cons_succ, true_imp_iff, and_true] at hd
      simp only [rel, List.getD_cons_zero, List.getD_cons_succ, Act.put, List.setIfInBounds_toArray, List.set_cons_zero, List.set_cons_succ] at hK
      try simp only [hd] at hK
      go_simp
      exact hK.out _ _ ⟨hS, trivial, rfl⟩
    · intro L hL hcl v u hS hd K' hK
      simp only [waited, List.toList_toArray, Region.binds, rel, List.getD_cons_zero, List.getD_cons_succ, true_imp_iff, and_true] at hd
      simp only [rel, List.getD_cons_zero, List.getD_cons_succ, Act.put, List.setIfInBounds_toArray, List.set_cons_zero, List.set_cons_succ] at hK
      try simp only [hd] at hK
      have x0 := hS.1.cell
      go_simp
      exact hK.out _ _ ⟨hS, trivial, rfl⟩
    · intro L hL hcl v u hS hd K' hK
      simp only [waited, List.toList_toArray, Region.binds, rel, List.getD_cons_zero, List.getD_cons_succ, true_imp_iff, and_true] at hd
      simp only [rel, List.getD_cons_zero, List.getD_cons_succ, Act.put, List.setIfInBounds_toArray, List.set_cons_zero, List.set_cons_succ] at hK
      try simp only [hd] at hK
      go_simp
      exact hK.out _ _ ⟨hS, trivial, rfl⟩
    · intro L hL hcl v u hS hd K' hK
      simp only [waited, List.toList_toArray, Region.binds, rel, List.getD_cons_zero, List.getD_cons_succ, true_imp_iff, and_true] at hd
      simp only [rel, List.getD_cons_zero, List.getD_cons_succ, Act.put, List.setIfInBounds_toArray, List.set_cons_zero, List.set_cons_succ] at hK
      try simp only [hd] at hK
      have x0 := hS.1.cell
      go_simp
      exact hK.out _ _ ⟨hS, trivial, rfl⟩
    · intro L hL hcl v u hS hd K' hK
      simp only [waited, List.toList_toArray, Region.binds, rel, List.getD_cons_zero, List.getD_cons_succ, true_imp_iff, and_true] at hd
      simp only [rel, List.getD_cons_zero, List.getD_cons_succ, Act.put, List.setIfInBounds_toArray, List.set_cons_zero, List.set_cons_succ] at hK
      try simp only [hd] at hK
      go_simp
      exact hK.out _ _ ⟨hS, trivial, rfl⟩
    · intro L hL hcl v u hS hd K' hK
      simp only [waited, List.toList_toArray, Region.binds, rel, List.getD_cons_zero, List.getD_cons_succ, true_imp_iff, and_true] at hd
      simp only [rel, List.getD_cons_zero, List.getD_cons_succ, Act.put, List.setIfInBounds_toArray, List.set_cons_zero, List.set_cons_succ] at hK
      try simp only [hd] at hK
      have h1 := hS.2.1
      have x1 := h1.cell 1
      have f1 := h1.free 1
      first | (obtain ⟨e0', _⟩ := hd) | (have e0' := hd)
      try simp only [e0'] at hK ⊢
      go_simp
      exact hK.out undef _ ⟨⟨(hS.1.far (p := ⟨w.heap.size + 1 + 1, 1, none⟩) (by show w.heap.size ≠ w.heap.size + 1 + 1; omega) (.int .u64 (an : Int))), (hS.2.1.set 1 (.int .u64 (an : Int))), (hS.2.2.setCell (p := ⟨w.heap.size + 1 + 1, 1, none⟩) (by show w.heap.size ≤ w.heap.size + 1 + 1; omega) (.int .u64 (an : Int)))⟩, trivial, trivial⟩
    · intro L hL hcl v u hS hd K' hK
      simp only [waited, List.toList_toArray, Region.binds, rel, List.getD_cons_zero, List.getD_cons_succ, true_imp_iff, and_true] at hd
      simp only [rel, List.getD_cons_zero, List.getD_cons_succ, Act.put, List.setIfInBounds_toArray, List.set_cons_zero, List.set_cons_succ] at hK
      try simp only [hd] at hK
      go_simp
      exact hK.out _ _ ⟨hS, trivial, rfl⟩
    · intro L hL hcl v u hS hd K' hK
      simp only [waited, List.toList_toArray, Region.binds, rel, List.getD_cons_zero, List.getD_cons_succ, true_imp_iff, and_true] at hd
      simp only [rel, List.getD_cons_zero, List.getD_cons_succ, Act.put, List.setIfInBounds_toArray, List.set_cons_zero, List.set_cons_succ] at hK
      try simp only [hd] at hK
      have h1 := hS.2.1
      have x2 := h1.cell 2
      have x3 := h1.cell 3
      have x4 := h1.cell 4
      have x5 := h1.cell 5
      have x6 := h1.cell 6
      have f2 := h1.free 2
      have f3 := h1.free 3
      have f4 := h1.free 4
      have f5 := h1.free 5
      have f6 := h1.free 6
      first | (obtain ⟨e0', _⟩ := hd) | (have e0' := hd)
      try simp only [e0'] at hK ⊢
      go_simp
      exact hK.out undef _ ⟨⟨(((((hS.1.far (p := ⟨w.heap.size + 1 + 1, 2, none⟩) (by show w.heap.size ≠ w.heap.size + 1 + 1; omega) (.int .u8 (ac.toNat : Int))).far (p := ⟨w.heap.size + 1 + 1, 3, none⟩) (by show w.heap.size ≠ w.heap.size + 1 + 1; omega) (.string ai)).far (p := ⟨w.heap.size + 1 + 1, 4, none⟩) (by show w.heap.size ≠ w.heap.size + 1 + 1; omega) (.string ax)).far (p := ⟨w.heap.size + 1 + 1, 5, none⟩) (by show w.heap.size ≠ w.heap.size + 1 + 1; omega) (.string au)).far (p := ⟨w.heap.size + 1 + 1, 6, none⟩) (by show w.heap.size ≠ w.heap.size + 1 + 1; omega) (.string aw)), (((((hS.2.1.set 2 (.int .u8 (ac.toNat : Int))).set 3 (.string ai)).set 4 (.string ax)).set 5 (.string au)).set 6 (.string aw)), (((((hS.2.2.setCell (p := ⟨w.heap.size + 1 + 1, 2, none⟩) (by show w.heap.size ≤ w.heap.size + 1 + 1; omega) (.int .u8 (ac.toNat : Int))).setCell (p := ⟨w.heap.size + 1 + 1, 3, none⟩) (by show w.heap.size ≤ w.heap.size + 1 + 1; omega) (.string ai)).setCell (p := ⟨w.heap.size + 1 + 1, 4, none⟩) (by show w.heap.size ≤ w.heap.size + 1 + 1; omega) (.string ax)).setCell (p := ⟨w.heap.size + 1 + 1, 5, none⟩) (by show w.heap.size ≤ w.heap.size + 1 + 1; omega) (.string au)).setCell (p := ⟨w.heap.size + 1 + 1, 6, none⟩) (by show w.heap.size ≤ w.heap.size + 1 + 1; omega) (.string aw))⟩, trivial, trivial⟩
  · rintro v u hS hR
    simp only [holdAll, List.size_toArray, List.length_cons, List.length_nil, Nat.reduceAdd, rel, List.getD_cons_zero, List.getD_cons_succ] at hR
    have kA3 := hS.1
    have kB3 : Blk u (w.heap.size + 1 + 1) [.int .u8 2, .int .u64 (an : Int), .int .u8 (ac.toNat : Int), .string ai, .string ax, .string au, .string aw, .int .u64 0, .string ⟨#[]⟩, .string ⟨#[]⟩, .string ⟨#[]⟩, .string ⟨#[]⟩, .string ⟨#[]⟩, .string ⟨#[]⟩, .string ⟨#[]⟩] 30 := hS.2.1
    have hb4 := hS.2.2
    clear hS hR
    obtain ⟨w3, hw3⟩ := named u
    rw [← hw3.out] at kA3 kB3 hb4 ⊢
    clear hw3
    have xA := kA3.cell
    go_wp2_with fail
    clear xA
    refine (hq64 _).mono ?_
    rintro e w4 ⟨rfl, hb5⟩
    replace kA3 := kA3.below hb5
    replace kB3 := kB3.below hb5
    replace hb4 := bt hb4 hb5
    clear hb5 hq64
    have xA := kA3.cell
    have xB := kB3.cell
    cases q with
    | true =>
      go_wp2
      go_ret2
      exact ⟨by rw [HF.out.2.1 (by first | rfl | trivial | simp) (by simp)]; rfl, hb4⟩
    | false =>
      go_wp2
      go_ret2
      exact ⟨by rw [HF.out.2.2 (by first | rfl | trivial | simp) (by simp), HRES.out]; rfl, hb4⟩
end Go.Proofs.Ytiodfbbgbnbdpaa
