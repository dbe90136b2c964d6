/- The walk of WireFields. -/
import Derived.Test.YtiodfbbgbnbdpaaRow
import Derived.Test.YtiodfbbgbnbdpaaWLives
namespace Go.Proofs.Ytiodfbbgbnbdpaa
set_option linter.unusedSimpArgs false
set_option linter.unusedVariables false
open Go.RowKit
open Crc
theorem wanted_go {c p q : Prop} [Decidable c] (h : c) (hp : p) : if c then p else q := by rw [if_pos h]; exact hp
theorem kASK : (Try.prog.info? 30).map (·.size) = some 15 := by kernel_rfl
set_option maxRecDepth 100000 in
set_option maxHeartbeats 4000000 in
theorem fields_x (ak ac : UInt8) (an av m : Nat) (ai ax au aw s1 s2 s3 s4 s5 s6 s7 S0 S1 S2 S3 S4 : ByteArray) (E0 E1 E2 E3 : Int) (t2 t3 t4 t5 t6 : Bool) (w : World)
    (h0 : ∀ W, Calls Try.prog 9 #[.agg #[.int .u8 (ak.toNat : Int), .int .u64 (an : Int), .int .u8 (ac.toNat : Int), .string ai, .string ax, .string au, .string aw, .int .u64 (av : Int), .string s1, .string s2, .string s3, .string s4, .string s5, .string s6, .string s7]] W fun e w' => e = .returned (.tuple #[.string S0, .int .i64 E0]) ∧ Below W.heap.size W w')
    (h1 : ∀ W, Calls Try.prog 9 #[.agg #[.int .u8 (ak.toNat : Int), .int .u64 (m : Int), .int .u8 (ac.toNat : Int), .string ai, .string ax, .string au, .string aw, .int .u64 (av : Int), .string s1, .string s2, .string s3, .string s4, .string s5, .string s6, .string s7]] W fun e w' => e = .returned (.tuple #[.string S1, .int .i64 E1]) ∧ Below W.heap.size W w')
    (h2 : ∀ W, Calls Try.prog 9 #[.agg #[.int .u8 (ak.toNat : Int), .int .u64 (an : Int), .int .u8 (ac.toNat : Int), .string ai, .string ax, .string au, .string aw, .int .u64 (m : Int), .string s1, .string s2, .string s3, .string s4, .string s5, .string s6, .string s7]] W fun e w' => e = .returned (.tuple #[.string S2, .int .i64 E2]) ∧ Below W.heap.size W w')
    (h3 : ∀ W, Calls Try.prog 9 #[.agg #[.int .u8 (ak.toNat : Int), .int .u64 (an : Int), .int .u8 (ac.toNat : Int), .string ai, .string ax, .string au, .string aw, .int .u64 (av : Int), .string s1, .string s2, .string s3, .string s4, .string s5, .string s6, .string ⟨#[123, 125]⟩]] W fun e w' => e = .returned (.tuple #[.string S3, .int .i64 E3]) ∧ Below W.heap.size W w')
    (h4 : ∀ W, Calls Try.prog 10 #[.agg #[.int .u8 (ak.toNat : Int), .int .u64 (m : Int), .int .u8 (ac.toNat : Int), .string ai, .string ax, .string au, .string aw, .int .u64 (av : Int), .string s1, .string s2, .string s3, .string s4, .string s5, .string s6, .string s7]] W fun e w' => e = .returned (.tuple #[.string S4, .int .i64 E1]) ∧ Below W.heap.size W w')
    (d2 : ((ak.toNat : Int) == 2) = t2) (d3 : ((ak.toNat : Int) == 3) = t3) (d4 : ((ak.toNat : Int) == 4) = t4) (d5 : ((ak.toNat : Int) == 5) = t5) (d6 : ((ak.toNat : Int) == 6) = t6)
    (HX : (t2 = false ∧ t3 = false ∧ t4 = false ∧ t5 = false ∧ t6 = false) ∨ (t2 = true ∧ t3 = false ∧ t4 = false ∧ t5 = false ∧ t6 = false) ∨ (t2 = false ∧ t3 = true ∧ t4 = false ∧ t5 = false ∧ t6 = false) ∨ (t2 = false ∧ t3 = false ∧ t4 = true ∧ t5 = false ∧ t6 = false) ∨ (t2 = false ∧ t3 = false ∧ t4 = false ∧ t5 = true ∧ t6 = false) ∨ (t2 = false ∧ t3 = false ∧ t4 = false ∧ t5 = false ∧ t6 = true))
    (HL : Hid (E0 = 0 → m ≠ 0 → ((E1 == 0) = (t2 || t3 || t4)) ∧ ((E2 == 0) = t6) ∧ ((E3 == 0) = (t5 || t6)))) :
    Calls Try.prog 5 #[.agg #[.int .u8 (ak.toNat : Int), .int .u64 (an : Int), .int .u8 (ac.toNat : Int), .string ai, .string ax, .string au, .string aw, .int .u64 (av : Int), .string s1, .string s2, .string s3, .string s4, .string s5, .string s6, .string s7], .int .u64 (m : Int)] w fun e w' => e = .returned (.bool true) ∧ Below w.heap.size w w' := by
  have hA := Blk.new w [.int .u8 (ak.toNat : Int), .int .u64 (an : Int), .int .u8 (ac.toNat : Int), .string ai, .string ax, .string au, .string aw, .int .u64 (av : Int), .string s1, .string s2, .string s3, .string s4, .string s5, .string s6, .string s7] 30
  have hb := below_alloc w (.cells #[.int .u8 (ak.toNat : Int), .int .u64 (an : Int), .int .u8 (ac.toNat : Int), .string ai, .string ax, .string au, .string aw, .int .u64 (av : Int), .string s1, .string s2, .string s3, .string s4, .string s5, .string s6, .string s7] 30)
  go_enter Try.func5, Try.ntmps5
  go_upto_region 1 with fail
  obtain ⟨w0, hw0⟩ := named (w.alloc (.cells #[.int .u8 (ak.toNat : Int), .int .u64 (an : Int), .int .u8 (ac.toNat : Int), .string ai, .string ax, .string au, .string aw, .int .u64 (av : Int), .string s1, .string s2, .string s3, .string s4, .string s5, .string s6, .string s7] 30))
  have hAw : w.heap.size < w0.heap.size := by rw [hw0.out]; simp
  rw [← hw0.out] at hA hb ⊢
  clear hw0
  go_wp2_with fail
  refine (lives19_w _).mono ?_
  rintro e w1 ⟨rfl, hb2⟩
  replace hA := hA.below hb2
  replace hb := bt hb hb2
  replace hAw := Nat.lt_of_lt_of_le hAw hb2.size
  clear hb2
  go_wp2_with (refine wpList_load_row rfl 30 _ rfl _ rfl 30 #[.int .u8 (ak.toNat : Int), .int .u64 (an : Int), .int .u8 (ac.toNat : Int), .string ai, .string ax, .string au, .string aw, .int .u64 (av : Int), .string s1, .string s2, .string s3, .string s4, .string s5, .string s6, .string s7] (0, 0) _ hA Try.underlying30 rfl kASK ?_)
  refine (h0 _).mono ?_
  rintro e w2 ⟨rfl, hb3⟩
  replace hA := hA.below hb3
  replace hb := bt hb hb3
  replace hAw := Nat.lt_of_lt_of_le hAw hb3.size
  clear hb3 h0
  generalize (Value.agg #[.int .u8 (ak.toNat : Int), .int .u64 (an : Int), .int .u8 (ac.toNat : Int), .string ai, .string ax, .string au, .string aw, .int .u64 (av : Int), .string s1, .string s2, .string s3, .string s4, .string s5, .string s6, .string s7] : Value) = V0
  by_cases c1 : E0 = 0
  case neg =>
    have t1 : (E0 != 0) = true := by simp [c1]
    have t2' : (E0 == 0) = false := by simp [c1]
    clear c1 HL hA h1 h2 h3 h4 d2 d3 d4 d5 d6 HX
    go_wp2
    go_ret
    exact ⟨by simp, hb⟩
  subst c1
  by_cases hm0 : m = 0
  case pos =>
    subst hm0
    clear HL hA h1 h2 h3 h4 d2 d3 d4 d5 d6 HX
    go_wp2
    go_ret
    exact ⟨by simp, hb⟩
  have u1 : ((m : Int) == 0) = false := by simp [hm0]
  have HM := hide hm0
  clear hm0
  have hB0 := B3.undef (c1 := [.int .u8 0, .int .u64 0, .int .u8 0, .string ⟨#[]⟩, .string ⟨#[]⟩, .string ⟨#[]⟩, .string ⟨#[]⟩, .int .u64 0, .string ⟨#[]⟩, .string ⟨#[]⟩, .string ⟨#[]⟩, .string ⟨#[]⟩, .string ⟨#[]⟩, .string ⟨#[]⟩, .string ⟨#[]⟩]) (c2 := [.int .u8 0, .int .u64 0, .int .u8 0, .string ⟨#[]⟩, .string ⟨#[]⟩, .string ⟨#[]⟩, .string ⟨#[]⟩, .int .u64 0, .string ⟨#[]⟩, .string ⟨#[]⟩, .string ⟨#[]⟩, .string ⟨#[]⟩, .string ⟨#[]⟩, .string ⟨#[]⟩, .string ⟨#[]⟩]) (c3 := [.int .u8 0, .int .u64 0, .int .u8 0, .string ⟨#[]⟩, .string ⟨#[]⟩, .string ⟨#[]⟩, .string ⟨#[]⟩, .int .u64 0, .string ⟨#[]⟩, .string ⟨#[]⟩, .string ⟨#[]⟩, .string ⟨#[]⟩, .string ⟨#[]⟩, .string ⟨#[]⟩, .string ⟨#[]⟩]) hA
  go_wp2_with fail
  clear u1
  refine region_flatV _ (fun L v u => B3 w2 w.heap.size 30 [.int .u8 (ak.toNat : Int), .int .u64 (an : Int), .int .u8 (ac.toNat : Int), .string ai, .string ax, .string au, .string aw, .int .u64 (av : Int), .string s1, .string s2, .string s3, .string s4, .string s5, .string s6, .string s7] (cond (L 6) [.int .u8 (ak.toNat : Int), .int .u64 (an : Int), .int .u8 (ac.toNat : Int), .string ai, .string ax, .string au, .string aw, .int .u64 (av : Int), .string s1, .string s2, .string s3, .string s4, .string s5, .string s6, .string s7] [.int .u8 0, .int .u64 0, .int .u8 0, .string ⟨#[]⟩, .string ⟨#[]⟩, .string ⟨#[]⟩, .string ⟨#[]⟩, .int .u64 0, .string ⟨#[]⟩, .string ⟨#[]⟩, .string ⟨#[]⟩, .string ⟨#[]⟩, .string ⟨#[]⟩, .string ⟨#[]⟩, .string ⟨#[]⟩]) (cond (L 7) [.int .u8 (ak.toNat : Int), .int .u64 (an : Int), .int .u8 (ac.toNat : Int), .string ai, .string ax, .string au, .string aw, .int .u64 (av : Int), .string s1, .string s2, .string s3, .string s4, .string s5, .string s6, .string s7] [.int .u8 0, .int .u64 0, .int .u8 0, .string ⟨#[]⟩, .string ⟨#[]⟩, .string ⟨#[]⟩, .string ⟨#[]⟩, .int .u64 0, .string ⟨#[]⟩, .string ⟨#[]⟩, .string ⟨#[]⟩, .string ⟨#[]⟩, .string ⟨#[]⟩, .string ⟨#[]⟩, .string ⟨#[]⟩]) (cond (L 8) [.int .u8 (ak.toNat : Int), .int .u64 (an : Int), .int .u8 (ac.toNat : Int), .string ai, .string ax, .string au, .string aw, .int .u64 (av : Int), .string s1, .string s2, .string s3, .string s4, .string s5, .string s6, .string s7] [.int .u8 0, .int .u64 0, .int .u8 0, .string ⟨#[]⟩, .string ⟨#[]⟩, .string ⟨#[]⟩, .string ⟨#[]⟩, .int .u64 0, .string ⟨#[]⟩, .string ⟨#[]⟩, .string ⟨#[]⟩, .string ⟨#[]⟩, .string ⟨#[]⟩, .string ⟨#[]⟩, .string ⟨#[]⟩]) (v 3) (v 4) (v 5) u) (fun _ _ _ => True)
    (fun _ => rel [fun v _ => v = .agg #[.int .u8 (ak.toNat : Int), .int .u64 (an : Int), .int .u8 (ac.toNat : Int), .string ai, .string ax, .string au, .string aw, .int .u64 (av : Int), .string s1, .string s2, .string s3, .string s4, .string s5, .string s6, .string s7],
      fun v _ => v = .agg #[.int .u8 (ak.toNat : Int), .int .u64 (an : Int), .int .u8 (ac.toNat : Int), .string ai, .string ax, .string au, .string aw, .int .u64 (av : Int), .string s1, .string s2, .string s3, .string s4, .string s5, .string s6, .string s7],
      fun v _ => v = .agg #[.int .u8 (ak.toNat : Int), .int .u64 (an : Int), .int .u8 (ac.toNat : Int), .string ai, .string ax, .string au, .string aw, .int .u64 (av : Int), .string s1, .string s2, .string s3, .string s4, .string s5, .string s6, .string s7],
      fun v _ => ∃ k, v = .pointer (some ⟨k, 0, none⟩),
      fun v _ => ∃ k, v = .pointer (some ⟨k, 0, none⟩),
      fun v _ => ∃ k, v = .pointer (some ⟨k, 0, none⟩),
      fun _ _ => True,
      fun _ _ => True,
      fun _ _ => True])
    (by kernel_rfl) (by kernel_rfl) (fun v => by simp only [putsV, Act.put, List.toList_toArray, List.setIfInBounds_toArray, List.set_cons_zero, List.set_cons_succ, Nat.reduceAdd, Nat.zero_add]; rfl) ?_ (fun _ _ _ _ _ h => h) hB0 ?_ (fun _ _ _ _ _ _ h => h) (fun L L' v u hL h => by rw [← hL 6 (by decide)]; rw [← hL 7 (by decide)]; rw [← hL 8 (by decide)]; exact h) ?_
  · intro i L j x u u' _ _ _ h
    match j with
    | 0 => exact h
    | 1 => exact h
    | 2 => exact h
    | 3 => exact h
    | 4 => exact h
    | 5 => exact h
    | 6 => exact h
    | 7 => exact h
    | 8 => exact h
    | _ + 9 => trivial
  · refine ⟨?_, ?_, ?_, ?_, ?_, ?_, ?_, ?_, ?_, trivial⟩
    · intro L hL hcl v u hS hd K' hK
      simp only [waited, List.toList_toArray, Region.binds, rel, List.getD_cons_zero, List.getD_cons_succ, true_imp_iff, and_true] at hd
      simp only [rel, List.getD_cons_zero, List.getD_cons_succ, Act.put, List.setIfInBounds_toArray, List.set_cons_zero, List.set_cons_succ] at hK
      try simp only [hd] at hK
      refine wanted_go rfl ?_
      refine wp_load_row 30 _ rfl w.heap.size rfl 30 #[.int .u8 (ak.toNat : Int), .int .u64 (an : Int), .int .u8 (ac.toNat : Int), .string ai, .string ax, .string au, .string aw, .int .u64 (av : Int), .string s1, .string s2, .string s3, .string s4, .string s5, .string s6, .string s7] (0, 0) _ hS.1 Try.underlying30 rfl kASK ?_
      exact hK.out _ _ ⟨hS, trivial, rfl⟩
    · intro L hL hcl v u hS hd K' hK
      simp only [waited, List.toList_toArray, Region.binds, rel, List.getD_cons_zero, List.getD_cons_succ, true_imp_iff, and_true] at hd
      simp only [rel, List.getD_cons_zero, List.getD_cons_succ, Act.put, List.setIfInBounds_toArray, List.set_cons_zero, List.set_cons_succ] at hK
      try simp only [hd] at hK
      refine wanted_go rfl ?_
      refine wp_load_row 30 _ rfl w.heap.size rfl 30 #[.int .u8 (ak.toNat : Int), .int .u64 (an : Int), .int .u8 (ac.toNat : Int), .string ai, .string ax, .string au, .string aw, .int .u64 (av : Int), .string s1, .string s2, .string s3, .string s4, .string s5, .string s6, .string s7] (0, 0) _ hS.1 Try.underlying30 rfl kASK ?_
      exact hK.out _ _ ⟨hS, trivial, rfl⟩
    · intro L hL hcl v u hS hd K' hK
      simp only [waited, List.toList_toArray, Region.binds, rel, List.getD_cons_zero, List.getD_cons_succ, true_imp_iff, and_true] at hd
      simp only [rel, List.getD_cons_zero, List.getD_cons_succ, Act.put, List.setIfInBounds_toArray, List.set_cons_zero, List.set_cons_succ] at hK
      try simp only [hd] at hK
      refine wanted_go rfl ?_
      refine wp_load_row 30 _ rfl w.heap.size rfl 30 #[.int .u8 (ak.toNat : Int), .int .u64 (an : Int), .int .u8 (ac.toNat : Int), .string ai, .string ax, .string au, .string aw, .int .u64 (av : Int), .string s1, .string s2, .string s3, .string s4, .string s5, .string s6, .string s7] (0, 0) _ hS.1 Try.underlying30 rfl kASK ?_
      exact hK.out _ _ ⟨hS, trivial, rfl⟩
    · intro L hL hcl v u hS hd K' hK
      simp only [waited, List.toList_toArray, Region.binds, rel, List.getD_cons_zero, List.getD_cons_succ, true_imp_iff, and_true] at hd
      simp only [rel, List.getD_cons_zero, List.getD_cons_succ, Act.put, List.setIfInBounds_toArray, List.set_cons_zero, List.set_cons_succ] at hK
      try simp only [hd] at hK
      have h0 : L 6 = false := by
        cases h9 : L 6 with
        | false => rfl
        | true => have h8 := hcl 6 3 h9 (by kernel_rfl); rw [hL] at h8; cases h8
      have hS' := hS
      rw [h0] at hS'
      have h2 := B3.alloc1 (l := [.int .u8 0, .int .u64 0, .int .u8 0, .string ⟨#[]⟩, .string ⟨#[]⟩, .string ⟨#[]⟩, .string ⟨#[]⟩, .int .u64 0, .string ⟨#[]⟩, .string ⟨#[]⟩, .string ⟨#[]⟩, .string ⟨#[]⟩, .string ⟨#[]⟩, .string ⟨#[]⟩, .string ⟨#[]⟩]) hS'
      go_simp
      refine hK.out _ _ ⟨?_, trivial, ⟨_, rfl⟩⟩
      rw [h0]
      exact h2
    · intro L hL hcl v u hS hd K' hK
      simp only [waited, List.toList_toArray, Region.binds, rel, List.getD_cons_zero, List.getD_cons_succ, true_imp_iff, and_true] at hd
      simp only [rel, List.getD_cons_zero, List.getD_cons_succ, Act.put, List.setIfInBounds_toArray, List.set_cons_zero, List.set_cons_succ] at hK
      try simp only [hd] at hK
      have h0 : L 7 = false := by
        cases h9 : L 7 with
        | false => rfl
        | true => have h8 := hcl 7 4 h9 (by kernel_rfl); rw [hL] at h8; cases h8
      have hS' := hS
      rw [h0] at hS'
      have h2 := B3.alloc2 (l := [.int .u8 0, .int .u64 0, .int .u8 0, .string ⟨#[]⟩, .string ⟨#[]⟩, .string ⟨#[]⟩, .string ⟨#[]⟩, .int .u64 0, .string ⟨#[]⟩, .string ⟨#[]⟩, .string ⟨#[]⟩, .string ⟨#[]⟩, .string ⟨#[]⟩, .string ⟨#[]⟩, .string ⟨#[]⟩]) hS'
      go_simp
      refine hK.out _ _ ⟨?_, trivial, ⟨_, rfl⟩⟩
      rw [h0]
      exact h2
    · intro L hL hcl v u hS hd K' hK
      simp only [waited, List.toList_toArray, Region.binds, rel, List.getD_cons_zero, List.getD_cons_succ, true_imp_iff, and_true] at hd
      simp only [rel, List.getD_cons_zero, List.getD_cons_succ, Act.put, List.setIfInBounds_toArray, List.set_cons_zero, List.set_cons_succ] at hK
      try simp only [hd] at hK
      have h0 : L 8 = false := by
        cases h9 : L 8 with
        | false => rfl
        | true => have h8 := hcl 8 5 h9 (by kernel_rfl); rw [hL] at h8; cases h8
      have hS' := hS
      rw [h0] at hS'
      have h2 := B3.alloc3 (l := [.int .u8 0, .int .u64 0, .int .u8 0, .string ⟨#[]⟩, .string ⟨#[]⟩, .string ⟨#[]⟩, .string ⟨#[]⟩, .int .u64 0, .string ⟨#[]⟩, .string ⟨#[]⟩, .string ⟨#[]⟩, .string ⟨#[]⟩, .string ⟨#[]⟩, .string ⟨#[]⟩, .string ⟨#[]⟩]) hS'
      go_simp
      refine hK.out _ _ ⟨?_, trivial, ⟨_, rfl⟩⟩
      rw [h0]
      exact h2
    · intro L hL hcl v u hS hd K' hK
      simp only [waited, List.toList_toArray, Region.binds, rel, List.getD_cons_zero, List.getD_cons_succ, true_imp_iff, and_true] at hd
      simp only [rel, List.getD_cons_zero, List.getD_cons_succ, Act.put, List.setIfInBounds_toArray, List.set_cons_zero, List.set_cons_succ] at hK
      obtain ⟨⟨k, e0⟩, e1, _⟩ := hd
      have hS' := hS
      replace hS' : B3 w2 w.heap.size 30 [.int .u8 (ak.toNat : Int), .int .u64 (an : Int), .int .u8 (ac.toNat : Int), .string ai, .string ax, .string au, .string aw, .int .u64 (av : Int), .string s1, .string s2, .string s3, .string s4, .string s5, .string s6, .string s7] [.int .u8 0, .int .u64 0, .int .u8 0, .string ⟨#[]⟩, .string ⟨#[]⟩, .string ⟨#[]⟩, .string ⟨#[]⟩, .int .u64 0, .string ⟨#[]⟩, .string ⟨#[]⟩, .string ⟨#[]⟩, .string ⟨#[]⟩, .string ⟨#[]⟩, .string ⟨#[]⟩, .string ⟨#[]⟩] (cond (L 7) [.int .u8 (ak.toNat : Int), .int .u64 (an : Int), .int .u8 (ac.toNat : Int), .string ai, .string ax, .string au, .string aw, .int .u64 (av : Int), .string s1, .string s2, .string s3, .string s4, .string s5, .string s6, .string s7] [.int .u8 0, .int .u64 0, .int .u8 0, .string ⟨#[]⟩, .string ⟨#[]⟩, .string ⟨#[]⟩, .string ⟨#[]⟩, .int .u64 0, .string ⟨#[]⟩, .string ⟨#[]⟩, .string ⟨#[]⟩, .string ⟨#[]⟩, .string ⟨#[]⟩, .string ⟨#[]⟩, .string ⟨#[]⟩]) (cond (L 8) [.int .u8 (ak.toNat : Int), .int .u64 (an : Int), .int .u8 (ac.toNat : Int), .string ai, .string ax, .string au, .string aw, .int .u64 (av : Int), .string s1, .string s2, .string s3, .string s4, .string s5, .string s6, .string s7] [.int .u8 0, .int .u64 0, .int .u8 0, .string ⟨#[]⟩, .string ⟨#[]⟩, .string ⟨#[]⟩, .string ⟨#[]⟩, .int .u64 0, .string ⟨#[]⟩, .string ⟨#[]⟩, .string ⟨#[]⟩, .string ⟨#[]⟩, .string ⟨#[]⟩, .string ⟨#[]⟩, .string ⟨#[]⟩]) (.pointer (some ⟨k, 0, none⟩)) (v 4) (v 5) u := by
        rw [hL, e0] at hS'
        exact hS'
      have hk9 := (hS'.2.2.1.1 k rfl).2
      have h2 := B3.row1 hS' hAw [.int .u8 (ak.toNat : Int), .int .u64 (an : Int), .int .u8 (ac.toNat : Int), .string ai, .string ax, .string au, .string aw, .int .u64 (av : Int), .string s1, .string s2, .string s3, .string s4, .string s5, .string s6, .string s7]
      have h3 : B3 w2 w.heap.size 30 [.int .u8 (ak.toNat : Int), .int .u64 (an : Int), .int .u8 (ac.toNat : Int), .string ai, .string ax, .string au, .string aw, .int .u64 (av : Int), .string s1, .string s2, .string s3, .string s4, .string s5, .string s6, .string s7] [.int .u8 (ak.toNat : Int), .int .u64 (an : Int), .int .u8 (ac.toNat : Int), .string ai, .string ax, .string au, .string aw, .int .u64 (av : Int), .string s1, .string s2, .string s3, .string s4, .string s5, .string s6, .string s7] (cond (L 7) [.int .u8 (ak.toNat : Int), .int .u64 (an : Int), .int .u8 (ac.toNat : Int), .string ai, .string ax, .string au, .string aw, .int .u64 (av : Int), .string s1, .string s2, .string s3, .string s4, .string s5, .string s6, .string s7] [.int .u8 0, .int .u64 0, .int .u8 0, .string ⟨#[]⟩, .string ⟨#[]⟩, .string ⟨#[]⟩, .string ⟨#[]⟩, .int .u64 0, .string ⟨#[]⟩, .string ⟨#[]⟩, .string ⟨#[]⟩, .string ⟨#[]⟩, .string ⟨#[]⟩, .string ⟨#[]⟩, .string ⟨#[]⟩]) (cond (L 8) [.int .u8 (ak.toNat : Int), .int .u64 (an : Int), .int .u8 (ac.toNat : Int), .string ai, .string ax, .string au, .string aw, .int .u64 (av : Int), .string s1, .string s2, .string s3, .string s4, .string s5, .string s6, .string s7] [.int .u8 0, .int .u64 0, .int .u8 0, .string ⟨#[]⟩, .string ⟨#[]⟩, .string ⟨#[]⟩, .string ⟨#[]⟩, .int .u64 0, .string ⟨#[]⟩, .string ⟨#[]⟩, .string ⟨#[]⟩, .string ⟨#[]⟩, .string ⟨#[]⟩, .string ⟨#[]⟩, .string ⟨#[]⟩]) (v 3) (v 4) (v 5) (u.setRow k #[.int .u8 (ak.toNat : Int), .int .u64 (an : Int), .int .u8 (ac.toNat : Int), .string ai, .string ax, .string au, .string aw, .int .u64 (av : Int), .string s1, .string s2, .string s3, .string s4, .string s5, .string s6, .string s7]) := by
        rw [e0]
        exact h2
      clear h2
      refine wanted_go rfl ?_
      refine wp_store_row 30 _ _ rfl k #[.int .u8 (ak.toNat : Int), .int .u64 (an : Int), .int .u8 (ac.toNat : Int), .string ai, .string ax, .string au, .string aw, .int .u64 (av : Int), .string s1, .string s2, .string s3, .string s4, .string s5, .string s6, .string s7] e0 e1 30 #[.int .u8 0, .int .u64 0, .int .u8 0, .string ⟨#[]⟩, .string ⟨#[]⟩, .string ⟨#[]⟩, .string ⟨#[]⟩, .int .u64 0, .string ⟨#[]⟩, .string ⟨#[]⟩, .string ⟨#[]⟩, .string ⟨#[]⟩, .string ⟨#[]⟩, .string ⟨#[]⟩, .string ⟨#[]⟩] hk9 kASK rfl (by simp [Value.oneCell']) ?_
      exact hK.out undef _ ⟨h3, trivial, trivial⟩
    · intro L hL hcl v u hS hd K' hK
      simp only [waited, List.toList_toArray, Region.binds, rel, List.getD_cons_zero, List.getD_cons_succ, true_imp_iff, and_true] at hd
      simp only [rel, List.getD_cons_zero, List.getD_cons_succ, Act.put, List.setIfInBounds_toArray, List.set_cons_zero, List.set_cons_succ] at hK
      obtain ⟨⟨k, e0⟩, e1, _⟩ := hd
      have hS' := hS
      replace hS' : B3 w2 w.heap.size 30 [.int .u8 (ak.toNat : Int), .int .u64 (an : Int), .int .u8 (ac.toNat : Int), .string ai, .string ax, .string au, .string aw, .int .u64 (av : Int), .string s1, .string s2, .string s3, .string s4, .string s5, .string s6, .string s7] (cond (L 6) [.int .u8 (ak.toNat : Int), .int .u64 (an : Int), .int .u8 (ac.toNat : Int), .string ai, .string ax, .string au, .string aw, .int .u64 (av : Int), .string s1, .string s2, .string s3, .string s4, .string s5, .string s6, .string s7] [.int .u8 0, .int .u64 0, .int .u8 0, .string ⟨#[]⟩, .string ⟨#[]⟩, .string ⟨#[]⟩, .string ⟨#[]⟩, .int .u64 0, .string ⟨#[]⟩, .string ⟨#[]⟩, .string ⟨#[]⟩, .string ⟨#[]⟩, .string ⟨#[]⟩, .string ⟨#[]⟩, .string ⟨#[]⟩]) [.int .u8 0, .int .u64 0, .int .u8 0, .string ⟨#[]⟩, .string ⟨#[]⟩, .string ⟨#[]⟩, .string ⟨#[]⟩, .int .u64 0, .string ⟨#[]⟩, .string ⟨#[]⟩, .string ⟨#[]⟩, .string ⟨#[]⟩, .string ⟨#[]⟩, .string ⟨#[]⟩, .string ⟨#[]⟩] (cond (L 8) [.int .u8 (ak.toNat : Int), .int .u64 (an : Int), .int .u8 (ac.toNat : Int), .string ai, .string ax, .string au, .string aw, .int .u64 (av : Int), .string s1, .string s2, .string s3, .string s4, .string s5, .string s6, .string s7] [.int .u8 0, .int .u64 0, .int .u8 0, .string ⟨#[]⟩, .string ⟨#[]⟩, .string ⟨#[]⟩, .string ⟨#[]⟩, .int .u64 0, .string ⟨#[]⟩, .string ⟨#[]⟩, .string ⟨#[]⟩, .string ⟨#[]⟩, .string ⟨#[]⟩, .string ⟨#[]⟩, .string ⟨#[]⟩]) (v 3) (.pointer (some ⟨k, 0, none⟩)) (v 5) u := by
        rw [hL, e0] at hS'
        exact hS'
      have hk9 := (hS'.2.2.1.2.1 k rfl).2
      have h2 := B3.row2 hS' hAw [.int .u8 (ak.toNat : Int), .int .u64 (an : Int), .int .u8 (ac.toNat : Int), .string ai, .string ax, .string au, .string aw, .int .u64 (av : Int), .string s1, .string s2, .string s3, .string s4, .string s5, .string s6, .string s7]
      have h3 : B3 w2 w.heap.size 30 [.int .u8 (ak.toNat : Int), .int .u64 (an : Int), .int .u8 (ac.toNat : Int), .string ai, .string ax, .string au, .string aw, .int .u64 (av : Int), .string s1, .string s2, .string s3, .string s4, .string s5, .string s6, .string s7] (cond (L 6) [.int .u8 (ak.toNat : Int), .int .u64 (an : Int), .int .u8 (ac.toNat : Int), .string ai, .string ax, .string au, .string aw, .int .u64 (av : Int), .string s1, .string s2, .string s3, .string s4, .string s5, .string s6, .string s7] [.int .u8 0, .int .u64 0, .int .u8 0, .string ⟨#[]⟩, .string ⟨#[]⟩, .string ⟨#[]⟩, .string ⟨#[]⟩, .int .u64 0, .string ⟨#[]⟩, .string ⟨#[]⟩, .string ⟨#[]⟩, .string ⟨#[]⟩, .string ⟨#[]⟩, .string ⟨#[]⟩, .string ⟨#[]⟩]) [.int .u8 (ak.toNat : Int), .int .u64 (an : Int), .int .u8 (ac.toNat : Int), .string ai, .string ax, .string au, .string aw, .int .u64 (av : Int), .string s1, .string s2, .string s3, .string s4, .string s5, .string s6, .string s7] (cond (L 8) [.int .u8 (ak.toNat : Int), .int .u64 (an : Int), .int .u8 (ac.toNat : Int), .string ai, .string ax, .string au, .string aw, .int .u64 (av : Int), .string s1, .string s2, .string s3, .string s4, .string s5, .string s6, .string s7] [.int .u8 0, .int .u64 0, .int .u8 0, .string ⟨#[]⟩, .string ⟨#[]⟩, .string ⟨#[]⟩, .string ⟨#[]⟩, .int .u64 0, .string ⟨#[]⟩, .string ⟨#[]⟩, .string ⟨#[]⟩, .string ⟨#[]⟩, .string ⟨#[]⟩, .string ⟨#[]⟩, .string ⟨#[]⟩]) (v 3) (v 4) (v 5) (u.setRow k #[.int .u8 (ak.toNat : Int), .int .u64 (an : Int), .int .u8 (ac.toNat : Int), .string ai, .string ax, .string au, .string aw, .int .u64 (av : Int), .string s1, .string s2, .string s3, .string s4, .string s5, .string s6, .string s7]) := by
        rw [e0]
        exact h2
      clear h2
      refine wanted_go rfl ?_
      refine wp_store_row 30 _ _ rfl k #[.int .u8 (ak.toNat : Int), .int .u64 (an : Int), .int .u8 (ac.toNat : Int), .string ai, .string ax, .string au, .string aw, .int .u64 (av : Int), .string s1, .string s2, .string s3, .string s4, .string s5, .string s6, .string s7] e0 e1 30 #[.int .u8 0, .int .u64 0, .int .u8 0, .string ⟨#[]⟩, .string ⟨#[]⟩, .string ⟨#[]⟩, .string ⟨#[]⟩, .int .u64 0, .string ⟨#[]⟩, .string ⟨#[]⟩, .string ⟨#[]⟩, .string ⟨#[]⟩, .string ⟨#[]⟩, .string ⟨#[]⟩, .string ⟨#[]⟩] hk9 kASK rfl (by simp [Value.oneCell']) ?_
      exact hK.out undef _ ⟨h3, trivial, trivial⟩
    · intro L hL hcl v u hS hd K' hK
      simp only [waited, List.toList_toArray, Region.binds, rel, List.getD_cons_zero, List.getD_cons_succ, true_imp_iff, and_true] at hd
      simp only [rel, List.getD_cons_zero, List.getD_cons_succ, Act.put, List.setIfInBounds_toArray, List.set_cons_zero, List.set_cons_succ] at hK
      obtain ⟨⟨k, e0⟩, e1, _⟩ := hd
      have hS' := hS
      replace hS' : B3 w2 w.heap.size 30 [.int .u8 (ak.toNat : Int), .int .u64 (an : Int), .int .u8 (ac.toNat : Int), .string ai, .string ax, .string au, .string aw, .int .u64 (av : Int), .string s1, .string s2, .string s3, .string s4, .string s5, .string s6, .string s7] (cond (L 6) [.int .u8 (ak.toNat : Int), .int .u64 (an : Int), .int .u8 (ac.toNat : Int), .string ai, .string ax, .string au, .string aw, .int .u64 (av : Int), .string s1, .string s2, .string s3, .string s4, .string s5, .string s6, .string s7] [.int .u8 0, .int .u64 0, .int .u8 0, .string ⟨#[]⟩, .string ⟨#[]⟩, .string ⟨#[]⟩, .string ⟨#[]⟩, .int .u64 0, .string ⟨#[]⟩, .string ⟨#[]⟩, .string ⟨#[]⟩, .string ⟨#[]⟩, .string ⟨#[]⟩, .string ⟨#[]⟩, .string ⟨#[]⟩]) (cond (L 7) [.int .u8 (ak.toNat : Int), .int .u64 (an : Int), .int .u8 (ac.toNat : Int), .string ai, .string ax, .string au, .string aw, .int .u64 (av : Int), .string s1, .string s2, .string s3, .string s4, .string s5, .string s6, .string s7] [.int .u8 0, .int .u64 0, .int .u8 0, .string ⟨#[]⟩, .string ⟨#[]⟩, .string ⟨#[]⟩, .string ⟨#[]⟩, .int .u64 0, .string ⟨#[]⟩, .string ⟨#[]⟩, .string ⟨#[]⟩, .string ⟨#[]⟩, .string ⟨#[]⟩, .string ⟨#[]⟩, .string ⟨#[]⟩]) [.int .u8 0, .int .u64 0, .int .u8 0, .string ⟨#[]⟩, .string ⟨#[]⟩, .string ⟨#[]⟩, .string ⟨#[]⟩, .int .u64 0, .string ⟨#[]⟩, .string ⟨#[]⟩, .string ⟨#[]⟩, .string ⟨#[]⟩, .string ⟨#[]⟩, .string ⟨#[]⟩, .string ⟨#[]⟩] (v 3) (v 4) (.pointer (some ⟨k, 0, none⟩)) u := by
        rw [hL, e0] at hS'
        exact hS'
      have hk9 := (hS'.2.2.1.2.2 k rfl).2
      have h2 := B3.row3 hS' hAw [.int .u8 (ak.toNat : Int), .int .u64 (an : Int), .int .u8 (ac.toNat : Int), .string ai, .string ax, .string au, .string aw, .int .u64 (av : Int), .string s1, .string s2, .string s3, .string s4, .string s5, .string s6, .string s7]
      have h3 : B3 w2 w.heap.size 30 [.int .u8 (ak.toNat : Int), .int .u64 (an : Int), .int .u8 (ac.toNat : Int), .string ai, .string ax, .string au, .string aw, .int .u64 (av : Int), .string s1, .string s2, .string s3, .string s4, .string s5, .string s6, .string s7] (cond (L 6) [.int .u8 (ak.toNat : Int), .int .u64 (an : Int), .int .u8 (ac.toNat : Int), .string ai, .string ax, .string au, .string aw, .int .u64 (av : Int), .string s1, .string s2, .string s3, .string s4, .string s5, .string s6, .string s7] [.int .u8 0, .int .u64 0, .int .u8 0, .string ⟨#[]⟩, .string ⟨#[]⟩, .string ⟨#[]⟩, .string ⟨#[]⟩, .int .u64 0, .string ⟨#[]⟩, .string ⟨#[]⟩, .string ⟨#[]⟩, .string ⟨#[]⟩, .string ⟨#[]⟩, .string ⟨#[]⟩, .string ⟨#[]⟩]) (cond (L 7) [.int .u8 (ak.toNat : Int), .int .u64 (an : Int), .int .u8 (ac.toNat : Int), .string ai, .string ax, .string au, .string aw, .int .u64 (av : Int), .string s1, .string s2, .string s3, .string s4, .string s5, .string s6, .string s7] [.int .u8 0, .int .u64 0, .int .u8 0, .string ⟨#[]⟩, .string ⟨#[]⟩, .string ⟨#[]⟩, .string ⟨#[]⟩, .int .u64 0, .string ⟨#[]⟩, .string ⟨#[]⟩, .string ⟨#[]⟩, .string ⟨#[]⟩, .string ⟨#[]⟩, .string ⟨#[]⟩, .string ⟨#[]⟩]) [.int .u8 (ak.toNat : Int), .int .u64 (an : Int), .int .u8 (ac.toNat : Int), .string ai, .string ax, .string au, .string aw, .int .u64 (av : Int), .string s1, .string s2, .string s3, .string s4, .string s5, .string s6, .string s7] (v 3) (v 4) (v 5) (u.setRow k #[.int .u8 (ak.toNat : Int), .int .u64 (an : Int), .int .u8 (ac.toNat : Int), .string ai, .string ax, .string au, .string aw, .int .u64 (av : Int), .string s1, .string s2, .string s3, .string s4, .string s5, .string s6, .string s7]) := by
        rw [e0]
        exact h2
      clear h2
      refine wanted_go rfl ?_
      refine wp_store_row 30 _ _ rfl k #[.int .u8 (ak.toNat : Int), .int .u64 (an : Int), .int .u8 (ac.toNat : Int), .string ai, .string ax, .string au, .string aw, .int .u64 (av : Int), .string s1, .string s2, .string s3, .string s4, .string s5, .string s6, .string s7] e0 e1 30 #[.int .u8 0, .int .u64 0, .int .u8 0, .string ⟨#[]⟩, .string ⟨#[]⟩, .string ⟨#[]⟩, .string ⟨#[]⟩, .int .u64 0, .string ⟨#[]⟩, .string ⟨#[]⟩, .string ⟨#[]⟩, .string ⟨#[]⟩, .string ⟨#[]⟩, .string ⟨#[]⟩, .string ⟨#[]⟩] hk9 kASK rfl (by simp [Value.oneCell']) ?_
      exact hK.out undef _ ⟨h3, trivial, trivial⟩
  · rintro v u hS hR
    simp only [holdAll, List.size_toArray, List.length_cons, List.length_nil, Nat.reduceAdd, rel, List.getD_cons_zero, List.getD_cons_succ] at hR
    obtain ⟨⟨⟨⟨⟨⟨-, ⟨g1, e1⟩⟩, ⟨g2, e2⟩⟩, ⟨g3, e3⟩⟩, -⟩, -⟩, -⟩ := hR
    simp only [e1, e2, e3] at hS ⊢
    obtain ⟨hA3, hb3, ⟨q1, q2, q3⟩, a12, a13, a23⟩ := hS
    obtain ⟨p1, k1⟩ := q1 g1 rfl
    obtain ⟨p2, k2⟩ := q2 g2 rfl
    obtain ⟨p3, k3⟩ := q3 g3 rfl
    replace k1 : Blk u g1 [.int .u8 (ak.toNat : Int), .int .u64 (an : Int), .int .u8 (ac.toNat : Int), .string ai, .string ax, .string au, .string aw, .int .u64 (av : Int), .string s1, .string s2, .string s3, .string s4, .string s5, .string s6, .string s7] 30 := k1
    replace k2 : Blk u g2 [.int .u8 (ak.toNat : Int), .int .u64 (an : Int), .int .u8 (ac.toNat : Int), .string ai, .string ax, .string au, .string aw, .int .u64 (av : Int), .string s1, .string s2, .string s3, .string s4, .string s5, .string s6, .string s7] 30 := k2
    replace k3 : Blk u g3 [.int .u8 (ak.toNat : Int), .int .u64 (an : Int), .int .u8 (ac.toNat : Int), .string ai, .string ax, .string au, .string aw, .int .u64 (av : Int), .string s1, .string s2, .string s3, .string s4, .string s5, .string s6, .string s7] 30 := k3
    have n12 : g2 ≠ g1 := fun e => a12 g1 rfl (by rw [e])
    have n13 : g3 ≠ g1 := fun e => a13 g1 rfl (by rw [e])
    have n23 : g3 ≠ g2 := fun e => a23 g2 rfl (by rw [e])
    replace p1 := Nat.lt_of_lt_of_le hAw p1
    replace p2 := Nat.lt_of_lt_of_le hAw p2
    replace p3 := Nat.lt_of_lt_of_le hAw p3
    replace hb := bt hb hb3
    clear hA hb3 q1 q2 q3 a12 a13 a23 e1 e2 e3 hAw
    have hA' := ((hA3.far (p := ⟨g1, 1, none⟩) (by show w.heap.size ≠ g1; omega) (.int .u64 (m : Int))).far (p := ⟨g2, 7, none⟩) (by show w.heap.size ≠ g2; omega) (.int .u64 (m : Int))).far (p := ⟨g3, 14, none⟩) (by show w.heap.size ≠ g3; omega) (.string ⟨#[123, 125]⟩)
    have k1' := ((k1.set 1 (.int .u64 (m : Int))).far (p := ⟨g2, 7, none⟩) (Ne.symm n12) (.int .u64 (m : Int))).far (p := ⟨g3, 14, none⟩) (Ne.symm n13) (.string ⟨#[123, 125]⟩)
    have k2' := ((k2.far (p := ⟨g1, 1, none⟩) n12 (.int .u64 (m : Int))).set 7 (.int .u64 (m : Int))).far (p := ⟨g3, 14, none⟩) (Ne.symm n23) (.string ⟨#[123, 125]⟩)
    have k3' := ((k3.far (p := ⟨g1, 1, none⟩) n13 (.int .u64 (m : Int))).far (p := ⟨g2, 7, none⟩) n23 (.int .u64 (m : Int))).set 14 (.string ⟨#[123, 125]⟩)
    have hb' := ((hb.setCell (p := ⟨g1, 1, none⟩) (by show w.heap.size ≤ g1; omega) (.int .u64 (m : Int))).setCell (p := ⟨g2, 7, none⟩) (by show w.heap.size ≤ g2; omega) (.int .u64 (m : Int))).setCell (p := ⟨g3, 14, none⟩) (by show w.heap.size ≤ g3; omega) (.string ⟨#[123, 125]⟩)
    have x1 := k1.cell
    have f1 := k1.free
    have x2 := (k2.far (p := ⟨g1, 1, none⟩) n12 (.int .u64 (m : Int))).cell
    have f2 := (k2.far (p := ⟨g1, 1, none⟩) n12 (.int .u64 (m : Int))).free
    have x3 := ((k3.far (p := ⟨g1, 1, none⟩) n13 (.int .u64 (m : Int))).far (p := ⟨g2, 7, none⟩) n23 (.int .u64 (m : Int))).cell
    have f3 := ((k3.far (p := ⟨g1, 1, none⟩) n13 (.int .u64 (m : Int))).far (p := ⟨g2, 7, none⟩) n23 (.int .u64 (m : Int))).free
    go_upto_region 8 with fail
    obtain ⟨W, hW⟩ := named (((u.setCell ⟨g1, 1, none⟩ (.int .u64 (m : Int))).setCell ⟨g2, 7, none⟩ (.int .u64 (m : Int))).setCell ⟨g3, 14, none⟩ (.string ⟨#[123, 125]⟩))
    rw [← hW.out] at hA' k1' k2' k3' hb' ⊢
    clear hW x1 f1 x2 f2 x3 f3 hA3 k1 k2 k3 hb
    have hA : Blk W w.heap.size [.int .u8 (ak.toNat : Int), .int .u64 (an : Int), .int .u8 (ac.toNat : Int), .string ai, .string ax, .string au, .string aw, .int .u64 (av : Int), .string s1, .string s2, .string s3, .string s4, .string s5, .string s6, .string s7] 30 := hA'
    have k1 : Blk W g1 [.int .u8 (ak.toNat : Int), .int .u64 (m : Int), .int .u8 (ac.toNat : Int), .string ai, .string ax, .string au, .string aw, .int .u64 (av : Int), .string s1, .string s2, .string s3, .string s4, .string s5, .string s6, .string s7] 30 := k1'
    have k2 : Blk W g2 [.int .u8 (ak.toNat : Int), .int .u64 (an : Int), .int .u8 (ac.toNat : Int), .string ai, .string ax, .string au, .string aw, .int .u64 (m : Int), .string s1, .string s2, .string s3, .string s4, .string s5, .string s6, .string s7] 30 := k2'
    have k3 : Blk W g3 [.int .u8 (ak.toNat : Int), .int .u64 (an : Int), .int .u8 (ac.toNat : Int), .string ai, .string ax, .string au, .string aw, .int .u64 (av : Int), .string s1, .string s2, .string s3, .string s4, .string s5, .string s6, .string ⟨#[123, 125]⟩] 30 := k3'
    have hb := hb'
    clear hA' k1' k2' k3' hb' n12 n13 n23 p1 p2 p3
    go_wp2_with (refine wpList_load_row rfl 30 _ rfl _ rfl 30 #[.int .u8 (ak.toNat : Int), .int .u64 (m : Int), .int .u8 (ac.toNat : Int), .string ai, .string ax, .string au, .string aw, .int .u64 (av : Int), .string s1, .string s2, .string s3, .string s4, .string s5, .string s6, .string s7] (0, 0) _ k1 Try.underlying30 rfl kASK ?_)
    refine (h1 _).mono ?_
    rintro e W3 ⟨rfl, hb9⟩
    replace hA := hA.below hb9
    replace k1 := k1.below hb9
    replace k2 := k2.below hb9
    replace k3 := k3.below hb9
    replace hb := bt hb hb9
    clear hb9 h1
    generalize (Value.agg #[.int .u8 (ak.toNat : Int), .int .u64 (m : Int), .int .u8 (ac.toNat : Int), .string ai, .string ax, .string au, .string aw, .int .u64 (av : Int), .string s1, .string s2, .string s3, .string s4, .string s5, .string s6, .string s7] : Value) = VW3
    go_wp2_with (refine wpList_load_row rfl 30 _ rfl _ rfl 30 #[.int .u8 (ak.toNat : Int), .int .u64 (an : Int), .int .u8 (ac.toNat : Int), .string ai, .string ax, .string au, .string aw, .int .u64 (m : Int), .string s1, .string s2, .string s3, .string s4, .string s5, .string s6, .string s7] (0, 0) _ k2 Try.underlying30 rfl kASK ?_)
    refine (h2 _).mono ?_
    rintro e W4 ⟨rfl, hb9⟩
    replace hA := hA.below hb9
    replace k1 := k1.below hb9
    replace k2 := k2.below hb9
    replace k3 := k3.below hb9
    replace hb := bt hb hb9
    clear hb9 h2
    generalize (Value.agg #[.int .u8 (ak.toNat : Int), .int .u64 (an : Int), .int .u8 (ac.toNat : Int), .string ai, .string ax, .string au, .string aw, .int .u64 (m : Int), .string s1, .string s2, .string s3, .string s4, .string s5, .string s6, .string s7] : Value) = VW4
    go_wp2_with (refine wpList_load_row rfl 30 _ rfl _ rfl 30 #[.int .u8 (ak.toNat : Int), .int .u64 (an : Int), .int .u8 (ac.toNat : Int), .string ai, .string ax, .string au, .string aw, .int .u64 (av : Int), .string s1, .string s2, .string s3, .string s4, .string s5, .string s6, .string ⟨#[123, 125]⟩] (0, 0) _ k3 Try.underlying30 rfl kASK ?_)
    refine (h3 _).mono ?_
    rintro e W5 ⟨rfl, hb9⟩
    replace hA := hA.below hb9
    replace k1 := k1.below hb9
    replace k2 := k2.below hb9
    replace k3 := k3.below hb9
    replace hb := bt hb hb9
    clear hb9 h3
    generalize (Value.agg #[.int .u8 (ak.toNat : Int), .int .u64 (an : Int), .int .u8 (ac.toNat : Int), .string ai, .string ax, .string au, .string aw, .int .u64 (av : Int), .string s1, .string s2, .string s3, .string s4, .string s5, .string s6, .string ⟨#[123, 125]⟩] : Value) = VW5
    obtain ⟨l1, l2, l3⟩ := HL.out (by first | rfl | trivial) HM.out
    clear HL
    rcases HX with ⟨rfl, rfl, rfl, rfl, rfl⟩ | ⟨rfl, rfl, rfl, rfl, rfl⟩ | ⟨rfl, rfl, rfl, rfl, rfl⟩ | ⟨rfl, rfl, rfl, rfl, rfl⟩ | ⟨rfl, rfl, rfl, rfl, rfl⟩ | ⟨rfl, rfl, rfl, rfl, rfl⟩
    all_goals
      simp only [Bool.or_true, Bool.true_or, Bool.or_false] at l1 l2 l3
      have xA := hA.cell
      go_wp2_with (refine wpList_load_row rfl 30 _ rfl _ rfl 30 #[.int .u8 (ak.toNat : Int), .int .u64 (m : Int), .int .u8 (ac.toNat : Int), .string ai, .string ax, .string au, .string aw, .int .u64 (av : Int), .string s1, .string s2, .string s3, .string s4, .string s5, .string s6, .string s7] (0, 0) _ k1 Try.underlying30 rfl kASK ?_)
      refine (h4 _).mono ?_
      rintro e W6 ⟨rfl, hb9⟩
      replace hA := hA.below hb9
      replace hb := bt hb hb9
      clear hb9 xA h4 k1 k2 k3
      have xA := hA.cell
      go_wp2
      go_ret
      exact ⟨by simp [l1, l2, l3], hb⟩
end Go.Proofs.Ytiodfbbgbnbdpaa
