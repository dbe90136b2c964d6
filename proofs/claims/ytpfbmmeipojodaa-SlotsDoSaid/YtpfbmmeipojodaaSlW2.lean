/- The walk of SlotsDo. -/
import Derived.Test.YtpfbmmeipojodaaGO
import Derived.Test.YtpfbmmeipojodaaGP
import Derived.Test.YtpfbmmeipojodaaGL
import Derived.Test.YtpfbmmeipojodaaFlat
namespace Go.Proofs.Ytpfbmmeipojodaa
set_option linter.unusedSimpArgs false
set_option linter.unusedVariables false
open Go.RowKit Go.Shelf
open Crc
set_option maxRecDepth 100000 in
set_option maxHeartbeats 4000000 in
theorem slotsdo_w (A1 A2 : Option Addr) (c1 c2 : Nat) (d : Dk) (fa sa fb sb : Int) (ep : Nat) (p : ByteArray) (w : World) (h1 : Texts w A1 d.secs) (h2 : Writes w A2 d.pend) (hl1 : d.secs.length * 16 ≤ 140737488351232) (hl2 : d.pend.length * 24 ≤ 140737488351232) (hf1 : -9223372036854775808 ≤ d.fuse) (hf2 : d.fuse ≤ 9223372036854775807) (hfa : -9223372036854775808 ≤ fa ∧ fa ≤ 9223372036854775807) (hsa : -9223372036854775808 ≤ sa ∧ sa ≤ 9223372036854775807) (hfb : -9223372036854775808 ≤ fb ∧ fb ≤ 9223372036854775807) (hsb : -9223372036854775808 ≤ sb ∧ sb ≤ 9223372036854775807) (he : ep < 18446744073709551616) :
    Calls Try.prog 4 #[.agg #[.slice A1 d.secs.length c1, .slice A2 d.pend.length c2, .bool d.off, .int .i64 d.fuse], .agg #[.int .i64 fa, .int .i64 sa], .agg #[.int .i64 fb, .int .i64 sb], .agg #[.int .u64 (ep : Int), .string p]] w fun e w' => e = .returned (.bool true) ∧ Below w.heap.size w w' := by
  obtain ⟨W, HW, Bd, ka, kb, km, hb, hz⟩ := dabm_in w ⟨A1, c1, A2, c2, rfl, h1, h2, by omega, by omega, hf1, hf2⟩ fa sa fb sb ep p
  have hy1 := fun W v hv => load_w v d fa sa fb sb W hv hfa hsa hfb hsb
  have hy2 := fun W v hv => refLoad_w v d fa sa fb sb W hv hfa hsa hfb hsb
  have hy3 := fun W v hv => save_w v d fa sa fb sb ep p W hv hfa hsa hfb hsb
  have hy4 := fun W v hv => refSave_w v d fa sa fb sb ep p W hv hfa hsa hfb hsb he
  have hy5 := fun W v hv => slCheck_w v d fa sa fb sb W hv hfa hsa hfb hsb
  have hy6 := fun W v hv => refSlCheck_w v d fa sa fb sb W hv hfa hsa hfb hsb
  obtain ⟨R1, HR1⟩ := named (loadR d fa sa fb sb)
  obtain ⟨D, HD⟩ := named (saveR d fa sa fb sb ⟨ep, p.data.toList⟩).1
  obtain ⟨E, HE⟩ := named (saveR d fa sa fb sb ⟨ep, p.data.toList⟩).2
  obtain ⟨X, HX⟩ := named (slE d fa sa fb sb)
  simp only [← HR1.out] at hy1 hy2
  simp only [← HD.out, ← HE.out] at hy3 hy4
  simp only [← HX.out] at hy5 hy6
  clear HR1 HD HE HX
  obtain ⟨⟨x1, p1⟩, K1, E1⟩ := R1
  simp only [show ∀ a b c p, loadVal (⟨a, p⟩, b, c) = .tuple #[.agg #[.int .u64 (a : Int), .string (str p)], .int .i64 (b : Int), .int .i64 c] from fun _ _ _ _ => rfl] at hy1 hy2
  obtain ⟨S1, HS1⟩ := named (str p1)
  simp only [← HS1.out] at hy1 hy2
  clear HS1
  go_enter Try.func4, Try.ntmps4
  have xd := Bd.blk.cell
  rw [HW.out] at xd
  go_wp2_with fail
  rw [← HW.out]
  clear HW hz xd
  refine (refCopy_w A1 A2 c1 c2 d W Bd.tx Bd.wr hl1 hl2 hf1 hf2).mono ?_
  rintro e w1 ⟨v1, rfl, ho, hb1⟩
  obtain ⟨A3, c3, B3, e3, rfl, g1, g2, g3, g4, g5, g6⟩ := ownDk_is ho
  clear ho
  have Bg := Box.new w1 ⟨A3, c3, B3, e3, rfl, g1, g2, g3, g4, g5, g6⟩
  replace Bd := (Bd.below hb1).alloc (.cells #[.slice A3 d.secs.length c3, .slice B3 d.pend.length e3, .bool d.off, .int .i64 d.fuse] 28)
  replace ka := (ka.below hb1).alloc (.cells #[.slice A3 d.secs.length c3, .slice B3 d.pend.length e3, .bool d.off, .int .i64 d.fuse] 28)
  replace kb := (kb.below hb1).alloc (.cells #[.slice A3 d.secs.length c3, .slice B3 d.pend.length e3, .bool d.off, .int .i64 d.fuse] 28)
  replace km := (km.below hb1).alloc (.cells #[.slice A3 d.secs.length c3, .slice B3 d.pend.length e3, .bool d.off, .int .i64 d.fuse] 28)
  replace hb := bt (bt hb hb1) (below_alloc w1 (.cells #[.slice A3 d.secs.length c3, .slice B3 d.pend.length e3, .bool d.off, .int .i64 d.fuse] 28))
  clear hb1 g1 g2 g3 g4 g5 g6
  go_upto_region 2 with fail
  obtain ⟨V1, HV1⟩ := named (w1.alloc (.cells #[.slice A3 d.secs.length c3, .slice B3 d.pend.length e3, .bool d.off, .int .i64 d.fuse] 28))
  obtain ⟨N1, HN1⟩ := named w1.heap.size
  rw [← HN1.out] at Bg ⊢
  rw [← HV1.out] at Bg Bd ka kb km hb ⊢
  clear HV1 HN1
  have xg := Bg.blk.cell
  have xa := ka.cell
  have xb := kb.cell
  go_wp2_with fail
  clear xg xa xb
  refine (hy1 _ _ Bg.is).mono ?_
  rintro e w2 ⟨rfl, hb2⟩
  have kx := Blk.new w2 [.int .u64 (x1 : Int), .string S1] 36
  replace Bd := (Bd.below hb2).alloc (.cells #[.int .u64 (x1 : Int), .string S1] 36)
  replace Bg := (Bg.below hb2).alloc (.cells #[.int .u64 (x1 : Int), .string S1] 36)
  replace ka := (ka.below hb2).alloc (.cells #[.int .u64 (x1 : Int), .string S1] 36)
  replace kb := (kb.below hb2).alloc (.cells #[.int .u64 (x1 : Int), .string S1] 36)
  replace km := (km.below hb2).alloc (.cells #[.int .u64 (x1 : Int), .string S1] 36)
  replace hb := bt (bt hb hb2) (below_alloc w2 (.cells #[.int .u64 (x1 : Int), .string S1] 36))
  clear hb2
  clear hy1
  go_upto_region 3 with fail
  obtain ⟨V2, HV2⟩ := named (w2.alloc (.cells #[.int .u64 (x1 : Int), .string S1] 36))
  obtain ⟨N2, HN2⟩ := named w2.heap.size
  rw [← HN2.out] at kx ⊢
  rw [← HV2.out] at kx Bd Bg ka kb km hb ⊢
  clear HV2 HN2
  have xg := Bd.blk.cell
  have xa := ka.cell
  have xb := kb.cell
  go_wp2_with fail
  clear xg xa xb
  refine (hy2 _ _ Bd.is).mono ?_
  rintro e w3 ⟨rfl, hb3⟩
  have ky := Blk.new w3 [.int .u64 (x1 : Int), .string S1] 36
  replace Bd := (Bd.below hb3).alloc (.cells #[.int .u64 (x1 : Int), .string S1] 36)
  replace Bg := (Bg.below hb3).alloc (.cells #[.int .u64 (x1 : Int), .string S1] 36)
  replace ka := (ka.below hb3).alloc (.cells #[.int .u64 (x1 : Int), .string S1] 36)
  replace kb := (kb.below hb3).alloc (.cells #[.int .u64 (x1 : Int), .string S1] 36)
  replace km := (km.below hb3).alloc (.cells #[.int .u64 (x1 : Int), .string S1] 36)
  replace kx := (kx.below hb3).alloc (.cells #[.int .u64 (x1 : Int), .string S1] 36)
  replace hb := bt (bt hb hb3) (below_alloc w3 (.cells #[.int .u64 (x1 : Int), .string S1] 36))
  clear hb3
  clear hy2
  go_upto_region 4 with fail
  obtain ⟨V3, HV3⟩ := named (w3.alloc (.cells #[.int .u64 (x1 : Int), .string S1] 36))
  obtain ⟨N3, HN3⟩ := named w3.heap.size
  rw [← HN3.out] at ky ⊢
  rw [← HV3.out] at ky Bd Bg ka kb km kx hb ⊢
  clear HV3 HN3
  have xg := Bg.blk.cell
  have xa := ka.cell
  have xb := kb.cell
  have xm := km.cell
  go_wp2_with fail
  clear xg xa xb xm
  refine (hy3 _ _ Bg.is).mono ?_
  rintro e w4 ⟨v4, rfl, ⟨A4, c4, B4, e4, rfl, g1, g2, g3, g4, g5, g6⟩, hb4⟩
  clear hy3
  have Be := Box.new w4 ⟨A4, c4, B4, e4, rfl, g1, g2, g3, g4, g5, g6⟩
  replace Bd := (Bd.below hb4).alloc (.cells #[.slice A4 D.secs.length c4, .slice B4 D.pend.length e4, .bool D.off, .int .i64 D.fuse] 28)
  replace Bg := (Bg.below hb4).alloc (.cells #[.slice A4 D.secs.length c4, .slice B4 D.pend.length e4, .bool D.off, .int .i64 D.fuse] 28)
  replace ka := (ka.below hb4).alloc (.cells #[.slice A4 D.secs.length c4, .slice B4 D.pend.length e4, .bool D.off, .int .i64 D.fuse] 28)
  replace kb := (kb.below hb4).alloc (.cells #[.slice A4 D.secs.length c4, .slice B4 D.pend.length e4, .bool D.off, .int .i64 D.fuse] 28)
  replace km := (km.below hb4).alloc (.cells #[.slice A4 D.secs.length c4, .slice B4 D.pend.length e4, .bool D.off, .int .i64 D.fuse] 28)
  replace kx := (kx.below hb4).alloc (.cells #[.slice A4 D.secs.length c4, .slice B4 D.pend.length e4, .bool D.off, .int .i64 D.fuse] 28)
  replace ky := (ky.below hb4).alloc (.cells #[.slice A4 D.secs.length c4, .slice B4 D.pend.length e4, .bool D.off, .int .i64 D.fuse] 28)
  replace hb := bt (bt hb hb4) (below_alloc w4 (.cells #[.slice A4 D.secs.length c4, .slice B4 D.pend.length e4, .bool D.off, .int .i64 D.fuse] 28))
  clear hb4 g1 g2 g3 g4 g5 g6
  go_upto_region 5 with fail
  obtain ⟨V4, HV4⟩ := named (w4.alloc (.cells #[.slice A4 D.secs.length c4, .slice B4 D.pend.length e4, .bool D.off, .int .i64 D.fuse] 28))
  obtain ⟨N4, HN4⟩ := named w4.heap.size
  rw [← HN4.out] at Be ⊢
  rw [← HV4.out] at Be Bd Bg ka kb km kx ky hb ⊢
  clear HV4 HN4
  have xg := Bd.blk.cell
  have xa := ka.cell
  have xb := kb.cell
  have xm := km.cell
  go_wp2_with fail
  clear xg xa xb xm
  refine (hy4 _ _ Bd.is).mono ?_
  rintro e w5 ⟨v5, rfl, ⟨A5, c5, B5, e5, rfl, g1, g2, g3, g4, g5, g6⟩, hb5⟩
  clear hy4
  have Bb := Box.new w5 ⟨A5, c5, B5, e5, rfl, g1, g2, g3, g4, g5, g6⟩
  replace Bd := (Bd.below hb5).alloc (.cells #[.slice A5 D.secs.length c5, .slice B5 D.pend.length e5, .bool D.off, .int .i64 D.fuse] 28)
  replace Bg := (Bg.below hb5).alloc (.cells #[.slice A5 D.secs.length c5, .slice B5 D.pend.length e5, .bool D.off, .int .i64 D.fuse] 28)
  replace ka := (ka.below hb5).alloc (.cells #[.slice A5 D.secs.length c5, .slice B5 D.pend.length e5, .bool D.off, .int .i64 D.fuse] 28)
  replace kb := (kb.below hb5).alloc (.cells #[.slice A5 D.secs.length c5, .slice B5 D.pend.length e5, .bool D.off, .int .i64 D.fuse] 28)
  replace km := (km.below hb5).alloc (.cells #[.slice A5 D.secs.length c5, .slice B5 D.pend.length e5, .bool D.off, .int .i64 D.fuse] 28)
  replace kx := (kx.below hb5).alloc (.cells #[.slice A5 D.secs.length c5, .slice B5 D.pend.length e5, .bool D.off, .int .i64 D.fuse] 28)
  replace ky := (ky.below hb5).alloc (.cells #[.slice A5 D.secs.length c5, .slice B5 D.pend.length e5, .bool D.off, .int .i64 D.fuse] 28)
  replace Be := (Be.below hb5).alloc (.cells #[.slice A5 D.secs.length c5, .slice B5 D.pend.length e5, .bool D.off, .int .i64 D.fuse] 28)
  replace hb := bt (bt hb hb5) (below_alloc w5 (.cells #[.slice A5 D.secs.length c5, .slice B5 D.pend.length e5, .bool D.off, .int .i64 D.fuse] 28))
  clear hb5 g1 g2 g3 g4 g5 g6
  go_upto_region 6 with fail
  obtain ⟨V5, HV5⟩ := named (w5.alloc (.cells #[.slice A5 D.secs.length c5, .slice B5 D.pend.length e5, .bool D.off, .int .i64 D.fuse] 28))
  obtain ⟨N5, HN5⟩ := named w5.heap.size
  rw [← HN5.out] at Bb ⊢
  rw [← HV5.out] at Bb Bd Bg ka kb km kx ky Be hb ⊢
  clear HV5 HN5
  go_wp2_with fail
  refine region_flat _ (fun u => Box u w.heap.size A1 c1 A2 c2 d ∧ Box u N1 A3 c3 B3 e3 d ∧ Box u N4 A4 c4 B4 e4 D ∧ Box u N5 A5 c5 B5 e5 D ∧ Blk u (w.heap.size + 1) [.int .i64 fa, .int .i64 sa] 33 ∧ Blk u (w.heap.size + 1 + 1) [.int .i64 fb, .int .i64 sb] 33 ∧ Blk u N2 [.int .u64 (x1 : Int), .string S1] 36 ∧ Blk u N3 [.int .u64 (x1 : Int), .string S1] 36 ∧ Below w.heap.size w u) (fun u u' => Below u.heap.size u u')
    (rel [fun v _ => v = .bool true,
      fun v _ => v = .bool true,
      fun v _ => v = .agg #[.int .u64 (x1 : Int), .string S1],
      fun v _ => v = .agg #[.int .u64 (x1 : Int), .string S1],
      fun v _ => v = .bool true,
      fun v _ => v = .bool true,
      fun v _ => v = .bool true,
      fun v _ => v = .int .i64 (K1 : Int),
      fun v _ => v = .int .i64 (K1 : Int),
      fun v _ => v = .bool true,
      fun v _ => v = .bool true,
      fun v _ => v = .bool true,
      fun v _ => v = .int .i64 E1,
      fun v _ => v = .int .i64 E1,
      fun v _ => v = .bool true,
      fun v _ => v = .bool true,
      fun v _ => v = .bool true,
      fun v _ => v = .agg #[.slice A4 D.secs.length c4, .slice B4 D.pend.length e4, .bool D.off, .int .i64 D.fuse],
      fun v _ => v = .agg #[.slice A5 D.secs.length c5, .slice B5 D.pend.length e5, .bool D.off, .int .i64 D.fuse],
      fun v _ => v = .bool true,
      fun v _ => v = .bool true,
      fun v _ => v = .bool true,
      fun v _ => v = .int .i64 E,
      fun v _ => v = .int .i64 E,
      fun v _ => v = .bool true,
      fun v _ => v = .bool true,
      fun v _ => v = .bool true,
      fun v _ => v = .agg #[.slice A3 d.secs.length c3, .slice B3 d.pend.length e3, .bool d.off, .int .i64 d.fuse],
      fun v _ => v = .agg #[.int .i64 fa, .int .i64 sa],
      fun v _ => v = .agg #[.int .i64 fb, .int .i64 sb],
      fun v _ => v = .int .i64 X,
      fun v _ => v = .agg #[.slice A1 d.secs.length c1, .slice A2 d.pend.length c2, .bool d.off, .int .i64 d.fuse],
      fun v _ => v = .agg #[.int .i64 fa, .int .i64 sa],
      fun v _ => v = .agg #[.int .i64 fb, .int .i64 sb],
      fun v _ => v = .int .i64 X,
      fun v _ => v = .bool true,
      fun v _ => v = .bool true,
      fun v _ => v = .bool true,
      fun v _ => v = .agg #[.slice A3 d.secs.length c3, .slice B3 d.pend.length e3, .bool d.off, .int .i64 d.fuse],
      fun v _ => v = .agg #[.slice A1 d.secs.length c1, .slice A2 d.pend.length c2, .bool d.off, .int .i64 d.fuse],
      fun v _ => v = .bool true,
      fun v _ => v = .bool true,
      fun v _ => v = .bool true])
    (by kernel_rfl) (by kernel_rfl) (fun v => by simp only [putsV, Act.put, List.toList_toArray, List.setIfInBounds_toArray, List.set_cons_zero, List.set_cons_succ, Nat.reduceAdd, Nat.zero_add]; rfl) ?_ ⟨⟨Bd.blk, Bd.tx, Bd.wr, Bd.l1, Bd.l2, Bd.f1, Bd.f2⟩, ⟨Bg.blk, Bg.tx, Bg.wr, Bg.l1, Bg.l2, Bg.f1, Bg.f2⟩, ⟨Be.blk, Be.tx, Be.wr, Be.l1, Be.l2, Be.f1, Be.f2⟩, ⟨Bb.blk, Bb.tx, Bb.wr, Bb.l1, Bb.l2, Bb.f1, Bb.f2⟩, ka, kb, kx, ky, hb.drew⟩ ?_ ?_
  · intro j x u u' hb h
    match j with
    | 0 => exact h
    | 1 => exact h
    | 2 => exact h
    | 3 => exact h
    | 4 => exact h
    | 5 => exact h
    | 6 => exact h
    | 7 => exact h
    | 8 => exact h
    | 9 => exact h
    | 10 => exact h
    | 11 => exact h
    | 12 => exact h
    | 13 => exact h
    | 14 => exact h
    | 15 => exact h
    | 16 => exact h
    | 17 => exact h
    | 18 => exact h
    | 19 => exact h
    | 20 => exact h
    | 21 => exact h
    | 22 => exact h
    | 23 => exact h
    | 24 => exact h
    | 25 => exact h
    | 26 => exact h
    | 27 => exact h
    | 28 => exact h
    | 29 => exact h
    | 30 => exact h
    | 31 => exact h
    | 32 => exact h
    | 33 => exact h
    | 34 => exact h
    | 35 => exact h
    | 36 => exact h
    | 37 => exact h
    | 38 => exact h
    | 39 => exact h
    | 40 => exact h
    | 41 => exact h
    | 42 => exact h
    | _ + 43 => trivial
  · refine ⟨?_, ?_, ?_, ?_, ?_, ?_, ?_, ?_, ?_, ?_, ?_, ?_, ?_, ?_, ?_, ?_, ?_, ?_, ?_, ?_, ?_, ?_, ?_, ?_, ?_, ?_, ?_, ?_, ?_, ?_, ?_, ?_, ?_, ?_, ?_, ?_, ?_, ?_, ?_, ?_, ?_, ?_, ?_, trivial⟩
    · intro v u hS hd K' hK
      simp only [waited, List.toList_toArray, Region.binds, rel, List.getD_cons_zero, List.getD_cons_succ, true_imp_iff, and_true] at hd
      simp only [rel, List.getD_cons_zero, List.getD_cons_succ, Act.put, List.setIfInBounds_toArray, List.set_cons_zero, List.set_cons_succ] at hK
      try simp only [hd] at hK
      obtain ⟨hS1, hS2, hS3, hS4, hS5, hS6, hS7, hS8, hS9⟩ := hS
      go_simp
      refine (lives5_w _).mono ?_
      rintro e w2 ⟨rfl, hb2⟩
      exact hK.out _ _ ⟨⟨hS1.below hb2, hS2.below hb2, hS3.below hb2, hS4.below hb2, hS5.below hb2, hS6.below hb2, hS7.below hb2, hS8.below hb2, bt hS9 hb2⟩, hb2, rfl⟩
    · intro v u hS hd K' hK
      simp only [waited, List.toList_toArray, Region.binds, rel, List.getD_cons_zero, List.getD_cons_succ, true_imp_iff, and_true] at hd
      simp only [rel, List.getD_cons_zero, List.getD_cons_succ, Act.put, List.setIfInBounds_toArray, List.set_cons_zero, List.set_cons_succ] at hK
      try simp only [hd] at hK
      obtain ⟨hS1, hS2, hS3, hS4, hS5, hS6, hS7, hS8, hS9⟩ := hS
      go_simp
      exact hK.out _ _ ⟨⟨hS1, hS2, hS3, hS4, hS5, hS6, hS7, hS8, hS9⟩, Below.refl _ _, rfl⟩
    · intro v u hS hd K' hK
      simp only [waited, List.toList_toArray, Region.binds, rel, List.getD_cons_zero, List.getD_cons_succ, true_imp_iff, and_true] at hd
      simp only [rel, List.getD_cons_zero, List.getD_cons_succ, Act.put, List.setIfInBounds_toArray, List.set_cons_zero, List.set_cons_succ] at hK
      try simp only [hd] at hK
      obtain ⟨hS1, hS2, hS3, hS4, hS5, hS6, hS7, hS8, hS9⟩ := hS
      have x0 := hS7.cell
      go_simp
      exact hK.out _ _ ⟨⟨hS1, hS2, hS3, hS4, hS5, hS6, hS7, hS8, hS9⟩, Below.refl _ _, rfl⟩
    · intro v u hS hd K' hK
      simp only [waited, List.toList_toArray, Region.binds, rel, List.getD_cons_zero, List.getD_cons_succ, true_imp_iff, and_true] at hd
      simp only [rel, List.getD_cons_zero, List.getD_cons_succ, Act.put, List.setIfInBounds_toArray, List.set_cons_zero, List.set_cons_succ] at hK
      try simp only [hd] at hK
      obtain ⟨hS1, hS2, hS3, hS4, hS5, hS6, hS7, hS8, hS9⟩ := hS
      have x0 := hS8.cell
      go_simp
      exact hK.out _ _ ⟨⟨hS1, hS2, hS3, hS4, hS5, hS6, hS7, hS8, hS9⟩, Below.refl _ _, rfl⟩
    · intro v u hS hd K' hK
      simp only [waited, List.toList_toArray, Region.binds, rel, List.getD_cons_zero, List.getD_cons_succ, true_imp_iff, and_true] at hd
      simp only [rel, List.getD_cons_zero, List.getD_cons_succ, Act.put, List.setIfInBounds_toArray, List.set_cons_zero, List.set_cons_succ] at hK
      try simp only [hd] at hK
      obtain ⟨hS1, hS2, hS3, hS4, hS5, hS6, hS7, hS8, hS9⟩ := hS
      go_simp
      exact hK.out _ _ ⟨⟨hS1, hS2, hS3, hS4, hS5, hS6, hS7, hS8, hS9⟩, Below.refl _ _, rfl⟩
    · intro v u hS hd K' hK
      simp only [waited, List.toList_toArray, Region.binds, rel, List.getD_cons_zero, List.getD_cons_succ, true_imp_iff, and_true] at hd
      simp only [rel, List.getD_cons_zero, List.getD_cons_succ, Act.put, List.setIfInBounds_toArray, List.set_cons_zero, List.set_cons_succ] at hK
      try simp only [hd] at hK
      obtain ⟨hS1, hS2, hS3, hS4, hS5, hS6, hS7, hS8, hS9⟩ := hS
      go_simp
      exact hK.out _ _ ⟨⟨hS1, hS2, hS3, hS4, hS5, hS6, hS7, hS8, hS9⟩, Below.refl _ _, rfl⟩
    · intro v u hS hd K' hK
      simp only [waited, List.toList_toArray, Region.binds, rel, List.getD_cons_zero, List.getD_cons_succ, true_imp_iff, and_true] at hd
      simp only [rel, List.getD_cons_zero, List.getD_cons_succ, Act.put, List.setIfInBounds_toArray, List.set_cons_zero, List.set_cons_succ] at hK
      try simp only [hd] at hK
      obtain ⟨hS1, hS2, hS3, hS4, hS5, hS6, hS7, hS8, hS9⟩ := hS
      go_simp
      exact hK.out _ _ ⟨⟨hS1, hS2, hS3, hS4, hS5, hS6, hS7, hS8, hS9⟩, Below.refl _ _, rfl⟩
    · intro v u hS hd K' hK
      simp only [waited, List.toList_toArray, Region.binds, rel, List.getD_cons_zero, List.getD_cons_succ, true_imp_iff, and_true] at hd
      simp only [rel, List.getD_cons_zero, List.getD_cons_succ, Act.put, List.setIfInBounds_toArray, List.set_cons_zero, List.set_cons_succ] at hK
      try simp only [hd] at hK
      obtain ⟨hS1, hS2, hS3, hS4, hS5, hS6, hS7, hS8, hS9⟩ := hS
      go_simp
      exact hK.out _ _ ⟨⟨hS1, hS2, hS3, hS4, hS5, hS6, hS7, hS8, hS9⟩, Below.refl _ _, rfl⟩
    · intro v u hS hd K' hK
      simp only [waited, List.toList_toArray, Region.binds, rel, List.getD_cons_zero, List.getD_cons_succ, true_imp_iff, and_true] at hd
      simp only [rel, List.getD_cons_zero, List.getD_cons_succ, Act.put, List.setIfInBounds_toArray, List.set_cons_zero, List.set_cons_succ] at hK
      try simp only [hd] at hK
      obtain ⟨hS1, hS2, hS3, hS4, hS5, hS6, hS7, hS8, hS9⟩ := hS
      go_simp
      exact hK.out _ _ ⟨⟨hS1, hS2, hS3, hS4, hS5, hS6, hS7, hS8, hS9⟩, Below.refl _ _, rfl⟩
    · intro v u hS hd K' hK
      simp only [waited, List.toList_toArray, Region.binds, rel, List.getD_cons_zero, List.getD_cons_succ, true_imp_iff, and_true] at hd
      simp only [rel, List.getD_cons_zero, List.getD_cons_succ, Act.put, List.setIfInBounds_toArray, List.set_cons_zero, List.set_cons_succ] at hK
      try simp only [hd] at hK
      obtain ⟨hS1, hS2, hS3, hS4, hS5, hS6, hS7, hS8, hS9⟩ := hS
      go_simp
      exact hK.out _ _ ⟨⟨hS1, hS2, hS3, hS4, hS5, hS6, hS7, hS8, hS9⟩, Below.refl _ _, rfl⟩
    · intro v u hS hd K' hK
      simp only [waited, List.toList_toArray, Region.binds, rel, List.getD_cons_zero, List.getD_cons_succ, true_imp_iff, and_true] at hd
      simp only [rel, List.getD_cons_zero, List.getD_cons_succ, Act.put, List.setIfInBounds_toArray, List.set_cons_zero, List.set_cons_succ] at hK
      try simp only [hd] at hK
      obtain ⟨hS1, hS2, hS3, hS4, hS5, hS6, hS7, hS8, hS9⟩ := hS
      go_simp
      exact hK.out _ _ ⟨⟨hS1, hS2, hS3, hS4, hS5, hS6, hS7, hS8, hS9⟩, Below.refl _ _, rfl⟩
    · intro v u hS hd K' hK
      simp only [waited, List.toList_toArray, Region.binds, rel, List.getD_cons_zero, List.getD_cons_succ, true_imp_iff, and_true] at hd
      simp only [rel, List.getD_cons_zero, List.getD_cons_succ, Act.put, List.setIfInBounds_toArray, List.set_cons_zero, List.set_cons_succ] at hK
      try simp only [hd] at hK
      obtain ⟨hS1, hS2, hS3, hS4, hS5, hS6, hS7, hS8, hS9⟩ := hS
      go_simp
      exact hK.out _ _ ⟨⟨hS1, hS2, hS3, hS4, hS5, hS6, hS7, hS8, hS9⟩, Below.refl _ _, rfl⟩
    · intro v u hS hd K' hK
      simp only [waited, List.toList_toArray, Region.binds, rel, List.getD_cons_zero, List.getD_cons_succ, true_imp_iff, and_true] at hd
      simp only [rel, List.getD_cons_zero, List.getD_cons_succ, Act.put, List.setIfInBounds_toArray, List.set_cons_zero, List.set_cons_succ] at hK
      try simp only [hd] at hK
      obtain ⟨hS1, hS2, hS3, hS4, hS5, hS6, hS7, hS8, hS9⟩ := hS
      go_simp
      exact hK.out _ _ ⟨⟨hS1, hS2, hS3, hS4, hS5, hS6, hS7, hS8, hS9⟩, Below.refl _ _, rfl⟩
    · intro v u hS hd K' hK
      simp only [waited, List.toList_toArray, Region.binds, rel, List.getD_cons_zero, List.getD_cons_succ, true_imp_iff, and_true] at hd
      simp only [rel, List.getD_cons_zero, List.getD_cons_succ, Act.put, List.setIfInBounds_toArray, List.set_cons_zero, List.set_cons_succ] at hK
      try simp only [hd] at hK
      obtain ⟨hS1, hS2, hS3, hS4, hS5, hS6, hS7, hS8, hS9⟩ := hS
      go_simp
      exact hK.out _ _ ⟨⟨hS1, hS2, hS3, hS4, hS5, hS6, hS7, hS8, hS9⟩, Below.refl _ _, rfl⟩
    · intro v u hS hd K' hK
      simp only [waited, List.toList_toArray, Region.binds, rel, List.getD_cons_zero, List.getD_cons_succ, true_imp_iff, and_true] at hd
      simp only [rel, List.getD_cons_zero, List.getD_cons_succ, Act.put, List.setIfInBounds_toArray, List.set_cons_zero, List.set_cons_succ] at hK
      try simp only [hd] at hK
      obtain ⟨hS1, hS2, hS3, hS4, hS5, hS6, hS7, hS8, hS9⟩ := hS
      go_simp
      exact hK.out _ _ ⟨⟨hS1, hS2, hS3, hS4, hS5, hS6, hS7, hS8, hS9⟩, Below.refl _ _, rfl⟩
    · intro v u hS hd K' hK
      simp only [waited, List.toList_toArray, Region.binds, rel, List.getD_cons_zero, List.getD_cons_succ, true_imp_iff, and_true] at hd
      simp only [rel, List.getD_cons_zero, List.getD_cons_succ, Act.put, List.setIfInBounds_toArray, List.set_cons_zero, List.set_cons_succ] at hK
      try simp only [hd] at hK
      obtain ⟨hS1, hS2, hS3, hS4, hS5, hS6, hS7, hS8, hS9⟩ := hS
      go_simp
      exact hK.out _ _ ⟨⟨hS1, hS2, hS3, hS4, hS5, hS6, hS7, hS8, hS9⟩, Below.refl _ _, rfl⟩
    · intro v u hS hd K' hK
      simp only [waited, List.toList_toArray, Region.binds, rel, List.getD_cons_zero, List.getD_cons_succ, true_imp_iff, and_true] at hd
      simp only [rel, List.getD_cons_zero, List.getD_cons_succ, Act.put, List.setIfInBounds_toArray, List.set_cons_zero, List.set_cons_succ] at hK
      try simp only [hd] at hK
      obtain ⟨hS1, hS2, hS3, hS4, hS5, hS6, hS7, hS8, hS9⟩ := hS
      go_simp
      exact hK.out _ _ ⟨⟨hS1, hS2, hS3, hS4, hS5, hS6, hS7, hS8, hS9⟩, Below.refl _ _, rfl⟩
    · intro v u hS hd K' hK
      simp only [waited, List.toList_toArray, Region.binds, rel, List.getD_cons_zero, List.getD_cons_succ, true_imp_iff, and_true] at hd
      simp only [rel, List.getD_cons_zero, List.getD_cons_succ, Act.put, List.setIfInBounds_toArray, List.set_cons_zero, List.set_cons_succ] at hK
      try simp only [hd] at hK
      obtain ⟨hS1, hS2, hS3, hS4, hS5, hS6, hS7, hS8, hS9⟩ := hS
      have x0 := hS3.blk.cell
      go_simp
      exact hK.out _ _ ⟨⟨hS1, hS2, hS3, hS4, hS5, hS6, hS7, hS8, hS9⟩, Below.refl _ _, rfl⟩
    · intro v u hS hd K' hK
      simp only [waited, List.toList_toArray, Region.binds, rel, List.getD_cons_zero, List.getD_cons_succ, true_imp_iff, and_true] at hd
      simp only [rel, List.getD_cons_zero, List.getD_cons_succ, Act.put, List.setIfInBounds_toArray, List.set_cons_zero, List.set_cons_succ] at hK
      try simp only [hd] at hK
      obtain ⟨hS1, hS2, hS3, hS4, hS5, hS6, hS7, hS8, hS9⟩ := hS
      have x0 := hS4.blk.cell
      go_simp
      exact hK.out _ _ ⟨⟨hS1, hS2, hS3, hS4, hS5, hS6, hS7, hS8, hS9⟩, Below.refl _ _, rfl⟩
    · intro v u hS hd K' hK
      simp only [waited, List.toList_toArray, Region.binds, rel, List.getD_cons_zero, List.getD_cons_succ, true_imp_iff, and_true] at hd
      simp only [rel, List.getD_cons_zero, List.getD_cons_succ, Act.put, List.setIfInBounds_toArray, List.set_cons_zero, List.set_cons_succ] at hK
      try simp only [hd] at hK
      obtain ⟨hS1, hS2, hS3, hS4, hS5, hS6, hS7, hS8, hS9⟩ := hS
      go_simp
      refine (refSame_w _ _ D _ hS3.is hS4.is).mono ?_
      rintro e w2 ⟨rfl, hb2⟩
      exact hK.out _ _ ⟨⟨hS1.below hb2, hS2.below hb2, hS3.below hb2, hS4.below hb2, hS5.below hb2, hS6.below hb2, hS7.below hb2, hS8.below hb2, bt hS9 hb2⟩, hb2, rfl⟩
    · intro v u hS hd K' hK
      simp only [waited, List.toList_toArray, Region.binds, rel, List.getD_cons_zero, List.getD_cons_succ, true_imp_iff, and_true] at hd
      simp only [rel, List.getD_cons_zero, List.getD_cons_succ, Act.put, List.setIfInBounds_toArray, List.set_cons_zero, List.set_cons_succ] at hK
      try simp only [hd] at hK
      obtain ⟨hS1, hS2, hS3, hS4, hS5, hS6, hS7, hS8, hS9⟩ := hS
      go_simp
      exact hK.out _ _ ⟨⟨hS1, hS2, hS3, hS4, hS5, hS6, hS7, hS8, hS9⟩, Below.refl _ _, rfl⟩
    · intro v u hS hd K' hK
      simp only [waited, List.toList_toArray, Region.binds, rel, List.getD_cons_zero, List.getD_cons_succ, true_imp_iff, and_true] at hd
      simp only [rel, List.getD_cons_zero, List.getD_cons_succ, Act.put, List.setIfInBounds_toArray, List.set_cons_zero, List.set_cons_succ] at hK
      try simp only [hd] at hK
      obtain ⟨hS1, hS2, hS3, hS4, hS5, hS6, hS7, hS8, hS9⟩ := hS
      go_simp
      exact hK.out _ _ ⟨⟨hS1, hS2, hS3, hS4, hS5, hS6, hS7, hS8, hS9⟩, Below.refl _ _, rfl⟩
    · intro v u hS hd K' hK
      simp only [waited, List.toList_toArray, Region.binds, rel, List.getD_cons_zero, List.getD_cons_succ, true_imp_iff, and_true] at hd
      simp only [rel, List.getD_cons_zero, List.getD_cons_succ, Act.put, List.setIfInBounds_toArray, List.set_cons_zero, List.set_cons_succ] at hK
      try simp only [hd] at hK
      obtain ⟨hS1, hS2, hS3, hS4, hS5, hS6, hS7, hS8, hS9⟩ := hS
      go_simp
      exact hK.out _ _ ⟨⟨hS1, hS2, hS3, hS4, hS5, hS6, hS7, hS8, hS9⟩, Below.refl _ _, rfl⟩
    · intro v u hS hd K' hK
      simp only [waited, List.toList_toArray, Region.binds, rel, List.getD_cons_zero, List.getD_cons_succ, true_imp_iff, and_true] at hd
      simp only [rel, List.getD_cons_zero, List.getD_cons_succ, Act.put, List.setIfInBounds_toArray, List.set_cons_zero, List.set_cons_succ] at hK
      try simp only [hd] at hK
      obtain ⟨hS1, hS2, hS3, hS4, hS5, hS6, hS7, hS8, hS9⟩ := hS
      go_simp
      exact hK.out _ _ ⟨⟨hS1, hS2, hS3, hS4, hS5, hS6, hS7, hS8, hS9⟩, Below.refl _ _, rfl⟩
    · intro v u hS hd K' hK
      simp only [waited, List.toList_toArray, Region.binds, rel, List.getD_cons_zero, List.getD_cons_succ, true_imp_iff, and_true] at hd
      simp only [rel, List.getD_cons_zero, List.getD_cons_succ, Act.put, List.setIfInBounds_toArray, List.set_cons_zero, List.set_cons_succ] at hK
      try simp only [hd] at hK
      obtain ⟨hS1, hS2, hS3, hS4, hS5, hS6, hS7, hS8, hS9⟩ := hS
      go_simp
      exact hK.out _ _ ⟨⟨hS1, hS2, hS3, hS4, hS5, hS6, hS7, hS8, hS9⟩, Below.refl _ _, rfl⟩
    · intro v u hS hd K' hK
      simp only [waited, List.toList_toArray, Region.binds, rel, List.getD_cons_zero, List.getD_cons_succ, true_imp_iff, and_true] at hd
      simp only [rel, List.getD_cons_zero, List.getD_cons_succ, Act.put, List.setIfInBounds_toArray, List.set_cons_zero, List.set_cons_succ] at hK
      try simp only [hd] at hK
      obtain ⟨hS1, hS2, hS3, hS4, hS5, hS6, hS7, hS8, hS9⟩ := hS
      go_simp
      exact hK.out _ _ ⟨⟨hS1, hS2, hS3, hS4, hS5, hS6, hS7, hS8, hS9⟩, Below.refl _ _, rfl⟩
    · intro v u hS hd K' hK
      simp only [waited, List.toList_toArray, Region.binds, rel, List.getD_cons_zero, List.getD_cons_succ, true_imp_iff, and_true] at hd
      simp only [rel, List.getD_cons_zero, List.getD_cons_succ, Act.put, List.setIfInBounds_toArray, List.set_cons_zero, List.set_cons_succ] at hK
      try simp only [hd] at hK
      obtain ⟨hS1, hS2, hS3, hS4, hS5, hS6, hS7, hS8, hS9⟩ := hS
      go_simp
      exact hK.out _ _ ⟨⟨hS1, hS2, hS3, hS4, hS5, hS6, hS7, hS8, hS9⟩, Below.refl _ _, rfl⟩
    · intro v u hS hd K' hK
      simp only [waited, List.toList_toArray, Region.binds, rel, List.getD_cons_zero, List.getD_cons_succ, true_imp_iff, and_true] at hd
      simp only [rel, List.getD_cons_zero, List.getD_cons_succ, Act.put, List.setIfInBounds_toArray, List.set_cons_zero, List.set_cons_succ] at hK
      try simp only [hd] at hK
      obtain ⟨hS1, hS2, hS3, hS4, hS5, hS6, hS7, hS8, hS9⟩ := hS
      have x0 := hS2.blk.cell
      go_simp
      exact hK.out _ _ ⟨⟨hS1, hS2, hS3, hS4, hS5, hS6, hS7, hS8, hS9⟩, Below.refl _ _, rfl⟩
    · intro v u hS hd K' hK
      simp only [waited, List.toList_toArray, Region.binds, rel, List.getD_cons_zero, List.getD_cons_succ, true_imp_iff, and_true] at hd
      simp only [rel, List.getD_cons_zero, List.getD_cons_succ, Act.put, List.setIfInBounds_toArray, List.set_cons_zero, List.set_cons_succ] at hK
      try simp only [hd] at hK
      obtain ⟨hS1, hS2, hS3, hS4, hS5, hS6, hS7, hS8, hS9⟩ := hS
      have x0 := hS5.cell
      go_simp
      exact hK.out _ _ ⟨⟨hS1, hS2, hS3, hS4, hS5, hS6, hS7, hS8, hS9⟩, Below.refl _ _, rfl⟩
    · intro v u hS hd K' hK
      simp only [waited, List.toList_toArray, Region.binds, rel, List.getD_cons_zero, List.getD_cons_succ, true_imp_iff, and_true] at hd
      simp only [rel, List.getD_cons_zero, List.getD_cons_succ, Act.put, List.setIfInBounds_toArray, List.set_cons_zero, List.set_cons_succ] at hK
      try simp only [hd] at hK
      obtain ⟨hS1, hS2, hS3, hS4, hS5, hS6, hS7, hS8, hS9⟩ := hS
      have x0 := hS6.cell
      go_simp
      exact hK.out _ _ ⟨⟨hS1, hS2, hS3, hS4, hS5, hS6, hS7, hS8, hS9⟩, Below.refl _ _, rfl⟩
    · intro v u hS hd K' hK
      simp only [waited, List.toList_toArray, Region.binds, rel, List.getD_cons_zero, List.getD_cons_succ, true_imp_iff, and_true] at hd
      simp only [rel, List.getD_cons_zero, List.getD_cons_succ, Act.put, List.setIfInBounds_toArray, List.set_cons_zero, List.set_cons_succ] at hK
      try simp only [hd] at hK
      obtain ⟨hS1, hS2, hS3, hS4, hS5, hS6, hS7, hS8, hS9⟩ := hS
      go_simp
      refine (hy5 _ _ hS2.is).mono ?_
      rintro e w2 ⟨rfl, hb2⟩
      exact hK.out _ _ ⟨⟨hS1.below hb2, hS2.below hb2, hS3.below hb2, hS4.below hb2, hS5.below hb2, hS6.below hb2, hS7.below hb2, hS8.below hb2, bt hS9 hb2⟩, hb2, rfl⟩
    · intro v u hS hd K' hK
      simp only [waited, List.toList_toArray, Region.binds, rel, List.getD_cons_zero, List.getD_cons_succ, true_imp_iff, and_true] at hd
      simp only [rel, List.getD_cons_zero, List.getD_cons_succ, Act.put, List.setIfInBounds_toArray, List.set_cons_zero, List.set_cons_succ] at hK
      try simp only [hd] at hK
      obtain ⟨hS1, hS2, hS3, hS4, hS5, hS6, hS7, hS8, hS9⟩ := hS
      have x0 := hS1.blk.cell
      go_simp
      exact hK.out _ _ ⟨⟨hS1, hS2, hS3, hS4, hS5, hS6, hS7, hS8, hS9⟩, Below.refl _ _, rfl⟩
    · intro v u hS hd K' hK
      simp only [waited, List.toList_toArray, Region.binds, rel, List.getD_cons_zero, List.getD_cons_succ, true_imp_iff, and_true] at hd
      simp only [rel, List.getD_cons_zero, List.getD_cons_succ, Act.put, List.setIfInBounds_toArray, List.set_cons_zero, List.set_cons_succ] at hK
      try simp only [hd] at hK
      obtain ⟨hS1, hS2, hS3, hS4, hS5, hS6, hS7, hS8, hS9⟩ := hS
      have x0 := hS5.cell
      go_simp
      exact hK.out _ _ ⟨⟨hS1, hS2, hS3, hS4, hS5, hS6, hS7, hS8, hS9⟩, Below.refl _ _, rfl⟩
    · intro v u hS hd K' hK
      simp only [waited, List.toList_toArray, Region.binds, rel, List.getD_cons_zero, List.getD_cons_succ, true_imp_iff, and_true] at hd
      simp only [rel, List.getD_cons_zero, List.getD_cons_succ, Act.put, List.setIfInBounds_toArray, List.set_cons_zero, List.set_cons_succ] at hK
      try simp only [hd] at hK
      obtain ⟨hS1, hS2, hS3, hS4, hS5, hS6, hS7, hS8, hS9⟩ := hS
      have x0 := hS6.cell
      go_simp
      exact hK.out _ _ ⟨⟨hS1, hS2, hS3, hS4, hS5, hS6, hS7, hS8, hS9⟩, Below.refl _ _, rfl⟩
    · intro v u hS hd K' hK
      simp only [waited, List.toList_toArray, Region.binds, rel, List.getD_cons_zero, List.getD_cons_succ, true_imp_iff, and_true] at hd
      simp only [rel, List.getD_cons_zero, List.getD_cons_succ, Act.put, List.setIfInBounds_toArray, List.set_cons_zero, List.set_cons_succ] at hK
      try simp only [hd] at hK
      obtain ⟨hS1, hS2, hS3, hS4, hS5, hS6, hS7, hS8, hS9⟩ := hS
      go_simp
      refine (hy6 _ _ hS1.is).mono ?_
      rintro e w2 ⟨rfl, hb2⟩
      exact hK.out _ _ ⟨⟨hS1.below hb2, hS2.below hb2, hS3.below hb2, hS4.below hb2, hS5.below hb2, hS6.below hb2, hS7.below hb2, hS8.below hb2, bt hS9 hb2⟩, hb2, rfl⟩
    · intro v u hS hd K' hK
      simp only [waited, List.toList_toArray, Region.binds, rel, List.getD_cons_zero, List.getD_cons_succ, true_imp_iff, and_true] at hd
      simp only [rel, List.getD_cons_zero, List.getD_cons_succ, Act.put, List.setIfInBounds_toArray, List.set_cons_zero, List.set_cons_succ] at hK
      try simp only [hd] at hK
      obtain ⟨hS1, hS2, hS3, hS4, hS5, hS6, hS7, hS8, hS9⟩ := hS
      go_simp
      exact hK.out _ _ ⟨⟨hS1, hS2, hS3, hS4, hS5, hS6, hS7, hS8, hS9⟩, Below.refl _ _, rfl⟩
    · intro v u hS hd K' hK
      simp only [waited, List.toList_toArray, Region.binds, rel, List.getD_cons_zero, List.getD_cons_succ, true_imp_iff, and_true] at hd
      simp only [rel, List.getD_cons_zero, List.getD_cons_succ, Act.put, List.setIfInBounds_toArray, List.set_cons_zero, List.set_cons_succ] at hK
      try simp only [hd] at hK
      obtain ⟨hS1, hS2, hS3, hS4, hS5, hS6, hS7, hS8, hS9⟩ := hS
      go_simp
      exact hK.out _ _ ⟨⟨hS1, hS2, hS3, hS4, hS5, hS6, hS7, hS8, hS9⟩, Below.refl _ _, rfl⟩
    · intro v u hS hd K' hK
      simp only [waited, List.toList_toArray, Region.binds, rel, List.getD_cons_zero, List.getD_cons_succ, true_imp_iff, and_true] at hd
      simp only [rel, List.getD_cons_zero, List.getD_cons_succ, Act.put, List.setIfInBounds_toArray, List.set_cons_zero, List.set_cons_succ] at hK
      try simp only [hd] at hK
      obtain ⟨hS1, hS2, hS3, hS4, hS5, hS6, hS7, hS8, hS9⟩ := hS
      go_simp
      exact hK.out _ _ ⟨⟨hS1, hS2, hS3, hS4, hS5, hS6, hS7, hS8, hS9⟩, Below.refl _ _, rfl⟩
    · intro v u hS hd K' hK
      simp only [waited, List.toList_toArray, Region.binds, rel, List.getD_cons_zero, List.getD_cons_succ, true_imp_iff, and_true] at hd
      simp only [rel, List.getD_cons_zero, List.getD_cons_succ, Act.put, List.setIfInBounds_toArray, List.set_cons_zero, List.set_cons_succ] at hK
      try simp only [hd] at hK
      obtain ⟨hS1, hS2, hS3, hS4, hS5, hS6, hS7, hS8, hS9⟩ := hS
      have x0 := hS2.blk.cell
      go_simp
      exact hK.out _ _ ⟨⟨hS1, hS2, hS3, hS4, hS5, hS6, hS7, hS8, hS9⟩, Below.refl _ _, rfl⟩
    · intro v u hS hd K' hK
      simp only [waited, List.toList_toArray, Region.binds, rel, List.getD_cons_zero, List.getD_cons_succ, true_imp_iff, and_true] at hd
      simp only [rel, List.getD_cons_zero, List.getD_cons_succ, Act.put, List.setIfInBounds_toArray, List.set_cons_zero, List.set_cons_succ] at hK
      try simp only [hd] at hK
      obtain ⟨hS1, hS2, hS3, hS4, hS5, hS6, hS7, hS8, hS9⟩ := hS
      have x0 := hS1.blk.cell
      go_simp
      exact hK.out _ _ ⟨⟨hS1, hS2, hS3, hS4, hS5, hS6, hS7, hS8, hS9⟩, Below.refl _ _, rfl⟩
    · intro v u hS hd K' hK
      simp only [waited, List.toList_toArray, Region.binds, rel, List.getD_cons_zero, List.getD_cons_succ, true_imp_iff, and_true] at hd
      simp only [rel, List.getD_cons_zero, List.getD_cons_succ, Act.put, List.setIfInBounds_toArray, List.set_cons_zero, List.set_cons_succ] at hK
      try simp only [hd] at hK
      obtain ⟨hS1, hS2, hS3, hS4, hS5, hS6, hS7, hS8, hS9⟩ := hS
      go_simp
      refine (refSame_w _ _ d _ hS2.is hS1.is).mono ?_
      rintro e w2 ⟨rfl, hb2⟩
      exact hK.out _ _ ⟨⟨hS1.below hb2, hS2.below hb2, hS3.below hb2, hS4.below hb2, hS5.below hb2, hS6.below hb2, hS7.below hb2, hS8.below hb2, bt hS9 hb2⟩, hb2, rfl⟩
    · intro v u hS hd K' hK
      simp only [waited, List.toList_toArray, Region.binds, rel, List.getD_cons_zero, List.getD_cons_succ, true_imp_iff, and_true] at hd
      simp only [rel, List.getD_cons_zero, List.getD_cons_succ, Act.put, List.setIfInBounds_toArray, List.set_cons_zero, List.set_cons_succ] at hK
      try simp only [hd] at hK
      obtain ⟨hS1, hS2, hS3, hS4, hS5, hS6, hS7, hS8, hS9⟩ := hS
      go_simp
      exact hK.out _ _ ⟨⟨hS1, hS2, hS3, hS4, hS5, hS6, hS7, hS8, hS9⟩, Below.refl _ _, rfl⟩
    · intro v u hS hd K' hK
      simp only [waited, List.toList_toArray, Region.binds, rel, List.getD_cons_zero, List.getD_cons_succ, true_imp_iff, and_true] at hd
      simp only [rel, List.getD_cons_zero, List.getD_cons_succ, Act.put, List.setIfInBounds_toArray, List.set_cons_zero, List.set_cons_succ] at hK
      try simp only [hd] at hK
      obtain ⟨hS1, hS2, hS3, hS4, hS5, hS6, hS7, hS8, hS9⟩ := hS
      go_simp
      exact hK.out _ _ ⟨⟨hS1, hS2, hS3, hS4, hS5, hS6, hS7, hS8, hS9⟩, Below.refl _ _, rfl⟩
  · rintro v u ⟨hS1, hS2, hS3, hS4, hS5, hS6, hS7, hS8, hS9⟩ hR
    simp only [holdAll, List.size_toArray, List.length_cons, List.length_nil, Nat.reduceAdd, rel, List.getD_cons_zero, List.getD_cons_succ] at hR
    simp only [hR]
    clear hR hy5 hy6
    go_wp2
    go_ret
    exact ⟨by simp, hS9⟩
end Go.Proofs.Ytpfbmmeipojodaa
