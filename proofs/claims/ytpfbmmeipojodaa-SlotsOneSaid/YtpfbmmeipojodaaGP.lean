/- Several small texts of this proof, one behind the other. -/
import Derived.Test.YtpfbmmeipojodaaGM
import Derived.Test.YtpfbmmeipojodaaSlSave
import Derived.Test.YtpfbmmeipojodaaGB
section
/- Laws of the slots, in plain Lean: named the other way round; what saving leaves. -/
namespace Go.Proofs.Ytpfbmmeipojodaa
open Go.RowKit
theorem sl_iff {d : Dk} {fa sa fb sb : Int} : slE d fa sa fb sb = 0 ↔ walE d fa sa = 0 ∧ walE d fb sb = 0 ∧ apart fa sa fb sb = true := by
  refine ⟨sl_zero, fun ⟨h1, h2, h3⟩ => ?_⟩
  unfold slE
  rw [if_neg (by simp [h1]), if_neg (by simp [h2]), if_pos h3]
theorem sl_turned {d : Dk} {fa sa fb sb : Int} (h : slE d fa sa fb sb = 0) : slE d fb sb fa sa = 0 := by
  obtain ⟨h1, h2, h3⟩ := sl_zero h
  have g1 := wal_zero h1
  have g2 := wal_zero h2
  refine sl_iff.2 ⟨h2, h1, ?_⟩
  rw [apart_iff g2.2.2.2.1 g1.2.2.2.1]
  rw [apart_iff g1.2.2.2.1 g2.2.2.2.1] at h3
  exact fun h => h3 ⟨h.2, h.1⟩
theorem best_turned (p q : Option Img) : ((best p q).2.2 = 0 → (best q p).2.2 = 0) ∧
    ((best p q).2.2 = 0 → ((best p q).2.1 = 0 ∧ (best q p).2.1 = 0 ∧ (best p q).1.ep = (best q p).1.ep) ∨ ((best p q).2.1 = 0 ∧ (best q p).2.1 = 1 ∧ (best p q).1 = (best q p).1) ∨ ((best p q).2.1 = 1 ∧ (best q p).2.1 = 0 ∧ (best p q).1 = (best q p).1)) := by
  cases p with
  | none => cases q with
    | none => simp [best]
    | some y => simp [best]
  | some x => cases q with
    | none => simp [best]
    | some y =>
      by_cases h1 : y.ep ≤ x.ep
      · by_cases h2 : x.ep ≤ y.ep
        · simp [best, h1, h2]; omega
        · simp [best, h1, h2]
      · have h2 : x.ep ≤ y.ep := by omega
        simp [best, h1, h2]
theorem load_err {d : Dk} {fa sa fb sb : Int} (h : (loadR d fa sa fb sb).2.2 = 0) : slE d fa sa fb sb = 0 ∧ d.off = false ∧ loadR d fa sa fb sb = best (imgOf d fa.toNat sa.toNat) (imgOf d fb.toNat sb.toNat) := by
  unfold loadR at h ⊢
  by_cases h1 : slE d fa sa fb sb = 0
  · rw [if_neg (by simp [h1])] at h ⊢
    by_cases h2 : d.off = true
    · rw [if_pos h2] at h; exact absurd h (by decide)
    · rw [if_neg h2]; exact ⟨h1, by simpa using h2, rfl⟩
  · rw [if_pos h1] at h; exact absurd h h1
theorem load_ok {d : Dk} {fa sa fb sb : Int} (h : slE d fa sa fb sb = 0) (ho : d.off = false) : loadR d fa sa fb sb = best (imgOf d fa.toNat sa.toNat) (imgOf d fb.toNat sb.toNat) := by
  unfold loadR
  rw [if_neg (by simp [h]), if_neg (by simp [ho])]
theorem turned_err {d : Dk} {fa sa fb sb : Int} (h : (loadR d fa sa fb sb).2.2 = 0) : (loadR d fb sb fa sa).2.2 = 0 := by
  obtain ⟨h1, h2, h3⟩ := load_err h
  rw [load_ok (sl_turned h1) h2]
  rw [h3] at h
  exact (best_turned _ _).1 h
theorem turned_law {d : Dk} {fa sa fb sb : Int} (h : (loadR d fa sa fb sb).2.2 = 0) : ((loadR d fa sa fb sb).2.1 = 0 ∧ (loadR d fb sb fa sa).2.1 = 0 ∧ (loadR d fa sa fb sb).1.ep = (loadR d fb sb fa sa).1.ep) ∨
    ((loadR d fa sa fb sb).2.1 = 0 ∧ (loadR d fb sb fa sa).2.1 = 1 ∧ (loadR d fa sa fb sb).1 = (loadR d fb sb fa sa).1) ∨ ((loadR d fa sa fb sb).2.1 = 1 ∧ (loadR d fb sb fa sa).2.1 = 0 ∧ (loadR d fa sa fb sb).1 = (loadR d fb sb fa sa).1) := by
  obtain ⟨h1, h2, h3⟩ := load_err h
  rw [load_ok (sl_turned h1) h2]
  rw [h3] at h ⊢
  exact (best_turned _ _).2 h
end Go.Proofs.Ytpfbmmeipojodaa
end
section
/- What chapter 05 asks for first: the walk. -/
namespace Go.Proofs.Ytpfbmmeipojodaa
set_option linter.unusedSimpArgs false
set_option linter.unusedVariables false
open Go.RowKit Go.Shelf
open Crc
def imA : Img := ⟨1, [120]⟩
def imB : Img := ⟨2, []⟩
theorem live5_on : SlOn (newD (4 : Nat)) 2 img0 1 := new_slots 2 (by omega) (by omega)
theorem live5_fuse : (newD (4 : Nat)).fuse = -1 := newD_fuse 4 (by omega) (by omega)
theorem live5_all : ∃ D1 D2, loadR (newD (4 : Nat)) 0 2 2 2 = (img0, 0, 9) ∧ saveR (newD (4 : Nat)) 0 2 2 2 imA = (D1, 0) ∧ loadR D1 0 2 2 2 = (imA, 0, 0) ∧ saveR D1 0 2 2 2 imB = (D2, 0) ∧ loadR D2 0 2 2 2 = (imB, 1, 0) := by
  have h := live5_on
  have hs := h.save (x := imA) (by decide)
  rw [if_neg (by decide), if_neg (by decide)] at hs
  obtain ⟨g1, g2, g3⟩ := h.calm live5_fuse (x := imA) (by decide) (by decide) (by decide) (by decide)
  rw [g1] at hs
  have ht := g2.save (x := imB) (by decide)
  rw [if_neg (by decide), if_neg (by decide)] at ht
  obtain ⟨e1, e2, e3⟩ := g2.calm g3 (x := imB) (by decide) (by decide) (by decide) (by decide)
  rw [e1] at ht
  exact ⟨_, _, h.load, hs, g2.load, ht, e2.load⟩
set_option maxRecDepth 100000 in
set_option maxHeartbeats 1000000 in
theorem lives5_w (w : World) : Calls Try.prog 17 #[] w fun e w' => e = .returned (.bool true) ∧ Below w.heap.size w w' := by
  have hnew := new_w 4 w (by decide)
  rw [show newE 4 = 0 by simp [newE]] at hnew
  obtain ⟨D1, D2, p1, p2, p3, p4, p5⟩ := live5_all
  have h1 := fun W v hv => load_w v (newD 4) 0 2 2 2 W hv (by omega) (by omega) (by omega) (by omega)
  have h2 := fun W v hv => save_w v (newD 4) 0 2 2 2 1 ⟨#[120]⟩ W hv (by omega) (by omega) (by omega) (by omega)
  have h3 := fun W v hv => load_w v D1 0 2 2 2 W hv (by omega) (by omega) (by omega) (by omega)
  have h4 := fun W v hv => save_w v D1 0 2 2 2 2 ⟨#[]⟩ W hv (by omega) (by omega) (by omega) (by omega)
  have h5 := fun W v hv => load_w v D2 0 2 2 2 W hv (by omega) (by omega) (by omega) (by omega)
  simp only [show loadR (newD 4) 0 2 2 2 = (img0, 0, 9) from p1, show loadVal (img0, 0, 9) = .tuple #[.agg #[.int .u64 0, .string ⟨#[]⟩], .int .i64 0, .int .i64 9] from rfl] at h1
  simp only [show saveR (newD 4) 0 2 2 2 ⟨1, (⟨#[120]⟩ : ByteArray).data.toList⟩ = (D1, 0) from p2] at h2
  simp only [p3, show loadVal (imA, 0, 0) = .tuple #[.agg #[.int .u64 1, .string ⟨#[120]⟩], .int .i64 0, .int .i64 0] from rfl] at h3
  simp only [show saveR D1 0 2 2 2 ⟨2, (⟨#[]⟩ : ByteArray).data.toList⟩ = (D2, 0) from p4] at h4
  simp only [p5, show loadVal (imB, 1, 0) = .tuple #[.agg #[.int .u64 2, .string ⟨#[]⟩], .int .i64 1, .int .i64 0] from rfl] at h5
  obtain ⟨D0, H0⟩ := named (newD 4)
  simp only [← H0.out] at hnew h1 h2
  clear p1 p2 p3 p4 p5 H0
  go_enter Try.func17, Try.ntmps17
  go_wp2_with fail
  refine hnew.mono ?_
  rintro e w1 ⟨v1, rfl, ⟨A1, c1, B1, e1, rfl, g1, g2, g3, g4, g5, g6⟩, hb1⟩
  obtain ⟨V, HV, Bd, ka, kb, hb, hz⟩ := dab_in w1 ⟨A1, c1, B1, e1, rfl, g1, g2, g3, g4, g5, g6⟩ 0 2 2 2
  replace hb := bt hb1 hb
  have hN0 := hb1.size
  obtain ⟨V, HV, Bd, ka, kb, hb, hz⟩ := dab_in w1 ⟨A1, c1, B1, e1, rfl, g1, g2, g3, g4, g5, g6⟩ 0 2 2 2
  replace hb := bt hb1 hb
  have hN0 := hb1.size
  go_upto_region 3 with fail
  obtain ⟨N, HN⟩ := named w1.heap.size
  rw [← HV.out]
  rw [← HN.out] at Bd ka kb hN0 ⊢
  have hN : w.heap.size ≤ N := hN0
  have hA : N + 1 ≠ N := by omega
  have hB : N + 1 + 1 ≠ N := by omega
  clear HV HN g1 g2 g3 g4 g5 g6 hnew hb1 hz hN0
  have xBd := Bd.blk.cell
  have xka := ka.cell
  have xkb := kb.cell
  go_wp2_with fail
  clear xBd xka xkb
  refine (h1 _ _ Bd.is).mono ?_
  rintro e w2 ⟨rfl, hb2⟩
  replace Bd := Bd.below hb2
  replace ka := ka.below hb2
  replace kb := kb.below hb2
  replace hb := bt hb hb2
  replace Bd := Bd.alloc (.cells #[.int .u64 0, .string ⟨#[]⟩] 36)
  replace ka := ka.alloc (.cells #[.int .u64 0, .string ⟨#[]⟩] 36)
  replace kb := kb.alloc (.cells #[.int .u64 0, .string ⟨#[]⟩] 36)
  replace hb := hb.alloc hb.size (.cells #[.int .u64 0, .string ⟨#[]⟩] 36)
  clear hb2 h1
  have xBd := Bd.blk.cell
  have xka := ka.cell
  have xkb := kb.cell
  go_wp2_with fail
  clear xBd xka xkb
  refine (h2 _ _ Bd.is).mono ?_
  rintro e w3 ⟨v3, rfl, ⟨A3, c3, B3, e3, rfl, g1, g2, g3, g4, g5, g6⟩, hb3⟩
  clear h2
  have By := Bd.below hb3
  have Bz := Box.set (d' := D1) (e1 := c3) (e2 := e3) By g1 g2 g3 g4 g5 g6
  have hbz := below4 (bt hb hb3) hN (.slice A3 D1.secs.length c3) (.slice B3 D1.pend.length e3) (.bool D1.off) (.int .i64 D1.fuse)
  have kaz := (ka.below hb3).far4 hA (.slice A3 D1.secs.length c3) (.slice B3 D1.pend.length e3) (.bool D1.off) (.int .i64 D1.fuse)
  have kbz := (kb.below hb3).far4 hB (.slice A3 D1.secs.length c3) (.slice B3 D1.pend.length e3) (.bool D1.off) (.int .i64 D1.fuse)
  clear g1 g2 g3 g4 g5 g6 hb Bd ka kb
  have xd := By.blk.cell
  have fd := By.blk.free
  go_upto_region 5 with fail
  obtain ⟨W3, HW3⟩ := named (set4 w3 N (.slice A3 D1.secs.length c3) (.slice B3 D1.pend.length e3) (.bool D1.off) (.int .i64 D1.fuse))
  rw [← HW3.out] at Bz hbz kaz kbz
  rw [show ((((w3.setCell ⟨N, 0, none⟩ (.slice A3 D1.secs.length c3)).setCell ⟨N, 1, none⟩ (.slice B3 D1.pend.length e3)).setCell ⟨N, 2, none⟩ (.bool D1.off)).setCell ⟨N, 3, none⟩ (.int .i64 D1.fuse)) = W3 from HW3.out.symm]
  clear HW3 xd fd By hb3
  have Bd := Bz
  have hb := hbz
  have ka := kaz
  have kb := kbz
  clear Bz hbz kaz kbz
  have xBd := Bd.blk.cell
  have xka := ka.cell
  have xkb := kb.cell
  go_wp2_with fail
  clear xBd xka xkb
  refine (h3 _ _ Bd.is).mono ?_
  rintro e w4 ⟨rfl, hb4⟩
  replace Bd := Bd.below hb4
  replace ka := ka.below hb4
  replace kb := kb.below hb4
  replace hb := bt hb hb4
  have hM : w4.heap.size ≠ N := by have := Bd.lt; omega
  have km := Blk.new w4 [.int .u64 1, .string ⟨#[120]⟩] 36
  replace Bd := Bd.alloc (.cells #[.int .u64 1, .string ⟨#[120]⟩] 36)
  replace ka := ka.alloc (.cells #[.int .u64 1, .string ⟨#[120]⟩] 36)
  replace kb := kb.alloc (.cells #[.int .u64 1, .string ⟨#[120]⟩] 36)
  replace hb := hb.alloc hb.size (.cells #[.int .u64 1, .string ⟨#[120]⟩] 36)
  clear hb4 h3
  have xBd := Bd.blk.cell
  have xka := ka.cell
  have xkb := kb.cell
  go_wp2_with fail
  clear xBd xka xkb
  refine (h4 _ _ Bd.is).mono ?_
  rintro e w5 ⟨v5, rfl, ⟨A5, c5, B5, e5, rfl, g1, g2, g3, g4, g5, g6⟩, hb5⟩
  clear h4
  have By := Bd.below hb5
  have Bz := Box.set (d' := D2) (e1 := c5) (e2 := e5) By g1 g2 g3 g4 g5 g6
  have hbz := below4 (bt hb hb5) hN (.slice A5 D2.secs.length c5) (.slice B5 D2.pend.length e5) (.bool D2.off) (.int .i64 D2.fuse)
  have kaz := (ka.below hb5).far4 hA (.slice A5 D2.secs.length c5) (.slice B5 D2.pend.length e5) (.bool D2.off) (.int .i64 D2.fuse)
  have kbz := (kb.below hb5).far4 hB (.slice A5 D2.secs.length c5) (.slice B5 D2.pend.length e5) (.bool D2.off) (.int .i64 D2.fuse)
  have kmz := (km.below hb5).far4 hM (.slice A5 D2.secs.length c5) (.slice B5 D2.pend.length e5) (.bool D2.off) (.int .i64 D2.fuse)
  clear g1 g2 g3 g4 g5 g6 hb Bd ka kb km
  have xd := By.blk.cell
  have fd := By.blk.free
  go_upto_region 7 with fail
  obtain ⟨W5, HW5⟩ := named (set4 w5 N (.slice A5 D2.secs.length c5) (.slice B5 D2.pend.length e5) (.bool D2.off) (.int .i64 D2.fuse))
  rw [← HW5.out] at Bz hbz kaz kbz kmz
  rw [show ((((w5.setCell ⟨N, 0, none⟩ (.slice A5 D2.secs.length c5)).setCell ⟨N, 1, none⟩ (.slice B5 D2.pend.length e5)).setCell ⟨N, 2, none⟩ (.bool D2.off)).setCell ⟨N, 3, none⟩ (.int .i64 D2.fuse)) = W5 from HW5.out.symm]
  clear HW5 xd fd By hb5
  have Bd := Bz
  have hb := hbz
  have ka := kaz
  have kb := kbz
  have km := kmz
  clear Bz hbz kaz kbz kmz
  have xBd := Bd.blk.cell
  have xka := ka.cell
  have xkb := kb.cell
  go_wp2_with fail
  clear xBd xka xkb
  refine (h5 _ _ Bd.is).mono ?_
  rintro e w6 ⟨rfl, hb6⟩
  replace Bd := Bd.below hb6
  replace ka := ka.below hb6
  replace kb := kb.below hb6
  replace km := km.below hb6
  replace hb := bt hb hb6
  replace Bd := Bd.alloc (.cells #[.int .u64 2, .string ⟨#[]⟩] 36)
  replace ka := ka.alloc (.cells #[.int .u64 2, .string ⟨#[]⟩] 36)
  replace kb := kb.alloc (.cells #[.int .u64 2, .string ⟨#[]⟩] 36)
  replace km := km.alloc (.cells #[.int .u64 2, .string ⟨#[]⟩] 36)
  replace hb := hb.alloc hb.size (.cells #[.int .u64 2, .string ⟨#[]⟩] 36)
  clear hb6 h5
  have xm := km.cell
  go_wp2
  go_ret
  exact ⟨by simp, hb⟩
end Go.Proofs.Ytpfbmmeipojodaa
end
