/- The walk of SlotsTurned. -/
import Derived.Test.YtpfbmmeipojodaaGP
namespace Go.Proofs.Ytpfbmmeipojodaa
set_option linter.unusedSimpArgs false
set_option linter.unusedVariables false
open Go.RowKit Go.Shelf
open Crc
set_option maxRecDepth 100000 in
set_option maxHeartbeats 1000000 in
theorem slotsturned_w (A1 A2 : Option Addr) (c1 c2 : Nat) (d : Dk) (fa sa fb sb : Int) (w : World) (h1 : Texts w A1 d.secs) (h2 : Writes w A2 d.pend) (hl1 : d.secs.length * 16 ≤ 140737488351232) (hl2 : d.pend.length * 24 ≤ 140737488351232) (hf1 : -9223372036854775808 ≤ d.fuse) (hf2 : d.fuse ≤ 9223372036854775807) (hfa : -9223372036854775808 ≤ fa ∧ fa ≤ 9223372036854775807) (hsa : -9223372036854775808 ≤ sa ∧ sa ≤ 9223372036854775807) (hfb : -9223372036854775808 ≤ fb ∧ fb ≤ 9223372036854775807) (hsb : -9223372036854775808 ≤ sb ∧ sb ≤ 9223372036854775807) :
    Calls Try.prog 7 #[.agg #[.slice A1 d.secs.length c1, .slice A2 d.pend.length c2, .bool d.off, .int .i64 d.fuse], .agg #[.int .i64 fa, .int .i64 sa], .agg #[.int .i64 fb, .int .i64 sb]] w fun e w' => e = .returned (.bool true) ∧ Below w.heap.size w w' := by
  obtain ⟨W, HW, Bd, ka, kb, hb, hz⟩ := dab_in w ⟨A1, c1, A2, c2, rfl, h1, h2, by omega, by omega, hf1, hf2⟩ fa sa fb sb
  have hy1 := fun W hv => load_w (.agg #[.slice A1 d.secs.length c1, .slice A2 d.pend.length c2, .bool d.off, .int .i64 d.fuse]) d fa sa fb sb W hv hfa hsa hfb hsb
  have hy2 := fun W hv => load_w (.agg #[.slice A1 d.secs.length c1, .slice A2 d.pend.length c2, .bool d.off, .int .i64 d.fuse]) d fb sb fa sa W hv hfb hsb hfa hsa
  have hE := fun h : (loadR d fa sa fb sb).2.2 = 0 => turned_err h
  have hE' := fun h : (loadR d fb sb fa sa).2.2 = 0 => turned_err h
  have hL := fun h : (loadR d fa sa fb sb).2.2 = 0 => turned_law h
  obtain ⟨R1, HR1⟩ := named (loadR d fa sa fb sb)
  obtain ⟨R2, HR2⟩ := named (loadR d fb sb fa sa)
  simp only [← HR1.out, ← HR2.out] at hy1 hy2 hE hE' hL
  clear HR1 HR2
  obtain ⟨⟨x1, p1⟩, K1, E1⟩ := R1
  obtain ⟨⟨x2, p2⟩, K2, E2⟩ := R2
  simp only [Img.mk.injEq] at hE hE' hL
  simp only [show ∀ a b c p, loadVal (⟨a, p⟩, b, c) = .tuple #[.agg #[.int .u64 (a : Int), .string (str p)], .int .i64 (b : Int), .int .i64 c] from fun _ _ _ _ => rfl] at hy1 hy2
  obtain ⟨S1, HS1⟩ := named (str p1)
  obtain ⟨S2, HS2⟩ := named (str p2)
  simp only [← HS1.out] at hy1
  simp only [← HS2.out] at hy2
  have HE := hide hE
  have HE' := hide hE'
  have HL := hide hL
  clear hE hE' hL
  go_enter Try.func7, Try.ntmps7
  go_wp2_with fail
  rw [← HW.out]
  clear HW hz
  refine (lives5_w _).mono ?_
  rintro e w1 ⟨rfl, hb1⟩
  replace Bd := Bd.below hb1
  replace ka := ka.below hb1
  replace kb := kb.below hb1
  replace hb := bt hb hb1
  clear hb1
  have xBd := Bd.blk.cell
  have xka := ka.cell
  have xkb := kb.cell
  go_wp2_with fail
  clear xBd xka xkb
  refine (hy1 _ Bd.is).mono ?_
  rintro e w2 ⟨rfl, hb2⟩
  replace Bd := Bd.below hb2
  replace ka := ka.below hb2
  replace kb := kb.below hb2
  replace hb := bt hb hb2
  have km := Blk.new w2 [.int .u64 (x1 : Int), .string S1] 36
  replace Bd := Bd.alloc (.cells #[.int .u64 (x1 : Int), .string S1] 36)
  replace ka := ka.alloc (.cells #[.int .u64 (x1 : Int), .string S1] 36)
  replace kb := kb.alloc (.cells #[.int .u64 (x1 : Int), .string S1] 36)
  replace hb := hb.alloc hb.size (.cells #[.int .u64 (x1 : Int), .string S1] 36)
  clear hb2 hy1
  have xBd := Bd.blk.cell
  have xka := ka.cell
  have xkb := kb.cell
  go_wp2_with fail
  clear xBd xka xkb
  refine (hy2 _ Bd.is).mono ?_
  rintro e w3 ⟨rfl, hb3⟩
  replace Bd := Bd.below hb3
  replace ka := ka.below hb3
  replace kb := kb.below hb3
  replace km := km.below hb3
  replace hb := bt hb hb3
  have kn := Blk.new w3 [.int .u64 (x2 : Int), .string S2] 36
  replace Bd := Bd.alloc (.cells #[.int .u64 (x2 : Int), .string S2] 36)
  replace ka := ka.alloc (.cells #[.int .u64 (x2 : Int), .string S2] 36)
  replace kb := kb.alloc (.cells #[.int .u64 (x2 : Int), .string S2] 36)
  replace km := km.alloc (.cells #[.int .u64 (x2 : Int), .string S2] 36)
  replace hb := hb.alloc hb.size (.cells #[.int .u64 (x2 : Int), .string S2] 36)
  clear hb3 hy2
  have xm := km.cell
  have xn := kn.cell
  clear Bd ka kb km kn h1 h2
  by_cases h1 : E1 = 0
  · have h2 := HE.out h1
    have hl := HL.out h1
    subst h1
    subst h2
    clear HE HE' HL
    rcases hl with ⟨rfl, rfl, rfl⟩ | ⟨rfl, rfl, rfl, rfl⟩ | ⟨rfl, rfl, rfl, rfl⟩
    · go_wp2
      go_ret
      exact ⟨by simp, hb⟩
    · obtain rfl : S1 = S2 := HS1.out.trans HS2.out.symm
      go_wp2
      go_ret
      exact ⟨by simp, hb⟩
    · obtain rfl : S1 = S2 := HS1.out.trans HS2.out.symm
      go_wp2
      go_ret
      exact ⟨by simp, hb⟩
  · have h2 : E2 ≠ 0 := fun h => h1 (HE'.out h)
    have t1 : (E1 == 0) = false := by simp [h1]
    have t2 : (E1 != 0) = true := by simp [h1]
    have t3 : (E2 == 0) = false := by simp [h2]
    have t4 : (E2 != 0) = true := by simp [h2]
    clear h1 h2 HE HE' HL
    go_wp2
    go_ret
    exact ⟨by simp, hb⟩
end Go.Proofs.Ytpfbmmeipojodaa
