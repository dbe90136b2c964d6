/- wire's reader: byte, long, text, fail; ended. -/
import Derived.Test.YtiodfbbgbnbdpaaLeft
import Derived.Deep.DeepCutAuto
namespace Go.Proofs.Ytiodfbbgbnbdpaa
set_option linter.unusedSimpArgs false
set_option linter.unusedVariables false
open Go.RowKit
open Crc
theorem Lb.far {w : World} {g A i : Nat} {x : Lf} (h : Lb w g x) (hne : g ≠ A) (v : Value) : Lb (w.setCell ⟨A, i, none⟩ v) g x := Blk.far h (p := ⟨A, i, none⟩) hne v
section
variable {B g A o : Nat} {vs : List Value} {T : TypeId} {x : Lf} {w : World} {u0 : Value}
set_option maxRecDepth 100000 in
set_option maxHeartbeats 600000 in
theorem rlong_w (hg : B ≤ g) (hA : B ≤ A) (hne : A ≠ g) (h : Lb w g x) (hx : x.l.length ≤ 140737488351232) (ha : Blk w A vs T) (hu : vs[o]? = some u0) :
    Calls Try.prog 85 #[.pointer (some ⟨g, 0, none⟩), .pointer (some ⟨A, o, none⟩)] w fun e w' => e = .returned (.tuple #[]) ∧ Lb w' g (longL x).2 ∧ Blk w' A (vs.set o (.int .u64 ((longL x).1 : Int))) T ∧ Kp2 B g A w w' := by
  have ht : Calls Try.prog 38 #[.pointer (some ⟨g, 0, none⟩), .int .i64 8] w fun e w' => e = .returned (.string (str (takeL x 8).1)) ∧ Lb w' g (takeL x 8).2 ∧ Kp g w w' := take_w g 8 x w h hx (by decide)
  have hg64 := fun W => get64_w (str (takeL x 8).1) W
  rw [str_data] at hg64
  have hg2 : ∀ W, Calls Try.prog 88 #[.string (str (takeL x 8).1)] W fun e w' => e = .returned (.tuple #[.int .u64 ((longL x).1 : Int), .int .i64 (gotE 8 (takeL x 8).1)]) ∧ W = w' := hg64
  have h2 : (longL x).2 = (takeL x 8).2 := rfl
  rw [h2]
  obtain ⟨n, hn⟩ := named (longL x).1
  obtain ⟨E, hE⟩ := named (gotE 8 (takeL x 8).1)
  obtain ⟨S, hS⟩ := named (str (takeL x 8).1)
  simp only [← hn.out, ← hE.out, ← hS.out] at hg2
  rw [← hS.out] at ht
  rw [← hn.out]
  clear hn hE hS hg64 h2
  go_enter Try.func85, Try.ntmps85
  go_wp2_with fail
  refine ht.mono ?_
  rintro e w1 ⟨rfl, h1, kp⟩
  go_wp2_with fail
  refine (hg2 _).mono ?_
  rintro e w2 ⟨rfl, rfl⟩
  have hb := ha.kp kp hne
  have c1 : w1.cell? ⟨A, o, none⟩ = some u0 := by rw [hb.cell]; exact hu
  have f1 := hb.free o
  have hb2 := hb.set o (.int .u64 (n : Int))
  have k2 := (kp.two (A := A) hg).set hA o (.int .u64 (n : Int))
  have h3 := h1.far (i := o) (fun e => hne e.symm) (.int .u64 (n : Int))
  clear ht hg2
  go_wp2
  go_end0
  exact ⟨rfl, h3, hb2, k2⟩
set_option maxRecDepth 100000 in
set_option maxHeartbeats 600000 in
theorem rtext_w (hg : B ≤ g) (hA : B ≤ A) (hne : A ≠ g) (h : Lb w g x) (hx : x.l.length ≤ 140737488351232) (ha : Blk w A vs T) (hu : vs[o]? = some u0) :
    Calls Try.prog 86 #[.pointer (some ⟨g, 0, none⟩), .pointer (some ⟨A, o, none⟩)] w fun e w' => e = .returned (.tuple #[]) ∧ Lb w' g (textL x).2 ∧ Blk w' A (vs.set o (.string (str (textL x).1))) T ∧ Kp2 B g A w w' := by
  have ht := ltext_w g x w h hx
  obtain ⟨R, hR⟩ := named (textL x)
  rw [← hR.out] at ht ⊢
  clear hR
  obtain ⟨t, y⟩ := R
  obtain ⟨S, hS⟩ := named (str t)
  simp only [← hS.out] at ht ⊢
  clear hS
  go_enter Try.func86, Try.ntmps86
  go_wp2_with fail
  refine ht.mono ?_
  rintro e w1 ⟨rfl, h1, kp⟩
  have hb := ha.kp kp hne
  have c1 : w1.cell? ⟨A, o, none⟩ = some u0 := by rw [hb.cell]; exact hu
  have f1 := hb.free o
  have hb2 := hb.set o (.string S)
  have k2 := (kp.two (A := A) hg).set hA o (.string S)
  have h3 := h1.far (i := o) (fun e => hne e.symm) (.string S)
  clear ht
  go_wp2
  go_end0
  exact ⟨rfl, h3, hb2, k2⟩
set_option maxRecDepth 100000 in
set_option maxHeartbeats 600000 in
theorem rbyte_w (hg : B ≤ g) (hA : B ≤ A) (hne : A ≠ g) (h : Lb w g x) (hx : x.l.length ≤ 140737488351232) (ha : Blk w A vs T) (hu : vs[o]? = some u0) :
    Calls Try.prog 82 #[.pointer (some ⟨g, 0, none⟩), .pointer (some ⟨A, o, none⟩)] w fun e w' => e = .returned (.tuple #[]) ∧ Lb w' g (byteL x).2 ∧ Blk w' A (vs.set o (.int .u8 ((byteL x).1.toNat : Int))) T ∧ Kp2 B g A w w' := by
  have ht := byte_w g x w h hx
  obtain ⟨R, hR⟩ := named (byteL x)
  rw [← hR.out] at ht ⊢
  clear hR
  obtain ⟨t, y⟩ := R
  go_enter Try.func82, Try.ntmps82
  go_wp2_with fail
  refine ht.mono ?_
  rintro e w1 ⟨rfl, h1, kp⟩
  have hb := ha.kp kp hne
  have c1 : w1.cell? ⟨A, o, none⟩ = some u0 := by rw [hb.cell]; exact hu
  have f1 := hb.free o
  have hb2 := hb.set o (.int .u8 (t.toNat : Int))
  have k2 := (kp.two (A := A) hg).set hA o (.int .u8 (t.toNat : Int))
  have h3 := h1.far (i := o) (fun e => hne e.symm) (.int .u8 (t.toNat : Int))
  clear ht
  go_wp2
  go_end0
  exact ⟨rfl, h3, hb2, k2⟩
set_option maxRecDepth 100000 in
set_option maxHeartbeats 600000 in
theorem rfail_w (h : Lb w g x) :
    Calls Try.prog 84 #[.pointer (some ⟨g, 0, none⟩)] w fun e w' => e = .returned (.tuple #[]) ∧ Lb w' g ⟨x.l, true⟩ ∧ Kp g w w' := by
  have c1 := h.cell
  have f1 := h.free
  have h2 : Lb (w.setCell ⟨g, 1, none⟩ (.bool true)) g ⟨x.l, true⟩ := h.set 1 (.bool true)
  have k2 := (Kp.refl g w).set 1 (.bool true)
  go_enter Try.func84, Try.ntmps84
  go_wp2
  go_end0
  exact ⟨rfl, h2, k2⟩
end
end Go.Proofs.Ytiodfbbgbnbdpaa
