/- change.Left: Take, Byte, Text. -/
import Derived.Test.YtiodfbbgbnbdpaaGC
import Derived.Deep.DeepCutAuto
namespace Go.Proofs.Ytiodfbbgbnbdpaa
set_option linter.unusedSimpArgs false
set_option linter.unusedVariables false
open Go.RowKit
open Crc
def Lb (w : World) (g : Nat) (x : Lf) : Prop := Blk w g [.string (str x.l), .bool x.b] 72
set_option maxRecDepth 100000 in
set_option maxHeartbeats 600000 in
theorem take_w (g n : Nat) (x : Lf) (w : World) (h : Lb w g x) (hx : x.l.length ≤ 140737488351232) (hn : n < 4294967296) :
    Calls Try.prog 38 #[.pointer (some ⟨g, 0, none⟩), .int .i64 (n : Int)] w fun e w' => e = .returned (.string (str (takeL x n).1)) ∧ Lb w' g (takeL x n).2 ∧ Kp g w w' := by
  obtain ⟨l, b⟩ := x
  have c0 := h.cell
  have f0 := h.free
  have hs : (str l).size = l.length := str_size l
  have hn0 : ¬ (n : Int) < 0 := by omega
  by_cases hb : b = true
  · subst hb
    rw [takeL_no (.inl rfl)]
    have k1 := h.set 1 (.bool true)
    have kp := (Kp.refl g w).set 1 (.bool true)
    clear hs
    go_enter Try.func38, Try.ntmps38
    go_wp2
    go_ret
    exact ⟨rfl, k1, kp⟩
  obtain rfl : b = false := by simpa using hb
  by_cases hl : l.length < n
  · rw [takeL_no (.inr hl)]
    have k1 := h.set 1 (.bool true)
    have kp := (Kp.refl g w).set 1 (.bool true)
    have hl' : ((str l).size : Int) < (n : Int) := by rw [hs]; omega
    clear hs hb
    go_enter Try.func38, Try.ntmps38
    go_wp2
    go_ret
    exact ⟨rfl, k1, kp⟩
  · rw [takeL_yes rfl (by simpa using hl)]
    have k1 := h.set 0 (.string (str (l.drop n)))
    have kp := (Kp.refl g w).set 0 (.string (str (l.drop n)))
    have hl' : ¬ ((str l).size : Int) < (n : Int) := by rw [hs]; omega
    have hle : n ≤ (str l).size := by rw [hs]; omega
    have e1 : (str l).extract 0 n = str (l.take n) := by rw [str_extract]; simp
    have e2 : (str l).extract n (str l).size = str (l.drop n) := by rw [str_extract, hs, List.take_of_length_le (by simp)]
    clear hs hb
    go_enter Try.func38, Try.ntmps38
    go_wp2
    go_ret
    exact ⟨rfl, k1, kp⟩
set_option maxRecDepth 100000 in
set_option maxHeartbeats 600000 in
theorem byte_w (g : Nat) (x : Lf) (w : World) (h : Lb w g x) (hx : x.l.length ≤ 140737488351232) :
    Calls Try.prog 25 #[.pointer (some ⟨g, 0, none⟩)] w fun e w' => e = .returned (.int .u8 ((byteL x).1.toNat : Int)) ∧ Lb w' g (byteL x).2 ∧ Kp g w w' := by
  have ht : Calls Try.prog 38 #[.pointer (some ⟨g, 0, none⟩), .int .i64 1] w fun e w' => e = .returned (.string (str (takeL x 1).1)) ∧ Lb w' g (takeL x 1).2 ∧ Kp g w w' := take_w g 1 x w h hx (by decide)
  unfold byteL
  have hcase : ((takeL x 1).1 = [] ∧ (takeL x 1).2.b = true) ∨ (∃ c, (takeL x 1).1 = [c] ∧ (takeL x 1).2.b = false) := by
    by_cases hn : x.b = true ∨ x.l.length < 1
    · rw [takeL_no hn]; exact .inl ⟨rfl, rfl⟩
    · have h1 : x.b = false := by simpa using (not_or.1 hn).1
      have h2 : 1 ≤ x.l.length := by omega
      rw [takeL_yes h1 h2]
      obtain ⟨c, l, e⟩ : ∃ c l, x.l = c :: l := by
        match x.l, h2 with
        | c :: l, _ => exact ⟨c, l, rfl⟩
      rw [e]
      exact .inr ⟨c, rfl, rfl⟩
  obtain ⟨y, hy⟩ := named (takeL x 1)
  rw [← hy.out] at ht hcase ⊢
  clear hy
  obtain ⟨t, z⟩ := y
  go_enter Try.func25, Try.ntmps25
  go_wp2_with fail
  refine ht.mono ?_
  rintro e w1 ⟨rfl, h1, kp⟩
  have c1 := h1.cell
  rcases hcase with ⟨e1, e2⟩ | ⟨c, e1, e2⟩
  · obtain rfl : t = [] := e1
    obtain ⟨zl, zb⟩ := z
    obtain rfl : zb = true := e2
    go_wp2
    go_ret
    exact ⟨rfl, h1, kp⟩
  · obtain rfl : t = [c] := e1
    obtain ⟨zl, zb⟩ := z
    obtain rfl : zb = false := e2
    have hs : (str [c]).size = 1 := rfl
    have hget : (str [c])[0]! = c := rfl
    go_wp2
    go_ret
    exact ⟨rfl, h1, kp⟩
set_option maxRecDepth 100000 in
set_option maxHeartbeats 600000 in
theorem ltext_w (g : Nat) (x : Lf) (w : World) (h : Lb w g x) (hx : x.l.length ≤ 140737488351232) :
    Calls Try.prog 89 #[.pointer (some ⟨g, 0, none⟩)] w fun e w' => e = .returned (.string (str (textL x).1)) ∧ Lb w' g (textL x).2 ∧ Kp g w w' := by
  have ht : Calls Try.prog 38 #[.pointer (some ⟨g, 0, none⟩), .int .i64 4] w fun e w' => e = .returned (.string (str (takeL x 4).1)) ∧ Lb w' g (takeL x 4).2 ∧ Kp g w w' := take_w g 4 x w h hx (by decide)
  have hlen := takeL_len x 4
  have hle := takeL_le x 4
  have hnn : textN x < 4294967296 := gotN_lt
  have hg := fun W => get32_w (str (takeL x 4).1) W (by rw [str_size]; unfold maxLen; omega)
  rw [str_data] at hg
  have hg2 : ∀ W, Calls Try.prog 90 #[.string (str (takeL x 4).1)] W fun e w' => e = .returned (.tuple #[.int .u32 (textN x : Int), .int .i64 (gotE 4 (takeL x 4).1)]) ∧ W = w' := hg
  have hT := fun (W : World) (hW : Lb W g ⟨(takeL x 4).2.l, (takeL x 4).2.b || decide (2048 < textN x)⟩) => take_w g (textN x) ⟨(takeL x 4).2.l, (takeL x 4).2.b || decide (2048 < textN x)⟩ W hW (Nat.le_trans hlen.2 hx) hnn
  unfold textL
  obtain ⟨n, hn⟩ := named (textN x)
  obtain ⟨E, hE⟩ := named (gotE 4 (takeL x 4).1)
  rw [← hn.out] at hnn hT ⊢
  simp only [← hn.out, ← hE.out] at hg2
  clear hn hE hg
  obtain ⟨y, hy⟩ := named (takeL x 4)
  rw [← hy.out] at ht hT ⊢
  simp only [← hy.out] at hg2
  clear hy hlen hle
  obtain ⟨t, zl, zb⟩ := y
  obtain ⟨R, hR⟩ := named (takeL ⟨zl, zb || decide (2048 < n)⟩ n)
  simp only at hT hg2 ht
  simp only [← hR.out] at hT ⊢
  clear hR
  have hwn : IntKind.i64.wrap (n : Int) = (n : Int) := by simp [IntKind.wrap, IntKind.bits, IntKind.signed]; omega
  have hdc : decide ((2048 : Int) < (n : Int)) = decide (2048 < n) := by
    by_cases h9 : 2048 < n
    · have : (2048 : Int) < (n : Int) := by omega
      simp [h9, this]
    · have : ¬ (2048 : Int) < (n : Int) := by omega
      simp [h9, this]
  obtain ⟨S, hS⟩ := named (str t)
  rw [← hS.out] at ht
  simp only [← hS.out] at hg2
  clear hS hx
  go_enter Try.func89, Try.ntmps89
  go_wp2_with fail
  refine ht.mono ?_
  rintro e w1 ⟨rfl, h1, kp⟩
  clear ht
  go_wp2_with fail
  refine (hg2 _).mono ?_
  rintro e w2 ⟨rfl, rfl⟩
  clear hg2
  have c1 := h1.cell
  have f1 := h1.free
  have kq := kp.set 1 (.bool (zb || decide (2048 < n)))
  have h2 : Lb (w1.setCell ⟨g, 1, none⟩ (.bool (zb || decide (2048 < n)))) g ⟨zl, zb || decide (2048 < n)⟩ := h1.set 1 (.bool (zb || decide (2048 < n)))
  obtain ⟨b, hb⟩ := named (decide (2048 < n))
  rw [← hb.out] at hdc kq h2 hT
  clear hb
  cases zb with
  | true =>
    go_upto_region 3 with fail
    obtain ⟨W, HW⟩ := named (w1.setCell ⟨g, 1, none⟩ (.bool (true || b)))
    rw [← HW.out] at h2 kq
    rw [show w1.setCell ⟨g, 1, none⟩ (.bool true) = W from HW.out.symm]
    clear HW c1 f1
    go_wp2_with fail
    refine (hT _ h2).mono ?_
    rintro e w3 ⟨rfl, h3, kp3⟩
    go_wp2
    go_ret
    exact ⟨rfl, h3, kq.trans kp3⟩
  | false =>
    go_upto_region 3 with fail
    obtain ⟨W, HW⟩ := named (w1.setCell ⟨g, 1, none⟩ (.bool (false || b)))
    rw [← HW.out] at h2 kq
    rw [show w1.setCell ⟨g, 1, none⟩ (.bool b) = W from HW.out.symm]
    clear HW c1 f1
    go_wp2_with fail
    refine (hT _ h2).mono ?_
    rintro e w3 ⟨rfl, h3, kp3⟩
    go_wp2
    go_ret
    exact ⟨rfl, h3, kq.trans kp3⟩
end Go.Proofs.Ytiodfbbgbnbdpaa
