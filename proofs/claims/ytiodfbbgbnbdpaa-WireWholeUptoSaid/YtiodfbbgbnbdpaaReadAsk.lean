/- wire.ended, wire.ReadAsk. -/
import Derived.Test.YtiodfbbgbnbdpaaRWalk2
namespace Go.Proofs.Ytiodfbbgbnbdpaa
set_option linter.unusedSimpArgs false
set_option linter.unusedVariables false
open Go.RowKit
open Crc
/-- The port, if it reads, has read all. -/
def endL (x : Lf) : Bool := !x.b && decide (x.l = [])
set_option maxRecDepth 100000 in
set_option maxHeartbeats 600000 in
theorem ended_w (g : Nat) (x : Lf) (w : World) (h : Lb w g x) :
    Calls Try.prog 26 #[.iface 68 (.pointer (some ⟨g, 0, none⟩))] w fun e w' => e = .returned (.bool (endL x)) ∧ Below w.heap.size w w' := by
  have xg := h.cell
  have hta : ∀ W : World, (Instr.typeAssert (.iface 68 (.pointer (some ⟨g, 0, none⟩))) 92 68 true).run Try.prog W = .ok (.tuple #[.pointer (some ⟨g, 0, none⟩), .bool true]) W := fun W => by kernel_rfl
  obtain ⟨l, b⟩ := x
  have hs : ((str l).toList == []) = decide (l = []) := by
    rw [str_toList]
    cases l <;> rfl
  unfold endL
  obtain ⟨q, hq⟩ := named (decide (l = []))
  simp only [← hq.out] at hs ⊢
  obtain ⟨S, hS⟩ := named (str l)
  simp only [← hS.out] at hs xg
  clear hq hS h
  cases b with
  | true =>
    go_enter Try.func26, Try.ntmps26
    go_wp2
    go_ret
    exact ⟨rfl, Below.refl _ _⟩
  | false =>
    go_enter Try.func26, Try.ntmps26
    go_wp2
    go_ret
    exact ⟨by simp, Below.refl _ _⟩
def askOf (k : UInt8) : Ask := ⟨k, 0, chg0, 0, List.replicate 7 e0⟩
def ask0 : Ask := askOf 0
/-- What bytes are read as: a request, or none. -/
def readA (l : List UInt8) : Option Ask :=
  if endL (walkR (askOf (byteL ⟨l, false⟩).1) (byteL ⟨l, false⟩).2).2 = true then some (walkR (askOf (byteL ⟨l, false⟩).1) (byteL ⟨l, false⟩).2).1 else none
theorem rwalk_w {B g A : Nat} {k : UInt8} {x : Lf} {w : World} (hg : B ≤ g) (hA : B ≤ A) (hne : A ≠ g) (h : Lb w g x) (hx : x.l.length ≤ 140737488351232) (ha : Blk w A (askCells (askOf k)) 30) :
    Calls Try.prog 20 #[.iface 68 (.pointer (some ⟨g, 0, none⟩)), .pointer (some ⟨A, 0, none⟩)] w fun e w' => e = .returned (.tuple #[]) ∧ Lb w' g (walkR (askOf k) x).2 ∧ Blk w' A (askCells (walkR (askOf k) x).1) 30 ∧ Kp2 B g A w w' := by
  by_cases hk : 1 ≤ k.toNat ∧ k.toNat ≤ 8
  · have : k = 1 ∨ k = 2 ∨ k = 3 ∨ k = 4 ∨ k = 5 ∨ k = 6 ∨ k = 7 ∨ k = 8 := by
      have : k.toNat = 1 ∨ k.toNat = 2 ∨ k.toNat = 3 ∨ k.toNat = 4 ∨ k.toNat = 5 ∨ k.toNat = 6 ∨ k.toNat = 7 ∨ k.toNat = 8 := by omega
      rcases this with h | h | h | h | h | h | h | h <;> simp [← UInt8.toNat_inj, h]
    rcases this with rfl | rfl | rfl | rfl | rfl | rfl | rfl | rfl
    · exact rwalk_1 hg hA hne h hx ha
    · exact rwalk_2 hg hA hne h hx ha
    · exact rwalk_3 hg hA hne h hx ha
    · exact rwalk_4 hg hA hne h hx ha
    · exact rwalk_5 hg hA hne h hx ha
    · exact rwalk_6 hg hA hne h hx ha
    · exact rwalk_7 hg hA hne h hx ha
    · exact rwalk_8 hg hA hne h hx ha
  · have hw : walkR (askOf k) x = (askOf k, ⟨x.l, true⟩) := by
      have hn : ∀ j : UInt8, 1 ≤ j.toNat ∧ j.toNat ≤ 8 → k ≠ j := fun j hj e => hk (e ▸ hj)
      unfold walkR askOf
      simp only [hn 1 (by decide), hn 2 (by decide), hn 3 (by decide), hn 4 (by decide), hn 5 (by decide), hn 6 (by decide), hn 7 (by decide), hn 8 (by decide), or_self, if_false]
    rw [hw]
    exact rwalk_no k hk hg hA hne h ha
theorem walkR_ts (a : Ask) (x : Lf) (h : a.ts.length = 7) : (walkR a x).1.ts.length = 7 := by
  have hc : ∀ b : Ask, ∀ o, (withC b o).ts = b.ts := fun b o => by cases o <;> rfl
  unfold walkR
  split
  · exact h
  · split
    · rw [hc]; exact h
    · split
      · exact h
      · split
        · exact textsL_length _ _
        · split
          · exact textsL_length _ _
          · exact h
def readV : Option Ask → Value
  | some a => .tuple #[.agg (askCells a).toArray, .int .i64 0]
  | none => .tuple #[.agg #[.int .u8 0, .int .u64 0, .int .u8 0, .string ⟨#[]⟩, .string ⟨#[]⟩, .string ⟨#[]⟩, .string ⟨#[]⟩, .int .u64 0, .string ⟨#[]⟩, .string ⟨#[]⟩, .string ⟨#[]⟩, .string ⟨#[]⟩, .string ⟨#[]⟩, .string ⟨#[]⟩, .string ⟨#[]⟩], .int .i64 14]
set_option maxRecDepth 100000 in
set_option maxHeartbeats 1000000 in
theorem readAsk_w (s : ByteArray) (w : World) (hs : s.size ≤ 140737488351232) :
    Calls Try.prog 11 #[.string s] w fun e w' => e = .returned (readV (readA s.data.toList)) ∧ Below w.heap.size w w' := by
  have hsl : s.data.toList.length ≤ 140737488351232 := by simpa using hs
  unfold readA
  have hby : ∀ W g, Lb W g ⟨s.data.toList, false⟩ → _ := fun W g hW => byte_w g ⟨s.data.toList, false⟩ W hW hsl
  have hbl := byteL_len ⟨s.data.toList, false⟩
  obtain ⟨Y, hY⟩ := named (byteL ⟨s.data.toList, false⟩)
  simp only [← hY.out] at hby hbl ⊢
  clear hY
  obtain ⟨k, y⟩ := Y
  simp only at hby hbl ⊢
  have hts := walkR_ts (askOf k) y rfl
  have hwk := fun (W : World) (A : Nat) (hA : w.heap.size + 1 < A) (h1 : Lb W (w.heap.size + 1) y) (h2 : Blk W A (askCells (askOf k)) 30) => rwalk_w (B := w.heap.size) (g := (w.heap.size + 1)) (A := A) (by omega) (by omega) (by omega) h1 (Nat.le_trans hbl hsl) h2
  obtain ⟨R, hR⟩ := named (walkR (askOf k) y)
  simp only [← hR.out] at hwk hts ⊢
  clear hR
  obtain ⟨⟨rk, rn, ⟨rc, ri, rt, ru, rw⟩, rv, rs⟩, z⟩ := R
  simp only at hts hwk ⊢
  match rs, hts with
  | [s1, s2, s3, s4, s5, s6, s7], _ =>
  have hen := fun W (h1 : Lb W (w.heap.size + 1) z) => ended_w (w.heap.size + 1) z W h1
  obtain ⟨q, hq⟩ := named (endL z)
  simp only [← hq.out] at hen ⊢
  clear hq
  have b0 := below_alloc w (.cells #[.int .u8 0, .int .u64 0, .int .u8 0, .string ⟨#[]⟩, .string ⟨#[]⟩, .string ⟨#[]⟩, .string ⟨#[]⟩, .int .u64 0, .string ⟨#[]⟩, .string ⟨#[]⟩, .string ⟨#[]⟩, .string ⟨#[]⟩, .string ⟨#[]⟩, .string ⟨#[]⟩, .string ⟨#[]⟩] 30)
  have r0 := (Blk.new w [.int .u8 0, .int .u64 0, .int .u8 0, .string ⟨#[]⟩, .string ⟨#[]⟩, .string ⟨#[]⟩, .string ⟨#[]⟩, .int .u64 0, .string ⟨#[]⟩, .string ⟨#[]⟩, .string ⟨#[]⟩, .string ⟨#[]⟩, .string ⟨#[]⟩, .string ⟨#[]⟩, .string ⟨#[]⟩] 30).alloc (.cells #[.string s, .bool false] 72)
  have l0 := Blk.new (w.alloc (.cells #[.int .u8 0, .int .u64 0, .int .u8 0, .string ⟨#[]⟩, .string ⟨#[]⟩, .string ⟨#[]⟩, .string ⟨#[]⟩, .int .u64 0, .string ⟨#[]⟩, .string ⟨#[]⟩, .string ⟨#[]⟩, .string ⟨#[]⟩, .string ⟨#[]⟩, .string ⟨#[]⟩, .string ⟨#[]⟩] 30)) [.string s, .bool false] 72
  rw [show (w.alloc (.cells #[.int .u8 0, .int .u64 0, .int .u8 0, .string ⟨#[]⟩, .string ⟨#[]⟩, .string ⟨#[]⟩, .string ⟨#[]⟩, .int .u64 0, .string ⟨#[]⟩, .string ⟨#[]⟩, .string ⟨#[]⟩, .string ⟨#[]⟩, .string ⟨#[]⟩, .string ⟨#[]⟩, .string ⟨#[]⟩] 30)).heap.size = w.heap.size + 1 by simp] at l0
  have hb0 := bt b0 (below_alloc _ (.cells #[.string s, .bool false] 72))
  have hl0 : Lb ((w.alloc (.cells #[.int .u8 0, .int .u64 0, .int .u8 0, .string ⟨#[]⟩, .string ⟨#[]⟩, .string ⟨#[]⟩, .string ⟨#[]⟩, .int .u64 0, .string ⟨#[]⟩, .string ⟨#[]⟩, .string ⟨#[]⟩, .string ⟨#[]⟩, .string ⟨#[]⟩, .string ⟨#[]⟩, .string ⟨#[]⟩] 30)).alloc (.cells #[.string s, .bool false] 72)) (w.heap.size + 1) ⟨s.data.toList, false⟩ := by
    unfold Lb
    rw [str_of]
    exact l0
  go_enter Try.func11, Try.ntmps11
  go_upto_region 2 with fail
  obtain ⟨w1, hw1⟩ := named ((w.alloc (.cells #[.int .u8 0, .int .u64 0, .int .u8 0, .string ⟨#[]⟩, .string ⟨#[]⟩, .string ⟨#[]⟩, .string ⟨#[]⟩, .int .u64 0, .string ⟨#[]⟩, .string ⟨#[]⟩, .string ⟨#[]⟩, .string ⟨#[]⟩, .string ⟨#[]⟩, .string ⟨#[]⟩, .string ⟨#[]⟩] 30)).alloc (.cells #[.string s, .bool false] 72))
  have hz1 : w1.heap.size = w.heap.size + 1 + 1 := by rw [hw1.out]; simp
  rw [← hw1.out] at r0 hb0 hl0 ⊢
  have HZ1 := hide hz1
  clear hw1 b0 l0 hz1
  go_wp2_with fail
  refine (hby _ _ hl0).mono ?_
  rintro e w2 ⟨rfl, hl2, kp2⟩
  have hA3 : Blk (w2.alloc (.cells #[.int .u8 (k.toNat : Int), .int .u64 0, .int .u8 0, .string ⟨#[]⟩, .string ⟨#[]⟩, .string ⟨#[]⟩, .string ⟨#[]⟩, .int .u64 0, .string ⟨#[]⟩, .string ⟨#[]⟩, .string ⟨#[]⟩, .string ⟨#[]⟩, .string ⟨#[]⟩, .string ⟨#[]⟩, .string ⟨#[]⟩] 30)) w2.heap.size (askCells (askOf k)) 30 := Blk.new w2 [.int .u8 (k.toNat : Int), .int .u64 0, .int .u8 0, .string ⟨#[]⟩, .string ⟨#[]⟩, .string ⟨#[]⟩, .string ⟨#[]⟩, .int .u64 0, .string ⟨#[]⟩, .string ⟨#[]⟩, .string ⟨#[]⟩, .string ⟨#[]⟩, .string ⟨#[]⟩, .string ⟨#[]⟩, .string ⟨#[]⟩] 30
  have hs2 : w.heap.size + 1 < w2.heap.size := by have := HZ1.out; have := kp2.size; omega
  have hl3 : Lb (w2.alloc (.cells #[.int .u8 (k.toNat : Int), .int .u64 0, .int .u8 0, .string ⟨#[]⟩, .string ⟨#[]⟩, .string ⟨#[]⟩, .string ⟨#[]⟩, .int .u64 0, .string ⟨#[]⟩, .string ⟨#[]⟩, .string ⟨#[]⟩, .string ⟨#[]⟩, .string ⟨#[]⟩, .string ⟨#[]⟩, .string ⟨#[]⟩] 30)) (w.heap.size + 1) y := Blk.alloc hl2 _
  have r3 := (r0.kp kp2 (by omega)).alloc (.cells #[.int .u8 (k.toNat : Int), .int .u64 0, .int .u8 0, .string ⟨#[]⟩, .string ⟨#[]⟩, .string ⟨#[]⟩, .string ⟨#[]⟩, .int .u64 0, .string ⟨#[]⟩, .string ⟨#[]⟩, .string ⟨#[]⟩, .string ⟨#[]⟩, .string ⟨#[]⟩, .string ⟨#[]⟩, .string ⟨#[]⟩] 30)
  have hb3 := (hb0.trans (kp2.2.mono (by omega : w.heap.size ≤ w.heap.size + 1))).trans ((below_alloc w2 (.cells #[.int .u8 (k.toNat : Int), .int .u64 0, .int .u8 0, .string ⟨#[]⟩, .string ⟨#[]⟩, .string ⟨#[]⟩, .string ⟨#[]⟩, .int .u64 0, .string ⟨#[]⟩, .string ⟨#[]⟩, .string ⟨#[]⟩, .string ⟨#[]⟩, .string ⟨#[]⟩, .string ⟨#[]⟩, .string ⟨#[]⟩] 30)).mono (by omega))
  clear hby hl0 r0 hb0 hl2 kp2
  go_upto_region 3 with fail
  obtain ⟨A, hAn⟩ := named w2.heap.size
  obtain ⟨w3, hw3⟩ := named (w2.alloc (.cells #[.int .u8 (k.toNat : Int), .int .u64 0, .int .u8 0, .string ⟨#[]⟩, .string ⟨#[]⟩, .string ⟨#[]⟩, .string ⟨#[]⟩, .int .u64 0, .string ⟨#[]⟩, .string ⟨#[]⟩, .string ⟨#[]⟩, .string ⟨#[]⟩, .string ⟨#[]⟩, .string ⟨#[]⟩, .string ⟨#[]⟩] 30))
  rw [← hAn.out] at hA3 hs2 ⊢
  rw [← hw3.out] at hA3 hl3 r3 hb3 ⊢
  clear hAn hw3
  go_wp2_with fail
  refine (hwk _ _ hs2 hl3 hA3).mono ?_
  rintro e w4 ⟨rfl, hl4, hA4, hk4⟩
  have r4 := r3.kp2 hk4 (by omega) (by omega)
  have hb4 := hb3.trans hk4.2
  clear hwk hA3 hl3 r3 hb3 hk4
  go_wp2_with fail
  refine (hen _ hl4).mono ?_
  rintro e w5 ⟨rfl, hb5⟩
  have hA5 : Blk w5 A [.int .u8 (rk.toNat : Int), .int .u64 (rn : Int), .int .u8 (rc.toNat : Int), .string ri, .string rt, .string ru, .string rw, .int .u64 (rv : Int), .string s1, .string s2, .string s3, .string s4, .string s5, .string s6, .string s7] 30 := hA4.below hb5
  have r5 := r4.below hb5
  have hb6 := hb4.trans (hb5.mono (by have := hb4.size; omega))
  clear hen hl4 hA4 r4 hb4 hb5
  have x0 := r5.cell
  have f0 := r5.free
  cases q with
  | true =>
    have xa := hA5.cell
    have k6 := (((((((((((((((r5.set 0 (.int .u8 (rk.toNat : Int))).set 1 (.int .u64 (rn : Int))).set 2 (.int .u8 (rc.toNat : Int))).set 3 (.string ri)).set 4 (.string rt)).set 5 (.string ru)).set 6 (.string rw)).set 7 (.int .u64 (rv : Int))).set 8 (.string s1)).set 9 (.string s2)).set 10 (.string s3)).set 11 (.string s4)).set 12 (.string s5)).set 13 (.string s6)).set 14 (.string s7))
    have hb7 := (((((((((((((((hb6.setCell (p := ⟨w.heap.size, 0, none⟩) (Nat.le_refl _) (.int .u8 (rk.toNat : Int))).setCell (p := ⟨w.heap.size, 1, none⟩) (Nat.le_refl _) (.int .u64 (rn : Int))).setCell (p := ⟨w.heap.size, 2, none⟩) (Nat.le_refl _) (.int .u8 (rc.toNat : Int))).setCell (p := ⟨w.heap.size, 3, none⟩) (Nat.le_refl _) (.string ri)).setCell (p := ⟨w.heap.size, 4, none⟩) (Nat.le_refl _) (.string rt)).setCell (p := ⟨w.heap.size, 5, none⟩) (Nat.le_refl _) (.string ru)).setCell (p := ⟨w.heap.size, 6, none⟩) (Nat.le_refl _) (.string rw)).setCell (p := ⟨w.heap.size, 7, none⟩) (Nat.le_refl _) (.int .u64 (rv : Int))).setCell (p := ⟨w.heap.size, 8, none⟩) (Nat.le_refl _) (.string s1)).setCell (p := ⟨w.heap.size, 9, none⟩) (Nat.le_refl _) (.string s2)).setCell (p := ⟨w.heap.size, 10, none⟩) (Nat.le_refl _) (.string s3)).setCell (p := ⟨w.heap.size, 11, none⟩) (Nat.le_refl _) (.string s4)).setCell (p := ⟨w.heap.size, 12, none⟩) (Nat.le_refl _) (.string s5)).setCell (p := ⟨w.heap.size, 13, none⟩) (Nat.le_refl _) (.string s6)).setCell (p := ⟨w.heap.size, 14, none⟩) (Nat.le_refl _) (.string s7))
    have W9 := named (((((((((((((((w5.setCell ⟨w.heap.size, 0, none⟩ (.int .u8 (rk.toNat : Int))).setCell ⟨w.heap.size, 1, none⟩ (.int .u64 (rn : Int))).setCell ⟨w.heap.size, 2, none⟩ (.int .u8 (rc.toNat : Int))).setCell ⟨w.heap.size, 3, none⟩ (.string ri)).setCell ⟨w.heap.size, 4, none⟩ (.string rt)).setCell ⟨w.heap.size, 5, none⟩ (.string ru)).setCell ⟨w.heap.size, 6, none⟩ (.string rw)).setCell ⟨w.heap.size, 7, none⟩ (.int .u64 (rv : Int))).setCell ⟨w.heap.size, 8, none⟩ (.string s1)).setCell ⟨w.heap.size, 9, none⟩ (.string s2)).setCell ⟨w.heap.size, 10, none⟩ (.string s3)).setCell ⟨w.heap.size, 11, none⟩ (.string s4)).setCell ⟨w.heap.size, 12, none⟩ (.string s5)).setCell ⟨w.heap.size, 13, none⟩ (.string s6)).setCell ⟨w.heap.size, 14, none⟩ (.string s7))
    obtain ⟨w6, hw6⟩ := W9
    rw [← hw6.out] at k6 hb7
    go_wp2
    rw [show (((((((((((((((w5.setCell ⟨w.heap.size, 0, none⟩ (.int .u8 (rk.toNat : Int))).setCell ⟨w.heap.size, 1, none⟩ (.int .u64 (rn : Int))).setCell ⟨w.heap.size, 2, none⟩ (.int .u8 (rc.toNat : Int))).setCell ⟨w.heap.size, 3, none⟩ (.string ri)).setCell ⟨w.heap.size, 4, none⟩ (.string rt)).setCell ⟨w.heap.size, 5, none⟩ (.string ru)).setCell ⟨w.heap.size, 6, none⟩ (.string rw)).setCell ⟨w.heap.size, 7, none⟩ (.int .u64 (rv : Int))).setCell ⟨w.heap.size, 8, none⟩ (.string s1)).setCell ⟨w.heap.size, 9, none⟩ (.string s2)).setCell ⟨w.heap.size, 10, none⟩ (.string s3)).setCell ⟨w.heap.size, 11, none⟩ (.string s4)).setCell ⟨w.heap.size, 12, none⟩ (.string s5)).setCell ⟨w.heap.size, 13, none⟩ (.string s6)).setCell ⟨w.heap.size, 14, none⟩ (.string s7)) = w6 from hw6.out.symm]
    clear hw6 x0 f0
    have y0 := k6.cell 0
    have y1 := k6.cell 1
    have y2 := k6.cell 2
    have y3 := k6.cell 3
    have y4 := k6.cell 4
    have y5 := k6.cell 5
    have y6 := k6.cell 6
    have y7 := k6.cell 7
    have y8 := k6.cell 8
    have y9 := k6.cell 9
    have y10 := k6.cell 10
    have y11 := k6.cell 11
    have y12 := k6.cell 12
    have y13 := k6.cell 13
    have y14 := k6.cell 14
    refine bodyPost_ret (v := .tuple #[.agg #[.int .u8 (rk.toNat : Int), .int .u64 (rn : Int), .int .u8 (rc.toNat : Int), .string ri, .string rt, .string ru, .string rw, .int .u64 (rv : Int), .string s1, .string s2, .string s3, .string s4, .string s5, .string s6, .string s7], .int .i64 0]) (by simp [results, Try.results11, go_sem, y0, y1, y2, y3, y4, y5, y6, y7, y8, y9, y10, y11, y12, y13, y14]) rfl ?_
    exact ⟨rfl, hb7⟩
  | false =>
    have k6 := (((((((((((((((r5.set 0 (.int .u8 0)).set 1 (.int .u64 0)).set 2 (.int .u8 0)).set 3 (.string ⟨#[]⟩)).set 4 (.string ⟨#[]⟩)).set 5 (.string ⟨#[]⟩)).set 6 (.string ⟨#[]⟩)).set 7 (.int .u64 0)).set 8 (.string ⟨#[]⟩)).set 9 (.string ⟨#[]⟩)).set 10 (.string ⟨#[]⟩)).set 11 (.string ⟨#[]⟩)).set 12 (.string ⟨#[]⟩)).set 13 (.string ⟨#[]⟩)).set 14 (.string ⟨#[]⟩))
    have hb7 := (((((((((((((((hb6.setCell (p := ⟨w.heap.size, 0, none⟩) (Nat.le_refl _) (.int .u8 0)).setCell (p := ⟨w.heap.size, 1, none⟩) (Nat.le_refl _) (.int .u64 0)).setCell (p := ⟨w.heap.size, 2, none⟩) (Nat.le_refl _) (.int .u8 0)).setCell (p := ⟨w.heap.size, 3, none⟩) (Nat.le_refl _) (.string ⟨#[]⟩)).setCell (p := ⟨w.heap.size, 4, none⟩) (Nat.le_refl _) (.string ⟨#[]⟩)).setCell (p := ⟨w.heap.size, 5, none⟩) (Nat.le_refl _) (.string ⟨#[]⟩)).setCell (p := ⟨w.heap.size, 6, none⟩) (Nat.le_refl _) (.string ⟨#[]⟩)).setCell (p := ⟨w.heap.size, 7, none⟩) (Nat.le_refl _) (.int .u64 0)).setCell (p := ⟨w.heap.size, 8, none⟩) (Nat.le_refl _) (.string ⟨#[]⟩)).setCell (p := ⟨w.heap.size, 9, none⟩) (Nat.le_refl _) (.string ⟨#[]⟩)).setCell (p := ⟨w.heap.size, 10, none⟩) (Nat.le_refl _) (.string ⟨#[]⟩)).setCell (p := ⟨w.heap.size, 11, none⟩) (Nat.le_refl _) (.string ⟨#[]⟩)).setCell (p := ⟨w.heap.size, 12, none⟩) (Nat.le_refl _) (.string ⟨#[]⟩)).setCell (p := ⟨w.heap.size, 13, none⟩) (Nat.le_refl _) (.string ⟨#[]⟩)).setCell (p := ⟨w.heap.size, 14, none⟩) (Nat.le_refl _) (.string ⟨#[]⟩))
    have W9 := named (((((((((((((((w5.setCell ⟨w.heap.size, 0, none⟩ (.int .u8 0)).setCell ⟨w.heap.size, 1, none⟩ (.int .u64 0)).setCell ⟨w.heap.size, 2, none⟩ (.int .u8 0)).setCell ⟨w.heap.size, 3, none⟩ (.string ⟨#[]⟩)).setCell ⟨w.heap.size, 4, none⟩ (.string ⟨#[]⟩)).setCell ⟨w.heap.size, 5, none⟩ (.string ⟨#[]⟩)).setCell ⟨w.heap.size, 6, none⟩ (.string ⟨#[]⟩)).setCell ⟨w.heap.size, 7, none⟩ (.int .u64 0)).setCell ⟨w.heap.size, 8, none⟩ (.string ⟨#[]⟩)).setCell ⟨w.heap.size, 9, none⟩ (.string ⟨#[]⟩)).setCell ⟨w.heap.size, 10, none⟩ (.string ⟨#[]⟩)).setCell ⟨w.heap.size, 11, none⟩ (.string ⟨#[]⟩)).setCell ⟨w.heap.size, 12, none⟩ (.string ⟨#[]⟩)).setCell ⟨w.heap.size, 13, none⟩ (.string ⟨#[]⟩)).setCell ⟨w.heap.size, 14, none⟩ (.string ⟨#[]⟩))
    obtain ⟨w6, hw6⟩ := W9
    rw [← hw6.out] at k6 hb7
    go_wp2
    rw [show (((((((((((((((w5.setCell ⟨w.heap.size, 0, none⟩ (.int .u8 0)).setCell ⟨w.heap.size, 1, none⟩ (.int .u64 0)).setCell ⟨w.heap.size, 2, none⟩ (.int .u8 0)).setCell ⟨w.heap.size, 3, none⟩ (.string ⟨#[]⟩)).setCell ⟨w.heap.size, 4, none⟩ (.string ⟨#[]⟩)).setCell ⟨w.heap.size, 5, none⟩ (.string ⟨#[]⟩)).setCell ⟨w.heap.size, 6, none⟩ (.string ⟨#[]⟩)).setCell ⟨w.heap.size, 7, none⟩ (.int .u64 0)).setCell ⟨w.heap.size, 8, none⟩ (.string ⟨#[]⟩)).setCell ⟨w.heap.size, 9, none⟩ (.string ⟨#[]⟩)).setCell ⟨w.heap.size, 10, none⟩ (.string ⟨#[]⟩)).setCell ⟨w.heap.size, 11, none⟩ (.string ⟨#[]⟩)).setCell ⟨w.heap.size, 12, none⟩ (.string ⟨#[]⟩)).setCell ⟨w.heap.size, 13, none⟩ (.string ⟨#[]⟩)).setCell ⟨w.heap.size, 14, none⟩ (.string ⟨#[]⟩)) = w6 from hw6.out.symm]
    clear hw6 x0 f0
    have y0 := k6.cell 0
    have y1 := k6.cell 1
    have y2 := k6.cell 2
    have y3 := k6.cell 3
    have y4 := k6.cell 4
    have y5 := k6.cell 5
    have y6 := k6.cell 6
    have y7 := k6.cell 7
    have y8 := k6.cell 8
    have y9 := k6.cell 9
    have y10 := k6.cell 10
    have y11 := k6.cell 11
    have y12 := k6.cell 12
    have y13 := k6.cell 13
    have y14 := k6.cell 14
    refine bodyPost_ret (v := .tuple #[.agg #[.int .u8 0, .int .u64 0, .int .u8 0, .string ⟨#[]⟩, .string ⟨#[]⟩, .string ⟨#[]⟩, .string ⟨#[]⟩, .int .u64 0, .string ⟨#[]⟩, .string ⟨#[]⟩, .string ⟨#[]⟩, .string ⟨#[]⟩, .string ⟨#[]⟩, .string ⟨#[]⟩, .string ⟨#[]⟩], .int .i64 14]) (by simp [results, Try.results11, go_sem, y0, y1, y2, y3, y4, y5, y6, y7, y8, y9, y10, y11, y12, y13, y14]) rfl ?_
    exact ⟨rfl, hb7⟩
end Go.Proofs.Ytiodfbbgbnbdpaa
