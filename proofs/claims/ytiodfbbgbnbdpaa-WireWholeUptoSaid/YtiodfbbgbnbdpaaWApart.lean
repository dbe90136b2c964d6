/- The walk of WireApart. -/
import Derived.Test.YtiodfbbgbnbdpaaWLives
namespace Go.Proofs.Ytiodfbbgbnbdpaa
set_option linter.unusedSimpArgs false
set_option linter.unusedVariables false
open Go.RowKit
open Crc
set_option maxHeartbeats 1000000 in
theorem ask_eql (a b : Ask) (W : World) (ha : a.ts.length = 7) (hb : b.ts.length = 7) : (binOp .eql 30 (.agg (askCells a).toArray) (.agg (askCells b).toArray)).run Try.prog W = .ok (.bool (decide (a = b))) W := by
  obtain ⟨k, n, ⟨ck, id, tx, ut, ui⟩, v, ts⟩ := a
  obtain ⟨k', n', ⟨ck', id', tx', ut', ui'⟩, v', ts'⟩ := b
  simp only at ha hb
  match ts, ha with
  | [a1, a2, a3, a4, a5, a6, a7], _ =>
  match ts', hb with
  | [b1, b2, b3, b4, b5, b6, b7], _ =>
  unfold askCells askHead strs
  simp only [Ask.mk.injEq, Chg.mk.injEq, List.cons.injEq, and_true, List.map_cons, List.map_nil, List.cons_append, List.nil_append]
  simp [go_sem, text_iff, Int.natCast_inj, UInt8.toNat_inj]
  refine dite (k = k') (fun h => ?_) (fun h => by simp [h])
  subst h
  rw [if_pos rfl]
  refine dite (n = n') (fun h => ?_) (fun h => by simp [h])
  subst h
  rw [if_pos rfl]
  refine dite (ck = ck') (fun h => ?_) (fun h => by simp [h])
  subst h
  rw [if_pos rfl]
  refine dite (id = id') (fun h => ?_) (fun h => by simp [h])
  subst h
  rw [if_pos rfl]
  refine dite (tx = tx') (fun h => ?_) (fun h => by simp [h])
  subst h
  rw [if_pos rfl]
  refine dite (ut = ut') (fun h => ?_) (fun h => by simp [h])
  subst h
  rw [if_pos rfl]
  refine dite (ui = ui') (fun h => ?_) (fun h => by simp [h])
  subst h
  rw [if_pos rfl]
  refine dite (v = v') (fun h => ?_) (fun h => by simp [h])
  subst h
  rw [if_pos rfl]
  refine dite (a1 = b1) (fun h => ?_) (fun h => by simp [h])
  subst h
  rw [if_pos rfl]
  refine dite (a2 = b2) (fun h => ?_) (fun h => by simp [h])
  subst h
  rw [if_pos rfl]
  refine dite (a3 = b3) (fun h => ?_) (fun h => by simp [h])
  subst h
  rw [if_pos rfl]
  refine dite (a4 = b4) (fun h => ?_) (fun h => by simp [h])
  subst h
  rw [if_pos rfl]
  refine dite (a5 = b5) (fun h => ?_) (fun h => by simp [h])
  subst h
  rw [if_pos rfl]
  refine dite (a6 = b6) (fun h => ?_) (fun h => by simp [h])
  subst h
  rw [if_pos rfl]
  refine dite (a7 = b7) (fun h => ?_) (fun h => by simp [h])
  subst h
  rw [if_pos rfl]
  simp
theorem writeA_ok {a : Ask} (h : (writeA a).2 = 0) : readA (writeA a).1 = some a := by
  unfold writeA at h ⊢
  by_cases hc : (encW a).2 = false ∧ readA (a.k :: (encW a).1) = some a
  · rw [if_pos hc]; exact hc.2
  · rw [if_neg hc] at h; exact absurd h (by simp)
theorem apart_law {a b : Ask} (ha : (writeA a).2 = 0) (hb : (writeA b).2 = 0) : (str (writeA a).1 = str (writeA b).1) ↔ a = b := by
  constructor
  · intro h
    have h1 := writeA_ok ha
    have h2 := writeA_ok hb
    rw [str_inj h, h2] at h1
    exact (Option.some.inj h1).symm
  · rintro rfl
    rfl
set_option maxRecDepth 100000 in
set_option maxHeartbeats 2000000 in
theorem wireapart_x (ak ac : UInt8) (an av : Nat) (ai ax au aw s1 s2 s3 s4 s5 s6 s7 : ByteArray) (bk bc : UInt8) (bn bv : Nat) (bi bx bu bw r1 r2 r3 r4 r5 r6 r7 : ByteArray) (S R : ByteArray) (E1 E2 : Int) (q : Bool) (w : World)
    (h1 : ∀ W, Calls Try.prog 9 #[.agg #[.int .u8 (ak.toNat : Int), .int .u64 (an : Int), .int .u8 (ac.toNat : Int), .string ai, .string ax, .string au, .string aw, .int .u64 (av : Int), .string s1, .string s2, .string s3, .string s4, .string s5, .string s6, .string s7]] W fun e w' => e = .returned (.tuple #[.string S, .int .i64 E1]) ∧ Below W.heap.size W w')
    (h2 : ∀ W, Calls Try.prog 9 #[.agg #[.int .u8 (bk.toNat : Int), .int .u64 (bn : Int), .int .u8 (bc.toNat : Int), .string bi, .string bx, .string bu, .string bw, .int .u64 (bv : Int), .string r1, .string r2, .string r3, .string r4, .string r5, .string r6, .string r7]] W fun e w' => e = .returned (.tuple #[.string R, .int .i64 E2]) ∧ Below W.heap.size W w')
    (heq : ∀ W : World, (binOp .eql 30 (.agg #[.int .u8 (ak.toNat : Int), .int .u64 (an : Int), .int .u8 (ac.toNat : Int), .string ai, .string ax, .string au, .string aw, .int .u64 (av : Int), .string s1, .string s2, .string s3, .string s4, .string s5, .string s6, .string s7]) (.agg #[.int .u8 (bk.toNat : Int), .int .u64 (bn : Int), .int .u8 (bc.toNat : Int), .string bi, .string bx, .string bu, .string bw, .int .u64 (bv : Int), .string r1, .string r2, .string r3, .string r4, .string r5, .string r6, .string r7])).run Try.prog W = .ok (.bool q) W) (HL : Hid (E1 = 0 → E2 = 0 → (S = R ↔ q = true))) :
    Calls Try.prog 4 #[.agg #[.int .u8 (ak.toNat : Int), .int .u64 (an : Int), .int .u8 (ac.toNat : Int), .string ai, .string ax, .string au, .string aw, .int .u64 (av : Int), .string s1, .string s2, .string s3, .string s4, .string s5, .string s6, .string s7], .agg #[.int .u8 (bk.toNat : Int), .int .u64 (bn : Int), .int .u8 (bc.toNat : Int), .string bi, .string bx, .string bu, .string bw, .int .u64 (bv : Int), .string r1, .string r2, .string r3, .string r4, .string r5, .string r6, .string r7]] w fun e w' => e = .returned (.bool true) ∧ Below w.heap.size w w' := by
  have hA := (Blk.new w [.int .u8 (ak.toNat : Int), .int .u64 (an : Int), .int .u8 (ac.toNat : Int), .string ai, .string ax, .string au, .string aw, .int .u64 (av : Int), .string s1, .string s2, .string s3, .string s4, .string s5, .string s6, .string s7] 30).alloc (.cells #[.int .u8 (bk.toNat : Int), .int .u64 (bn : Int), .int .u8 (bc.toNat : Int), .string bi, .string bx, .string bu, .string bw, .int .u64 (bv : Int), .string r1, .string r2, .string r3, .string r4, .string r5, .string r6, .string r7] 30)
  have hB := Blk.new (w.alloc (.cells #[.int .u8 (ak.toNat : Int), .int .u64 (an : Int), .int .u8 (ac.toNat : Int), .string ai, .string ax, .string au, .string aw, .int .u64 (av : Int), .string s1, .string s2, .string s3, .string s4, .string s5, .string s6, .string s7] 30)) [.int .u8 (bk.toNat : Int), .int .u64 (bn : Int), .int .u8 (bc.toNat : Int), .string bi, .string bx, .string bu, .string bw, .int .u64 (bv : Int), .string r1, .string r2, .string r3, .string r4, .string r5, .string r6, .string r7] 30
  rw [show (w.alloc (.cells #[.int .u8 (ak.toNat : Int), .int .u64 (an : Int), .int .u8 (ac.toNat : Int), .string ai, .string ax, .string au, .string aw, .int .u64 (av : Int), .string s1, .string s2, .string s3, .string s4, .string s5, .string s6, .string s7] 30)).heap.size = w.heap.size + 1 by simp] at hB
  have hb := bt (below_alloc w (.cells #[.int .u8 (ak.toNat : Int), .int .u64 (an : Int), .int .u8 (ac.toNat : Int), .string ai, .string ax, .string au, .string aw, .int .u64 (av : Int), .string s1, .string s2, .string s3, .string s4, .string s5, .string s6, .string s7] 30)) (below_alloc _ (.cells #[.int .u8 (bk.toNat : Int), .int .u64 (bn : Int), .int .u8 (bc.toNat : Int), .string bi, .string bx, .string bu, .string bw, .int .u64 (bv : Int), .string r1, .string r2, .string r3, .string r4, .string r5, .string r6, .string r7] 30))
  go_enter Try.func4, Try.ntmps4
  go_upto_region 1 with fail
  obtain ⟨w1, hw1⟩ := named ((w.alloc (.cells #[.int .u8 (ak.toNat : Int), .int .u64 (an : Int), .int .u8 (ac.toNat : Int), .string ai, .string ax, .string au, .string aw, .int .u64 (av : Int), .string s1, .string s2, .string s3, .string s4, .string s5, .string s6, .string s7] 30)).alloc (.cells #[.int .u8 (bk.toNat : Int), .int .u64 (bn : Int), .int .u8 (bc.toNat : Int), .string bi, .string bx, .string bu, .string bw, .int .u64 (bv : Int), .string r1, .string r2, .string r3, .string r4, .string r5, .string r6, .string r7] 30))
  rw [← hw1.out] at hA hB hb ⊢
  clear hw1
  go_wp2_with fail
  refine (lives19_w _).mono ?_
  rintro e w2 ⟨rfl, hb2⟩
  replace hA := hA.below hb2
  replace hB := hB.below hb2
  replace hb := bt hb hb2
  clear hb2
  have xA := hA.cell
  go_wp2_with fail
  clear xA
  refine (h1 _).mono ?_
  rintro e w3 ⟨rfl, hb3⟩
  replace hA := hA.below hb3
  replace hB := hB.below hb3
  replace hb := bt hb hb3
  clear hb3 h1
  have xB := hB.cell
  go_wp2_with fail
  clear xB
  refine (h2 _).mono ?_
  rintro e w4 ⟨rfl, hb4⟩
  replace hA := hA.below hb4
  replace hB := hB.below hb4
  replace hb := bt hb hb4
  clear hb4 h2
  by_cases c1 : E1 = 0
  case neg =>
    have t1 : (E1 != 0) = true := by simp [c1]
    have t2 : (E1 == 0) = false := by simp [c1]
    clear c1 HL hA hB heq
    go_wp2
    go_ret
    exact ⟨by simp, hb⟩
  by_cases c2 : E2 = 0
  case neg =>
    have t1 : (E2 != 0) = true := by simp [c2]
    have t2 : (E2 == 0) = false := by simp [c2]
    subst c1
    clear c2 HL hA hB heq
    go_wp2
    go_ret
    exact ⟨by simp, hb⟩
  have hiff := HL.out c1 c2
  subst c1
  subst c2
  have xA := hA.cell
  have xB := hB.cell
  cases q with
  | true =>
    have hSR : S = R := hiff.2 rfl
    clear hiff HL hA hB
    subst hSR
    go_wp2
    go_ret
    exact ⟨by simp, hb⟩
  | false =>
    have hSR : ¬ S = R := fun h => absurd (hiff.1 h) (by decide)
    have hne : (S.toList == R.toList) = false := by
      have : ¬ S.toList = R.toList := fun h => hSR ((text_iff S R).1 h)
      simpa using this
    clear hiff HL hA hB hSR
    go_wp2
    go_ret
    exact ⟨by simp, hb⟩
end Go.Proofs.Ytiodfbbgbnbdpaa
