/- wire.WriteAsk. -/
import Derived.Test.YtiodfbbgbnbdpaaWWalk2
import Derived.Test.YtiodfbbgbnbdpaaReadAsk
namespace Go.Proofs.Ytiodfbbgbnbdpaa
set_option linter.unusedSimpArgs false
set_option linter.unusedVariables false
open Go.RowKit
open Crc
/-- What a request is written as, and why it is not. -/
def writeA (a : Ask) : List UInt8 × Int := if (encW a).2 = false ∧ readA (a.k :: (encW a).1) = some a then (a.k :: (encW a).1, 0) else ([], 14)
theorem BuT.newP (T : TypeId) (ex : List Value) (P : Nat → Prop) {B : Nat} {w : World} (hB : B ≤ w.heap.size) (hP : ∀ k, P k → k < w.heap.size ∧ Small w k) : BuT T ex B w.heap.size P [] (w.alloc (.cells (Value.pointer none :: .slice none 0 0 :: ex).toArray T)) :=
  ⟨hB, .pointer none, .slice none 0 0, .inl rfl, Blk.new w _ T, ⟨rfl, .inl ⟨rfl, rfl⟩⟩, by simp [Value.ownBlock], fun _ => rfl, fun k hk => by
    obtain ⟨h1, h2⟩ := hP k hk
    refine ⟨by simp; omega, by omega, fun cs fz hc => h2 cs fz ?_, by simp [Value.ownBlock]⟩
    rw [← (below_alloc w (.cells (Value.pointer none :: .slice none 0 0 :: ex).toArray T)).block k h1]
    exact hc⟩
theorem encW_len (a : Ask) (ht : a.ts.length = 7) (hsz : ∀ t ∈ a.ts, t.size < 16777216) : (encW a).1.length ≤ 200000000 := by
  have h1 := txts_len a.ts 16777216 hsz
  rw [ht] at h1
  have h2 := packR_len a.c
  unfold encW
  split
  · simp
  · split
    · simp only [List.length_append, putL_length]; omega
    · split
      · simp only [putL_length]; omega
      · split
        · simp only; omega
        · split
          · simp only [List.length_append, putL_length]; omega
          · simp
theorem readA_ts {l : List UInt8} {b : Ask} (h : readA l = some b) : b.ts.length = 7 := by
  unfold readA at h
  split at h
  · cases h
    exact walkR_ts _ _ rfl
  · cases h
set_option maxRecDepth 100000 in
set_option maxHeartbeats 2000000 in
theorem writeAsk_w (a : Ask) (w : World) (ht : a.ts.length = 7) (hsz : ∀ t ∈ a.ts, t.size < 16777216) :
    Calls Try.prog 9 #[.agg (askCells a).toArray] w fun e w' => e = .returned (.tuple #[.string (str (writeA a).1), .int .i64 (writeA a).2]) ∧ Below w.heap.size w w' := by
  have hel := encW_len a ht hsz
  have hts := @readA_ts
  have hww := fun (W : World) (P : Nat → Prop) (bs : List UInt8) (h : Wr w.heap.size (w.heap.size + 1) P bs false W) (hA : P w.heap.size) (ha : Blk W w.heap.size (askCells a) 30) (h1 : 1 ≤ bs.length) (hb : bs.length ≤ 100) => wwalk_w h hA ha ht hsz h1 hb
  have hne := fun (b : Ask) (hb : b.ts.length = 7) (W : World) => ask_neq a b W ht hb
  have hre := fun W => readAsk_w (str (a.k :: (encW a).1)) W (by rw [str_size, List.length_cons]; omega)
  rw [str_data] at hre
  have hst := fun (W : World) (P : Nat → Prop) (h : Wr w.heap.size (w.heap.size + 1) P (a.k :: (encW a).1) (encW a).2 W) => stringT w.heap.size (w.heap.size + 1) (a.k :: (encW a).1) W h (by decide) (by simp)
  have hF : writeA a = if (encW a).2 = false ∧ readA (a.k :: (encW a).1) = some a then (a.k :: (encW a).1, 0) else ([], 14) := rfl
  obtain ⟨F, hFn⟩ := named (writeA a)
  rw [← hFn.out] at hF ⊢
  clear hFn
  have HF := hide hF
  clear hF
  obtain ⟨s, hs⟩ := named (a.k :: (encW a).1)
  have hs2 : [a.k] ++ (encW a).1 = s := by rw [hs.out]; rfl
  simp only [← hs.out] at hre hst
  replace HF : Hid (F = if (encW a).2 = false ∧ readA s = some a then (s, 0) else ([], 14)) := by rw [hs.out]; exact HF
  obtain ⟨E, hE⟩ := named (encW a)
  simp only [← hE.out] at hww hst hs2
  replace HF : Hid (F = if E.2 = false ∧ readA s = some a then (s, 0) else ([], 14)) := by rw [hE.out]; exact HF
  have HS := hide hs2
  clear hs hE hel hs2
  obtain ⟨Rd, hRd⟩ := named (readA s)
  have HTS : Hid (∀ b, Rd = some b → b.ts.length = 7) := fun b hb => hts (by rw [← hRd.out]; exact hb)
  simp only [← hRd.out] at hre
  replace HF : Hid (F = if E.2 = false ∧ Rd = some a then (s, 0) else ([], 14)) := by rw [hRd.out]; exact HF
  clear hRd hts
  obtain ⟨S, hS⟩ := named (str s)
  simp only [← hS.out] at hre hst
  obtain ⟨E1, E2⟩ := E
  simp only at hww hst HS
  obtain ⟨ak, an, ⟨ac, ai, ax, au, aw⟩, av, ats⟩ := a
  simp only at ht hsz
  match ats, ht with
  | [s1, s2, s3, s4, s5, s6, s7], _ =>
  have hA0 := Blk.new w [.int .u8 (ak.toNat : Int), .int .u64 (an : Int), .int .u8 (ac.toNat : Int), .string ai, .string ax, .string au, .string aw, .int .u64 (av : Int), .string s1, .string s2, .string s3, .string s4, .string s5, .string s6, .string s7] 30
  have hb0 := below_alloc w (.cells #[.int .u8 (ak.toNat : Int), .int .u64 (an : Int), .int .u8 (ac.toNat : Int), .string ai, .string ax, .string au, .string aw, .int .u64 (av : Int), .string s1, .string s2, .string s3, .string s4, .string s5, .string s6, .string s7] 30)
  have hw0 : Wr w.heap.size (w.heap.size + 1) (fun i => i = w.heap.size) [] false ((w.alloc (.cells #[.int .u8 (ak.toNat : Int), .int .u64 (an : Int), .int .u8 (ac.toNat : Int), .string ai, .string ax, .string au, .string aw, .int .u64 (av : Int), .string s1, .string s2, .string s3, .string s4, .string s5, .string s6, .string s7] 30)).alloc (.cells #[.pointer none, .slice none 0 0, .bool false] 58)) := by
    have := BuT.newP 58 [.bool false] (fun i => i = w.heap.size) (B := w.heap.size) (w := w.alloc (.cells #[.int .u8 (ak.toNat : Int), .int .u64 (an : Int), .int .u8 (ac.toNat : Int), .string ai, .string ax, .string au, .string aw, .int .u64 (av : Int), .string s1, .string s2, .string s3, .string s4, .string s5, .string s6, .string s7] 30)) hb0.size (fun k hk => by subst hk; exact ⟨hA0.lt, small_blk hA0 (by decide)⟩)
    rw [show (w.alloc (.cells #[.int .u8 (ak.toNat : Int), .int .u64 (an : Int), .int .u8 (ac.toNat : Int), .string ai, .string ax, .string au, .string aw, .int .u64 (av : Int), .string s1, .string s2, .string s3, .string s4, .string s5, .string s6, .string s7] 30)).heap.size = w.heap.size + 1 by simp] at this
    exact this
  have hA1 := hA0.alloc (.cells #[.pointer none, .slice none 0 0, .bool false] 58)
  have hb1 := bt hb0 (below_alloc _ (.cells #[.pointer none, .slice none 0 0, .bool false] 58))
  have hw2 := BuT.more hw0 (.cells #[.int .u8 (ak.toNat : Int)] 5) (fun cs fz he => by injection he with e1; subst e1; simp)
  rw [show ((w.alloc (.cells #[.int .u8 (ak.toNat : Int), .int .u64 (an : Int), .int .u8 (ac.toNat : Int), .string ai, .string ax, .string au, .string aw, .int .u64 (av : Int), .string s1, .string s2, .string s3, .string s4, .string s5, .string s6, .string s7] 30)).alloc (.cells #[.pointer none, .slice none 0 0, .bool false] 58)).heap.size = w.heap.size + 1 + 1 by simp] at hw2
  have hA2 := hA1.alloc (.cells #[.int .u8 (ak.toNat : Int)] 5)
  have hb2 := bt hb1 (below_alloc _ (.cells #[.int .u8 (ak.toNat : Int)] 5))
  have hK2 := Blk.new ((w.alloc (.cells #[.int .u8 (ak.toNat : Int), .int .u64 (an : Int), .int .u8 (ac.toNat : Int), .string ai, .string ax, .string au, .string aw, .int .u64 (av : Int), .string s1, .string s2, .string s3, .string s4, .string s5, .string s6, .string s7] 30)).alloc (.cells #[.pointer none, .slice none 0 0, .bool false] 58)) [.int .u8 (ak.toNat : Int)] 5
  rw [show ((w.alloc (.cells #[.int .u8 (ak.toNat : Int), .int .u64 (an : Int), .int .u8 (ac.toNat : Int), .string ai, .string ax, .string au, .string aw, .int .u64 (av : Int), .string s1, .string s2, .string s3, .string s4, .string s5, .string s6, .string s7] 30)).alloc (.cells #[.pointer none, .slice none 0 0, .bool false] 58)).heap.size = w.heap.size + 1 + 1 by simp] at hK2
  have xa1 := hA1.cell
  clear hA0 hb0 hw0 hb1 hA1
  show Calls Try.prog 9 #[.agg #[.int .u8 (ak.toNat : Int), .int .u64 (an : Int), .int .u8 (ac.toNat : Int), .string ai, .string ax, .string au, .string aw, .int .u64 (av : Int), .string s1, .string s2, .string s3, .string s4, .string s5, .string s6, .string s7]] w _
  go_enter Try.func9, Try.ntmps9
  go_upto_region 3 with fail
  obtain ⟨w3, hw3⟩ := named (((w.alloc (.cells #[.int .u8 (ak.toNat : Int), .int .u64 (an : Int), .int .u8 (ac.toNat : Int), .string ai, .string ax, .string au, .string aw, .int .u64 (av : Int), .string s1, .string s2, .string s3, .string s4, .string s5, .string s6, .string s7] 30)).alloc (.cells #[.pointer none, .slice none 0 0, .bool false] 58)).alloc (.cells #[.int .u8 (ak.toNat : Int)] 5))
  rw [← hw3.out] at hw2 hA2 hb2 hK2 ⊢
  clear hw3 xa1
  have hby := wbyte_w w.heap.size (w.heap.size + 1) (w.heap.size + 1 + 1) 0 _ [] false ak w3 hw2 (.inr rfl) (by rw [hK2.cell]; rfl) (by decide)
  go_wp2_with fail
  refine hby.mono ?_
  rintro e w4 ⟨rfl, hw4, kp4⟩
  have hA4 := hA2.kP kp4 (.inl rfl)
  have hb4 := hb2.trans kp4.2
  clear hby hw2 hA2 hb2 hK2 kp4
  go_wp2_with fail
  refine (hww _ _ _ hw4 (.inl rfl) hA4 (by simp) (by simp)).mono ?_
  rintro e w5 ⟨rfl, hw5, kp5⟩
  have hA5 := hA4.kP kp5 (.inl rfl)
  have hb5 := hb4.trans kp5.2
  rw [Bool.false_or, List.nil_append, HS.out] at hw5
  clear hww hw4 hA4 hb4 kp5
  have cb := hw5.cell.1
  go_wp2_with fail
  refine (hst _ _ hw5).mono ?_
  rintro e w6 ⟨rfl, kp6⟩
  have hA6 := hA5.kP kp6 (.inl (.inl rfl))
  have hb6 := hb5.trans kp6.2
  have cb6 := (kp6.cell (o := 2) (.inr rfl)).trans cb
  have hG6 : w.heap.size + 1 < w6.heap.size := by have h1 := hw5.isP; have := kp6.size; obtain ⟨_, p, v, _, h3, _⟩ := hw5; have := h3.lt; omega
  clear hst hw5 hA5 hb5 kp6 cb
  go_wp2_with fail
  refine (hre _).mono ?_
  rintro e w7 ⟨rfl, hb7⟩
  have hA7 := hA6.below hb7
  have hb8 := hb6.trans (hb7.mono (by have := hb6.size; omega))
  have cb7 : w7.cell? ⟨w.heap.size + 1, 2, none⟩ = some (.bool E2) := (World.cell?_of_block (hb7.block _ hG6)).trans cb6
  have hs7 := hb7.size
  clear hre hA6 hb6 cb6 hb7
  cases Rd with
  | none =>
    have hA8 : Blk (w7.alloc (.cells #[.int .u8 0, .int .u64 0, .int .u8 0, .string ⟨#[]⟩, .string ⟨#[]⟩, .string ⟨#[]⟩, .string ⟨#[]⟩, .int .u64 0, .string ⟨#[]⟩, .string ⟨#[]⟩, .string ⟨#[]⟩, .string ⟨#[]⟩, .string ⟨#[]⟩, .string ⟨#[]⟩, .string ⟨#[]⟩] 30)) w.heap.size (askCells (⟨ak, an, ⟨ac, ai, ax, au, aw⟩, av, [s1, s2, s3, s4, s5, s6, s7]⟩ : Ask)) 30 := hA7.alloc _
    have hb9 := hb8.trans ((below_alloc w7 (.cells #[.int .u8 0, .int .u64 0, .int .u8 0, .string ⟨#[]⟩, .string ⟨#[]⟩, .string ⟨#[]⟩, .string ⟨#[]⟩, .int .u64 0, .string ⟨#[]⟩, .string ⟨#[]⟩, .string ⟨#[]⟩, .string ⟨#[]⟩, .string ⟨#[]⟩, .string ⟨#[]⟩, .string ⟨#[]⟩] 30)).mono (by omega))
    have cb8 : (w7.alloc (.cells #[.int .u8 0, .int .u64 0, .int .u8 0, .string ⟨#[]⟩, .string ⟨#[]⟩, .string ⟨#[]⟩, .string ⟨#[]⟩, .int .u64 0, .string ⟨#[]⟩, .string ⟨#[]⟩, .string ⟨#[]⟩, .string ⟨#[]⟩, .string ⟨#[]⟩, .string ⟨#[]⟩, .string ⟨#[]⟩] 30)).cell? ⟨w.heap.size + 1, 2, none⟩ = some (.bool E2) := (World.cell?_of_block ((below_alloc w7 _).block _ (by show w.heap.size + 1 < w7.heap.size; omega))).trans cb7
    unfold readV
    clear hne HTS hA7 cb7 hb8
    cases E2 with
    | true =>
      go_wp2
      go_ret2
      refine ⟨?_, hb9⟩
      rw [HF.out, if_neg (by simp)]
      rfl
    | false =>
      go_wp2
      go_ret2
      refine ⟨?_, hb9⟩
      rw [HF.out, if_neg (by simp)]
      rfl
  | some b =>
    have hbt := HTS.out b rfl
    have hn := hne b hbt
    obtain ⟨bk, bn, ⟨bc, bi, bx, bu, bw⟩, bv, bts⟩ := b
    simp only at hbt
    match bts, hbt with
    | [r1, r2, r3, r4, r5, r6, r7], _ =>
    rw [show readV (some (⟨bk, bn, ⟨bc, bi, bx, bu, bw⟩, bv, [r1, r2, r3, r4, r5, r6, r7]⟩ : Ask)) = .tuple #[.agg #[.int .u8 (bk.toNat : Int), .int .u64 (bn : Int), .int .u8 (bc.toNat : Int), .string bi, .string bx, .string bu, .string bw, .int .u64 (bv : Int), .string r1, .string r2, .string r3, .string r4, .string r5, .string r6, .string r7], .int .i64 0] from rfl]
    have hn' : ∀ W : World, (binOp .neq 30 (.agg #[.int .u8 (ak.toNat : Int), .int .u64 (an : Int), .int .u8 (ac.toNat : Int), .string ai, .string ax, .string au, .string aw, .int .u64 (av : Int), .string s1, .string s2, .string s3, .string s4, .string s5, .string s6, .string s7]) (.agg #[.int .u8 (bk.toNat : Int), .int .u64 (bn : Int), .int .u8 (bc.toNat : Int), .string bi, .string bx, .string bu, .string bw, .int .u64 (bv : Int), .string r1, .string r2, .string r3, .string r4, .string r5, .string r6, .string r7])).run Try.prog W = .ok (.bool (!decide ((⟨ak, an, ⟨ac, ai, ax, au, aw⟩, av, [s1, s2, s3, s4, s5, s6, s7]⟩ : Ask) = (⟨bk, bn, ⟨bc, bi, bx, bu, bw⟩, bv, [r1, r2, r3, r4, r5, r6, r7]⟩ : Ask)))) W := hn
    have hA8 : Blk (w7.alloc (.cells #[.int .u8 (bk.toNat : Int), .int .u64 (bn : Int), .int .u8 (bc.toNat : Int), .string bi, .string bx, .string bu, .string bw, .int .u64 (bv : Int), .string r1, .string r2, .string r3, .string r4, .string r5, .string r6, .string r7] 30)) w.heap.size [.int .u8 (ak.toNat : Int), .int .u64 (an : Int), .int .u8 (ac.toNat : Int), .string ai, .string ax, .string au, .string aw, .int .u64 (av : Int), .string s1, .string s2, .string s3, .string s4, .string s5, .string s6, .string s7] 30 := hA7.alloc _
    have hN8 := Blk.new w7 [.int .u8 (bk.toNat : Int), .int .u64 (bn : Int), .int .u8 (bc.toNat : Int), .string bi, .string bx, .string bu, .string bw, .int .u64 (bv : Int), .string r1, .string r2, .string r3, .string r4, .string r5, .string r6, .string r7] 30
    have hb9 := hb8.trans ((below_alloc w7 (.cells #[.int .u8 (bk.toNat : Int), .int .u64 (bn : Int), .int .u8 (bc.toNat : Int), .string bi, .string bx, .string bu, .string bw, .int .u64 (bv : Int), .string r1, .string r2, .string r3, .string r4, .string r5, .string r6, .string r7] 30)).mono (by omega))
    have cb8 : (w7.alloc (.cells #[.int .u8 (bk.toNat : Int), .int .u64 (bn : Int), .int .u8 (bc.toNat : Int), .string bi, .string bx, .string bu, .string bw, .int .u64 (bv : Int), .string r1, .string r2, .string r3, .string r4, .string r5, .string r6, .string r7] 30)).cell? ⟨w.heap.size + 1, 2, none⟩ = some (.bool E2) := (World.cell?_of_block ((below_alloc w7 _).block _ (by show w.heap.size + 1 < w7.heap.size; omega))).trans cb7
    clear hne hn HTS hA7 cb7 hb8
    cases E2 with
    | true =>
      clear hn'
      go_wp2
      go_ret2
      refine ⟨?_, hb9⟩
      rw [HF.out, if_neg (by simp)]
      rfl
    | false =>
      have xA := hA8.cell
      have xN := hN8.cell
      by_cases heq : (⟨ak, an, ⟨ac, ai, ax, au, aw⟩, av, [s1, s2, s3, s4, s5, s6, s7]⟩ : Ask) = (⟨bk, bn, ⟨bc, bi, bx, bu, bw⟩, bv, [r1, r2, r3, r4, r5, r6, r7]⟩ : Ask)
      · have hd : (!decide ((⟨ak, an, ⟨ac, ai, ax, au, aw⟩, av, [s1, s2, s3, s4, s5, s6, s7]⟩ : Ask) = (⟨bk, bn, ⟨bc, bi, bx, bu, bw⟩, bv, [r1, r2, r3, r4, r5, r6, r7]⟩ : Ask))) = false := by simp only [heq, decide_true, Bool.not_true]
        rw [hd] at hn'
        have HEQ := hide heq
        clear heq hd hA8 hN8
        go_wp2
        go_ret2
        refine ⟨?_, hb9⟩
        rw [HF.out, if_pos (by first | exact ⟨rfl, congrArg some HEQ.out.symm⟩ | exact ⟨trivial, congrArg some HEQ.out.symm⟩ | simp [HEQ.out]), ← hS.out]
        rfl
      · have hd : (!decide ((⟨ak, an, ⟨ac, ai, ax, au, aw⟩, av, [s1, s2, s3, s4, s5, s6, s7]⟩ : Ask) = (⟨bk, bn, ⟨bc, bi, bx, bu, bw⟩, bv, [r1, r2, r3, r4, r5, r6, r7]⟩ : Ask))) = true := by rw [decide_eq_false heq]; rfl
        rw [hd] at hn'
        have HEQ := hide heq
        clear heq hd hA8 hN8
        go_wp2
        go_ret2
        refine ⟨?_, hb9⟩
        rw [HF.out, if_neg (fun h => HEQ.out (Option.some.inj h.2).symm)]
        rfl
end Go.Proofs.Ytiodfbbgbnbdpaa
