/- The walk of WireAsks. -/
import Derived.Test.YtiodfbbgbnbdpaaRefRead
import Derived.Test.YtiodfbbgbnbdpaaWApart2
namespace Go.Proofs.Ytiodfbbgbnbdpaa
set_option linter.unusedSimpArgs false
set_option linter.unusedVariables false
open Go.RowKit
open Crc
set_option maxRecDepth 100000 in
set_option maxHeartbeats 2000000 in
theorem asks_x (ak ac bk bc : UInt8) (an av bn bv : Nat) (ai ax au aw s1 s2 s3 s4 s5 s6 s7 bi bx bu bw r1 r2 r3 r4 r5 r6 r7 S z : ByteArray) (E F : Int) (w : World)
    (h1 : ∀ W, Calls Try.prog 9 #[.agg #[.int .u8 (ak.toNat : Int), .int .u64 (an : Int), .int .u8 (ac.toNat : Int), .string ai, .string ax, .string au, .string aw, .int .u64 (av : Int), .string s1, .string s2, .string s3, .string s4, .string s5, .string s6, .string s7]] W fun e w' => e = .returned (.tuple #[.string S, .int .i64 E]) ∧ Below W.heap.size W w')
    (h2 : ∀ W, Calls Try.prog 10 #[.agg #[.int .u8 (ak.toNat : Int), .int .u64 (an : Int), .int .u8 (ac.toNat : Int), .string ai, .string ax, .string au, .string aw, .int .u64 (av : Int), .string s1, .string s2, .string s3, .string s4, .string s5, .string s6, .string s7]] W fun e w' => e = .returned (.tuple #[.string S, .int .i64 E]) ∧ Below W.heap.size W w')
    (h3 : ∀ W, Calls Try.prog 11 #[.string z] W fun e w' => e = .returned (.tuple #[.agg #[.int .u8 (bk.toNat : Int), .int .u64 (bn : Int), .int .u8 (bc.toNat : Int), .string bi, .string bx, .string bu, .string bw, .int .u64 (bv : Int), .string r1, .string r2, .string r3, .string r4, .string r5, .string r6, .string r7], .int .i64 F]) ∧ Below W.heap.size W w')
    (h4 : ∀ W, Calls Try.prog 12 #[.string z] W fun e w' => e = .returned (.tuple #[.agg #[.int .u8 (bk.toNat : Int), .int .u64 (bn : Int), .int .u8 (bc.toNat : Int), .string bi, .string bx, .string bu, .string bw, .int .u64 (bv : Int), .string r1, .string r2, .string r3, .string r4, .string r5, .string r6, .string r7], .int .i64 F]) ∧ Below W.heap.size W w')
    (hq : ∀ W : World, (binOp .eql 30 (.agg #[.int .u8 (bk.toNat : Int), .int .u64 (bn : Int), .int .u8 (bc.toNat : Int), .string bi, .string bx, .string bu, .string bw, .int .u64 (bv : Int), .string r1, .string r2, .string r3, .string r4, .string r5, .string r6, .string r7]) (.agg #[.int .u8 (bk.toNat : Int), .int .u64 (bn : Int), .int .u8 (bc.toNat : Int), .string bi, .string bx, .string bu, .string bw, .int .u64 (bv : Int), .string r1, .string r2, .string r3, .string r4, .string r5, .string r6, .string r7])).run Try.prog W = .ok (.bool true) W) :
    Calls Try.prog 3 #[.agg #[.int .u8 (ak.toNat : Int), .int .u64 (an : Int), .int .u8 (ac.toNat : Int), .string ai, .string ax, .string au, .string aw, .int .u64 (av : Int), .string s1, .string s2, .string s3, .string s4, .string s5, .string s6, .string s7], .string z] w fun e w' => e = .returned (.bool true) ∧ Below w.heap.size w w' := by
  have hA := Blk.new w [.int .u8 (ak.toNat : Int), .int .u64 (an : Int), .int .u8 (ac.toNat : Int), .string ai, .string ax, .string au, .string aw, .int .u64 (av : Int), .string s1, .string s2, .string s3, .string s4, .string s5, .string s6, .string s7] 30
  have hb := below_alloc w (.cells #[.int .u8 (ak.toNat : Int), .int .u64 (an : Int), .int .u8 (ac.toNat : Int), .string ai, .string ax, .string au, .string aw, .int .u64 (av : Int), .string s1, .string s2, .string s3, .string s4, .string s5, .string s6, .string s7] 30)
  go_enter Try.func3, Try.ntmps3
  go_upto_region 1 with fail
  obtain ⟨w0, hw0⟩ := named (w.alloc (.cells #[.int .u8 (ak.toNat : Int), .int .u64 (an : Int), .int .u8 (ac.toNat : Int), .string ai, .string ax, .string au, .string aw, .int .u64 (av : Int), .string s1, .string s2, .string s3, .string s4, .string s5, .string s6, .string s7] 30))
  rw [← hw0.out] at hA hb ⊢
  clear hw0
  go_wp2_with (refine wpList_load_row rfl 30 _ rfl _ rfl 30 #[.int .u8 (ak.toNat : Int), .int .u64 (an : Int), .int .u8 (ac.toNat : Int), .string ai, .string ax, .string au, .string aw, .int .u64 (av : Int), .string s1, .string s2, .string s3, .string s4, .string s5, .string s6, .string s7] (0, 0) _ hA Try.underlying30 rfl kASK ?_)
  refine (h1 _).mono ?_
  rintro e w1 ⟨rfl, hb9⟩
  replace hA := hA.below hb9
  replace hb := bt hb hb9
  clear hb9 h1
  generalize (Value.agg #[.int .u8 (ak.toNat : Int), .int .u64 (an : Int), .int .u8 (ac.toNat : Int), .string ai, .string ax, .string au, .string aw, .int .u64 (av : Int), .string s1, .string s2, .string s3, .string s4, .string s5, .string s6, .string s7] : Value) = V1
  go_wp2_with (refine wpList_load_row rfl 30 _ rfl _ rfl 30 #[.int .u8 (ak.toNat : Int), .int .u64 (an : Int), .int .u8 (ac.toNat : Int), .string ai, .string ax, .string au, .string aw, .int .u64 (av : Int), .string s1, .string s2, .string s3, .string s4, .string s5, .string s6, .string s7] (0, 0) _ hA Try.underlying30 rfl kASK ?_)
  refine (h2 _).mono ?_
  rintro e w2 ⟨rfl, hb9⟩
  replace hA := hA.below hb9
  replace hb := bt hb hb9
  clear hb9 h2
  clear hA
  generalize (Value.agg #[.int .u8 (ak.toNat : Int), .int .u64 (an : Int), .int .u8 (ac.toNat : Int), .string ai, .string ax, .string au, .string aw, .int .u64 (av : Int), .string s1, .string s2, .string s3, .string s4, .string s5, .string s6, .string s7] : Value) = V2
  go_wp2_with fail
  refine (h3 _).mono ?_
  rintro e w3 ⟨rfl, hb9⟩
  replace hb := bt hb hb9
  have hB := Blk.new w3 [.int .u8 (bk.toNat : Int), .int .u64 (bn : Int), .int .u8 (bc.toNat : Int), .string bi, .string bx, .string bu, .string bw, .int .u64 (bv : Int), .string r1, .string r2, .string r3, .string r4, .string r5, .string r6, .string r7] 30
  replace hb := bt hb (below_alloc w3 (.cells #[.int .u8 (bk.toNat : Int), .int .u64 (bn : Int), .int .u8 (bc.toNat : Int), .string bi, .string bx, .string bu, .string bw, .int .u64 (bv : Int), .string r1, .string r2, .string r3, .string r4, .string r5, .string r6, .string r7] 30))
  clear hb9 h3
  go_upto_region 4 with fail
  obtain ⟨B, hBn⟩ := named w3.heap.size
  obtain ⟨w5, hw5⟩ := named (w3.alloc (.cells #[.int .u8 (bk.toNat : Int), .int .u64 (bn : Int), .int .u8 (bc.toNat : Int), .string bi, .string bx, .string bu, .string bw, .int .u64 (bv : Int), .string r1, .string r2, .string r3, .string r4, .string r5, .string r6, .string r7] 30))
  rw [← hBn.out] at hB ⊢
  rw [← hw5.out] at hB hb ⊢
  clear hBn hw5
  go_wp2_with fail
  refine (h4 _).mono ?_
  rintro e w6 ⟨rfl, hb9⟩
  replace hB := hB.below hb9
  replace hb := bt hb hb9
  replace hB := hB.alloc (.cells #[.int .u8 (bk.toNat : Int), .int .u64 (bn : Int), .int .u8 (bc.toNat : Int), .string bi, .string bx, .string bu, .string bw, .int .u64 (bv : Int), .string r1, .string r2, .string r3, .string r4, .string r5, .string r6, .string r7] 30)
  have hC := Blk.new w6 [.int .u8 (bk.toNat : Int), .int .u64 (bn : Int), .int .u8 (bc.toNat : Int), .string bi, .string bx, .string bu, .string bw, .int .u64 (bv : Int), .string r1, .string r2, .string r3, .string r4, .string r5, .string r6, .string r7] 30
  replace hb := bt hb (below_alloc w6 (.cells #[.int .u8 (bk.toNat : Int), .int .u64 (bn : Int), .int .u8 (bc.toNat : Int), .string bi, .string bx, .string bu, .string bw, .int .u64 (bv : Int), .string r1, .string r2, .string r3, .string r4, .string r5, .string r6, .string r7] 30))
  clear hb9 h4
  go_upto_region 5 with fail
  obtain ⟨C, hCn⟩ := named w6.heap.size
  obtain ⟨w7, hw7⟩ := named (w6.alloc (.cells #[.int .u8 (bk.toNat : Int), .int .u64 (bn : Int), .int .u8 (bc.toNat : Int), .string bi, .string bx, .string bu, .string bw, .int .u64 (bv : Int), .string r1, .string r2, .string r3, .string r4, .string r5, .string r6, .string r7] 30))
  rw [← hCn.out] at hC ⊢
  rw [← hw7.out] at hB hC hb ⊢
  clear hCn hw7
  go_wp2_with fail
  refine (lives19_w _).mono ?_
  rintro e w8 ⟨rfl, hb9⟩
  replace hB := hB.below hb9
  replace hC := hC.below hb9
  replace hb := bt hb hb9
  clear hb9
  have xB := hB.cell
  have xC := hC.cell
  go_wp2
  go_ret
  exact ⟨by simp, hb⟩
theorem readV_some (o : Option Ask) : readV o = .tuple #[.agg (askCells (o.getD ask0)).toArray, .int .i64 (if o.isSome then 0 else 14)] := by
  cases o <;> rfl
theorem wireasks_w (a : Ask) (z : ByteArray) (w : World) (ht : a.ts.length = 7) (hn : a.n < 18446744073709551616) (hv : a.v < 18446744073709551616) (hsz : ∀ t ∈ a.ts, t.size < 16777216) (hz : z.size ≤ 140737488351232) :
    Calls Try.prog 3 #[.agg (askCells a).toArray, .string z] w fun e w' => e = .returned (.bool true) ∧ Below w.heap.size w w' := by
  have h1 := fun W => writeAsk_w a W ht hsz
  have h2 := fun W => refWriteAsk_w a W ht hn hv
  have h3 := fun W => readAsk_w z W hz
  have h4 := fun W => refReadAsk_w z.data.toList W (by simpa using hz)
  rw [str_of] at h4
  simp only [refA_eq] at h4
  simp only [readV_some] at h3 h4
  have hb7 : ((readA z.data.toList).getD ask0).ts.length = 7 := by
    cases h : readA z.data.toList with
    | none => rfl
    | some b => exact readA_ts h
  have hq := fun W => ask_eql ((readA z.data.toList).getD ask0) ((readA z.data.toList).getD ask0) W hb7 hb7
  rw [decide_eq_true rfl] at hq
  obtain ⟨b, hb⟩ := named ((readA z.data.toList).getD ask0)
  obtain ⟨F, hF⟩ := named (if (readA z.data.toList).isSome = true then (0 : Int) else 14)
  simp only [← hb.out, ← hF.out] at h3 h4 hq
  rw [← hb.out] at hb7
  clear hb hF
  obtain ⟨Y, hY⟩ := named (writeA a)
  simp only [← hY.out] at h1 h2
  clear hY hsz hn hv
  obtain ⟨ak, an, ⟨ac, ai, ax, au, aw⟩, av, ats⟩ := a
  obtain ⟨bk, bn, ⟨bc, bi, bx, bu, bw⟩, bv, bts⟩ := b
  obtain ⟨s1, s2, s3, s4, s5, s6, s7, rfl⟩ := list7 ats ht
  obtain ⟨r1, r2, r3, r4, r5, r6, r7, rfl⟩ := list7 bts hb7
  simp only [cells7] at h1 h2 h3 h4 hq ⊢
  exact asks_x _ _ _ _ _ _ _ _ _ _ _ _ _ _ _ _ _ _ _ _ _ _ _ _ _ _ _ _ _ _ (str Y.1) z Y.2 F w h1 h2 h3 h4 hq
end Go.Proofs.Ytiodfbbgbnbdpaa
