/- The walk of WireBack. -/
import Derived.Test.YtiodfbbgbnbdpaaWReplies
import Derived.Test.YtiodfbbgbnbdpaaWApart2
namespace Go.Proofs.Ytiodfbbgbnbdpaa
set_option linter.unusedSimpArgs false
set_option linter.unusedVariables false
open Go.RowKit
open Crc
theorem kASK9 : (Try.prog.info? 30).map (·.size) = some 15 := by kernel_rfl
set_option maxRecDepth 100000 in
set_option maxHeartbeats 4000000 in
theorem back_x (ak ac bk bc : UInt8) (an av bn bv rn qn : Nat) (ai ax au aw s1 s2 s3 s4 s5 s6 s7 bi bx bu bw r1 r2 r3 r4 r5 r6 r7 S1 S2 z : ByteArray) (E1 E2 E3 E4 ry rp qy qp : Int) (ra qa : Bool) (ids er jds fer : List ByteArray) (adi ade : Option Addr) (capi cape : Nat) (w : World)
    (h1 : ∀ W, Calls Try.prog 9 #[.agg #[.int .u8 (ak.toNat : Int), .int .u64 (an : Int), .int .u8 (ac.toNat : Int), .string ai, .string ax, .string au, .string aw, .int .u64 (av : Int), .string s1, .string s2, .string s3, .string s4, .string s5, .string s6, .string s7]] W fun e w' => e = .returned (.tuple #[.string S1, .int .i64 E1]) ∧ Below W.heap.size W w')
    (H2 : Hid (E1 = 0 → ∀ W, Calls Try.prog 11 #[.string S1] W fun e w' => e = .returned (.tuple #[.agg #[.int .u8 (ak.toNat : Int), .int .u64 (an : Int), .int .u8 (ac.toNat : Int), .string ai, .string ax, .string au, .string aw, .int .u64 (av : Int), .string s1, .string s2, .string s3, .string s4, .string s5, .string s6, .string s7], .int .i64 0]) ∧ Below W.heap.size W w'))
    (hq : ∀ W : World, (binOp .neq 30 (.agg #[.int .u8 (ak.toNat : Int), .int .u64 (an : Int), .int .u8 (ac.toNat : Int), .string ai, .string ax, .string au, .string aw, .int .u64 (av : Int), .string s1, .string s2, .string s3, .string s4, .string s5, .string s6, .string s7]) (.agg #[.int .u8 (ak.toNat : Int), .int .u64 (an : Int), .int .u8 (ac.toNat : Int), .string ai, .string ax, .string au, .string aw, .int .u64 (av : Int), .string s1, .string s2, .string s3, .string s4, .string s5, .string s6, .string s7])).run Try.prog W = .ok (.bool false) W)
    (h3 : ∀ W, Texts W adi ids → Texts W ade er → SmallAt W adi ids → SmallAt W ade er → Calls Try.prog 14 #[.agg #[.int .i64 ry, .int .u64 (rn : Int), .int .i64 rp, .bool ra, .slice adi ids.length capi, .slice ade er.length cape]] W fun e w' => e = .returned (.tuple #[.string S2, .int .i64 E2]) ∧ Below W.heap.size W w')
    (H4 : Hid (E2 = 0 → ∀ W, Calls Try.prog 16 #[.string S2] W fun e w' => (∃ v, e = .returned (.tuple #[v, .int .i64 0]) ∧ RepAt W w' ⟨ry, rn, rp, ra, ids, er⟩ v) ∧ Below W.heap.size W w'))
    (h5 : ∀ W, Calls Try.prog 11 #[.string z] W fun e w' => e = .returned (.tuple #[.agg #[.int .u8 (bk.toNat : Int), .int .u64 (bn : Int), .int .u8 (bc.toNat : Int), .string bi, .string bx, .string bu, .string bw, .int .u64 (bv : Int), .string r1, .string r2, .string r3, .string r4, .string r5, .string r6, .string r7], .int .i64 E3]) ∧ Below W.heap.size W w')
    (H6 : Hid (E3 = 0 → ∀ W, Calls Try.prog 9 #[.agg #[.int .u8 (bk.toNat : Int), .int .u64 (bn : Int), .int .u8 (bc.toNat : Int), .string bi, .string bx, .string bu, .string bw, .int .u64 (bv : Int), .string r1, .string r2, .string r3, .string r4, .string r5, .string r6, .string r7]] W fun e w' => e = .returned (.tuple #[.string z, .int .i64 0]) ∧ Below W.heap.size W w'))
    (h7 : ∀ W, Calls Try.prog 16 #[.string z] W fun e w' => (∃ v, e = .returned (.tuple #[v, .int .i64 E4]) ∧ RepAt W w' ⟨qy, qn, qp, qa, jds, fer⟩ v) ∧ Below W.heap.size W w')
    (H8 : Hid (E4 = 0 → ∀ W A B c d, Texts W A jds → Texts W B fer → SmallAt W A jds → SmallAt W B fer → Calls Try.prog 14 #[.agg #[.int .i64 qy, .int .u64 (qn : Int), .int .i64 qp, .bool qa, .slice A jds.length c, .slice B fer.length d]] W fun e w' => e = .returned (.tuple #[.string z, .int .i64 0]) ∧ Below W.heap.size W w'))
    (H9 : Hid (¬ E4 = 0 → (⟨qy, qn, qp, qa, jds, fer⟩ : Rep) = rep0))
    (hi0 : Texts w adi ids) (he0 : Texts w ade er) (si0 : SmallAt w adi ids) (se0 : SmallAt w ade er) (hli : ids.length ≤ 140737488351232) (hle : er.length ≤ 140737488351232) :
    Calls Try.prog 7 #[.agg #[.int .u8 (ak.toNat : Int), .int .u64 (an : Int), .int .u8 (ac.toNat : Int), .string ai, .string ax, .string au, .string aw, .int .u64 (av : Int), .string s1, .string s2, .string s3, .string s4, .string s5, .string s6, .string s7], .agg #[.int .i64 ry, .int .u64 (rn : Int), .int .i64 rp, .bool ra, .slice adi ids.length capi, .slice ade er.length cape], .string z] w fun e w' => e = .returned (.bool true) ∧ Below w.heap.size w w' := by
  have hi := (hi0.below (below_alloc w (.cells #[.int .u8 (ak.toNat : Int), .int .u64 (an : Int), .int .u8 (ac.toNat : Int), .string ai, .string ax, .string au, .string aw, .int .u64 (av : Int), .string s1, .string s2, .string s3, .string s4, .string s5, .string s6, .string s7] 30))).below (below_alloc (w.alloc (.cells #[.int .u8 (ak.toNat : Int), .int .u64 (an : Int), .int .u8 (ac.toNat : Int), .string ai, .string ax, .string au, .string aw, .int .u64 (av : Int), .string s1, .string s2, .string s3, .string s4, .string s5, .string s6, .string s7] 30)) (.cells #[.int .i64 ry, .int .u64 (rn : Int), .int .i64 rp, .bool ra, .slice adi ids.length capi, .slice ade er.length cape] 44))
  have he := (he0.below (below_alloc w (.cells #[.int .u8 (ak.toNat : Int), .int .u64 (an : Int), .int .u8 (ac.toNat : Int), .string ai, .string ax, .string au, .string aw, .int .u64 (av : Int), .string s1, .string s2, .string s3, .string s4, .string s5, .string s6, .string s7] 30))).below (below_alloc (w.alloc (.cells #[.int .u8 (ak.toNat : Int), .int .u64 (an : Int), .int .u8 (ac.toNat : Int), .string ai, .string ax, .string au, .string aw, .int .u64 (av : Int), .string s1, .string s2, .string s3, .string s4, .string s5, .string s6, .string s7] 30)) (.cells #[.int .i64 ry, .int .u64 (rn : Int), .int .i64 rp, .bool ra, .slice adi ids.length capi, .slice ade er.length cape] 44))
  have si := (si0.below (below_alloc w (.cells #[.int .u8 (ak.toNat : Int), .int .u64 (an : Int), .int .u8 (ac.toNat : Int), .string ai, .string ax, .string au, .string aw, .int .u64 (av : Int), .string s1, .string s2, .string s3, .string s4, .string s5, .string s6, .string s7] 30))).below (below_alloc (w.alloc (.cells #[.int .u8 (ak.toNat : Int), .int .u64 (an : Int), .int .u8 (ac.toNat : Int), .string ai, .string ax, .string au, .string aw, .int .u64 (av : Int), .string s1, .string s2, .string s3, .string s4, .string s5, .string s6, .string s7] 30)) (.cells #[.int .i64 ry, .int .u64 (rn : Int), .int .i64 rp, .bool ra, .slice adi ids.length capi, .slice ade er.length cape] 44))
  have se := (se0.below (below_alloc w (.cells #[.int .u8 (ak.toNat : Int), .int .u64 (an : Int), .int .u8 (ac.toNat : Int), .string ai, .string ax, .string au, .string aw, .int .u64 (av : Int), .string s1, .string s2, .string s3, .string s4, .string s5, .string s6, .string s7] 30))).below (below_alloc (w.alloc (.cells #[.int .u8 (ak.toNat : Int), .int .u64 (an : Int), .int .u8 (ac.toNat : Int), .string ai, .string ax, .string au, .string aw, .int .u64 (av : Int), .string s1, .string s2, .string s3, .string s4, .string s5, .string s6, .string s7] 30)) (.cells #[.int .i64 ry, .int .u64 (rn : Int), .int .i64 rp, .bool ra, .slice adi ids.length capi, .slice ade er.length cape] 44))
  have hA := (Blk.new w [.int .u8 (ak.toNat : Int), .int .u64 (an : Int), .int .u8 (ac.toNat : Int), .string ai, .string ax, .string au, .string aw, .int .u64 (av : Int), .string s1, .string s2, .string s3, .string s4, .string s5, .string s6, .string s7] 30).alloc (.cells #[.int .i64 ry, .int .u64 (rn : Int), .int .i64 rp, .bool ra, .slice adi ids.length capi, .slice ade er.length cape] 44)
  have hR := Blk.new (w.alloc (.cells #[.int .u8 (ak.toNat : Int), .int .u64 (an : Int), .int .u8 (ac.toNat : Int), .string ai, .string ax, .string au, .string aw, .int .u64 (av : Int), .string s1, .string s2, .string s3, .string s4, .string s5, .string s6, .string s7] 30)) [.int .i64 ry, .int .u64 (rn : Int), .int .i64 rp, .bool ra, .slice adi ids.length capi, .slice ade er.length cape] 44
  rw [show (w.alloc (.cells #[.int .u8 (ak.toNat : Int), .int .u64 (an : Int), .int .u8 (ac.toNat : Int), .string ai, .string ax, .string au, .string aw, .int .u64 (av : Int), .string s1, .string s2, .string s3, .string s4, .string s5, .string s6, .string s7] 30)).heap.size = w.heap.size + 1 by simp] at hR
  have hb := bt (below_alloc w (.cells #[.int .u8 (ak.toNat : Int), .int .u64 (an : Int), .int .u8 (ac.toNat : Int), .string ai, .string ax, .string au, .string aw, .int .u64 (av : Int), .string s1, .string s2, .string s3, .string s4, .string s5, .string s6, .string s7] 30)) (below_alloc (w.alloc (.cells #[.int .u8 (ak.toNat : Int), .int .u64 (an : Int), .int .u8 (ac.toNat : Int), .string ai, .string ax, .string au, .string aw, .int .u64 (av : Int), .string s1, .string s2, .string s3, .string s4, .string s5, .string s6, .string s7] 30)) (.cells #[.int .i64 ry, .int .u64 (rn : Int), .int .i64 rp, .bool ra, .slice adi ids.length capi, .slice ade er.length cape] 44))
  obtain ⟨ni, hni⟩ := named ids.length
  obtain ⟨ne, hne⟩ := named er.length
  rw [← hni.out, ← hne.out] at hR hb hA hi he si se ⊢
  simp only [← hni.out, ← hne.out] at h3
  clear hi0 he0 si0 se0
  go_enter Try.func7, Try.ntmps7
  go_upto_region 1 with fail
  obtain ⟨w0, hw0⟩ := named ((w.alloc (.cells #[.int .u8 (ak.toNat : Int), .int .u64 (an : Int), .int .u8 (ac.toNat : Int), .string ai, .string ax, .string au, .string aw, .int .u64 (av : Int), .string s1, .string s2, .string s3, .string s4, .string s5, .string s6, .string s7] 30)).alloc (.cells #[.int .i64 ry, .int .u64 (rn : Int), .int .i64 rp, .bool ra, .slice adi ni capi, .slice ade ne cape] 44))
  rw [← hw0.out] at hA hR hb hi he si se ⊢
  clear hw0
  generalize (Value.agg #[.int .u8 (ak.toNat : Int), .int .u64 (an : Int), .int .u8 (ac.toNat : Int), .string ai, .string ax, .string au, .string aw, .int .u64 (av : Int), .string s1, .string s2, .string s3, .string s4, .string s5, .string s6, .string s7] : Value) = V0
  go_wp2_with fail
  refine (lives19_w _).mono ?_
  rintro e w1 ⟨rfl, hb9⟩
  replace hA := hA.below hb9
  replace hR := hR.below hb9
  replace hi := hi.below hb9
  replace he := he.below hb9
  replace si := si.below hb9
  replace se := se.below hb9
  replace hb := bt hb hb9
  clear hb9
  go_upto_region 3 with fail
  go_wp2_with (refine wpList_load_row rfl 30 _ rfl _ rfl 30 #[.int .u8 (ak.toNat : Int), .int .u64 (an : Int), .int .u8 (ac.toNat : Int), .string ai, .string ax, .string au, .string aw, .int .u64 (av : Int), .string s1, .string s2, .string s3, .string s4, .string s5, .string s6, .string s7] (0, 0) _ hA Try.underlying30 rfl kASK9 ?_)
  refine (h1 _).mono ?_
  rintro e w2 ⟨rfl, hb9⟩
  replace hA := hA.below hb9
  replace hR := hR.below hb9
  replace hi := hi.below hb9
  replace he := he.below hb9
  replace si := si.below hb9
  replace se := se.below hb9
  replace hb := bt hb hb9
  clear hb9 h1
  generalize (Value.agg #[.int .u8 (ak.toNat : Int), .int .u64 (an : Int), .int .u8 (ac.toNat : Int), .string ai, .string ax, .string au, .string aw, .int .u64 (av : Int), .string s1, .string s2, .string s3, .string s4, .string s5, .string s6, .string s7] : Value) = V1
  go_upto_if 28 with fail
  go_cut [] (fun wx => Blk wx (w.heap.size + 1) [.int .i64 ry, .int .u64 (rn : Int), .int .i64 rp, .bool ra, .slice adi ni capi, .slice ade ne cape] 44 ∧ Texts wx adi ids ∧ Texts wx ade er ∧ SmallAt wx adi ids ∧ SmallAt wx ade er ∧ Below w.heap.size w wx)
  case first =>
    clear h3 H4 h5 H6 h7 H8 H9
    by_cases hE : E1 = 0
    case pos =>
      have h2 := H2.out hE
      subst hE
      clear H2
      go_wp2_with fail
      refine (h2 _).mono ?_
      rintro e w3 ⟨rfl, hb9⟩
      replace hA := hA.below hb9
      replace hR := hR.below hb9
      replace hi := hi.below hb9
      replace he := he.below hb9
      replace si := si.below hb9
      replace se := se.below hb9
      replace hb := bt hb hb9
      have hB := Blk.new w3 [.int .u8 (ak.toNat : Int), .int .u64 (an : Int), .int .u8 (ac.toNat : Int), .string ai, .string ax, .string au, .string aw, .int .u64 (av : Int), .string s1, .string s2, .string s3, .string s4, .string s5, .string s6, .string s7] 30
      replace hA := hA.alloc (.cells #[.int .u8 (ak.toNat : Int), .int .u64 (an : Int), .int .u8 (ac.toNat : Int), .string ai, .string ax, .string au, .string aw, .int .u64 (av : Int), .string s1, .string s2, .string s3, .string s4, .string s5, .string s6, .string s7] 30)
      replace hR := hR.alloc (.cells #[.int .u8 (ak.toNat : Int), .int .u64 (an : Int), .int .u8 (ac.toNat : Int), .string ai, .string ax, .string au, .string aw, .int .u64 (av : Int), .string s1, .string s2, .string s3, .string s4, .string s5, .string s6, .string s7] 30)
      replace hi := hi.below (below_alloc w3 (.cells #[.int .u8 (ak.toNat : Int), .int .u64 (an : Int), .int .u8 (ac.toNat : Int), .string ai, .string ax, .string au, .string aw, .int .u64 (av : Int), .string s1, .string s2, .string s3, .string s4, .string s5, .string s6, .string s7] 30))
      replace he := he.below (below_alloc w3 (.cells #[.int .u8 (ak.toNat : Int), .int .u64 (an : Int), .int .u8 (ac.toNat : Int), .string ai, .string ax, .string au, .string aw, .int .u64 (av : Int), .string s1, .string s2, .string s3, .string s4, .string s5, .string s6, .string s7] 30))
      replace si := si.below (below_alloc w3 (.cells #[.int .u8 (ak.toNat : Int), .int .u64 (an : Int), .int .u8 (ac.toNat : Int), .string ai, .string ax, .string au, .string aw, .int .u64 (av : Int), .string s1, .string s2, .string s3, .string s4, .string s5, .string s6, .string s7] 30))
      replace se := se.below (below_alloc w3 (.cells #[.int .u8 (ak.toNat : Int), .int .u64 (an : Int), .int .u8 (ac.toNat : Int), .string ai, .string ax, .string au, .string aw, .int .u64 (av : Int), .string s1, .string s2, .string s3, .string s4, .string s5, .string s6, .string s7] 30))
      replace hb := bt hb (below_alloc w3 (.cells #[.int .u8 (ak.toNat : Int), .int .u64 (an : Int), .int .u8 (ac.toNat : Int), .string ai, .string ax, .string au, .string aw, .int .u64 (av : Int), .string s1, .string s2, .string s3, .string s4, .string s5, .string s6, .string s7] 30))
      clear hb9 h2
      go_upto_region 6 with fail
      obtain ⟨G, hG⟩ := named w3.heap.size
      obtain ⟨w4, hw4⟩ := named (w3.alloc (.cells #[.int .u8 (ak.toNat : Int), .int .u64 (an : Int), .int .u8 (ac.toNat : Int), .string ai, .string ax, .string au, .string aw, .int .u64 (av : Int), .string s1, .string s2, .string s3, .string s4, .string s5, .string s6, .string s7] 30))
      rw [← hG.out] at hB ⊢
      rw [← hw4.out] at hB hA hR hb hi he si se ⊢
      clear hG hw4
      have xA := hA.cell
      have xB := hB.cell
      clear hA hB
      go_wp2
      go_meet
      case rel => exact ⟨hR, hi, he, si, se, hb⟩
    case neg =>
      have u1 : (E1 == 0) = false := by simp [hE]
      clear H2 hE
      go_wp2
      go_meet
      case rel => exact ⟨hR, hi, he, si, se, hb⟩
  case rest =>
    clear hA hR hi he si se hb H2 hq
    obtain ⟨hR, hi, he, si, se, hb⟩ := hcut
    have h3' := h3 _ hi he si se
    clear h3
    go_wp2_with (refine wpList_load_row rfl 44 _ rfl _ rfl 44 #[.int .i64 ry, .int .u64 (rn : Int), .int .i64 rp, .bool ra, .slice adi ni capi, .slice ade ne cape] (0, 0) _ hR Try.underlying44 rfl kREP ?_)
    refine h3'.mono ?_
    rintro e w5 ⟨rfl, hb9⟩
    replace hR := hR.below hb9
    replace hi := hi.below hb9
    replace he := he.below hb9
    replace si := si.below hb9
    replace se := se.below hb9
    replace hb := bt hb hb9
    clear hb9 h3'
    generalize (Value.agg #[.int .i64 ry, .int .u64 (rn : Int), .int .i64 rp, .bool ra, .slice adi ni capi, .slice ade ne cape] : Value) = V2
    go_upto_if 47 with fail
    go_cut [] (fun wx => Below w.heap.size w wx)
    case first =>
      clear h5 H6 h7 H8 H9
      by_cases hE : E2 = 0
      case pos =>
        have h4 := H4.out hE
        subst hE
        clear H4
        go_wp2_with fail
        refine (h4 _).mono ?_
        rintro e w6 ⟨⟨v, rfl, v1, v2, rfl, R1, R2⟩, hb9⟩
        obtain ⟨A1, c1, rfl, t1, -⟩ := R1
        obtain ⟨B1, d1, rfl, u1, -⟩ := R2
        simp only [repCells]
        rw [show ids.length = ni from hni.out.symm, show er.length = ne from hne.out.symm]
        replace hR := hR.below hb9
        replace hi := hi.below hb9
        replace he := he.below hb9
        replace si := si.below hb9
        replace se := se.below hb9
        replace hb := bt hb hb9
        have hQ := Blk.new w6 [.int .i64 ry, .int .u64 (rn : Int), .int .i64 rp, .bool ra, .slice A1 ni c1, .slice B1 ne d1] 44
        replace hR := hR.alloc (.cells #[.int .i64 ry, .int .u64 (rn : Int), .int .i64 rp, .bool ra, .slice A1 ni c1, .slice B1 ne d1] 44)
        replace hi := hi.below (below_alloc w6 (.cells #[.int .i64 ry, .int .u64 (rn : Int), .int .i64 rp, .bool ra, .slice A1 ni c1, .slice B1 ne d1] 44))
        replace he := he.below (below_alloc w6 (.cells #[.int .i64 ry, .int .u64 (rn : Int), .int .i64 rp, .bool ra, .slice A1 ni c1, .slice B1 ne d1] 44))
        replace si := si.below (below_alloc w6 (.cells #[.int .i64 ry, .int .u64 (rn : Int), .int .i64 rp, .bool ra, .slice A1 ni c1, .slice B1 ne d1] 44))
        replace se := se.below (below_alloc w6 (.cells #[.int .i64 ry, .int .u64 (rn : Int), .int .i64 rp, .bool ra, .slice A1 ni c1, .slice B1 ne d1] 44))
        replace t1 := t1.below (below_alloc w6 (.cells #[.int .i64 ry, .int .u64 (rn : Int), .int .i64 rp, .bool ra, .slice A1 ni c1, .slice B1 ne d1] 44))
        replace u1 := u1.below (below_alloc w6 (.cells #[.int .i64 ry, .int .u64 (rn : Int), .int .i64 rp, .bool ra, .slice A1 ni c1, .slice B1 ne d1] 44))
        replace hb := bt hb (below_alloc w6 (.cells #[.int .i64 ry, .int .u64 (rn : Int), .int .i64 rp, .bool ra, .slice A1 ni c1, .slice B1 ne d1] 44))
        clear hb9 h4
        go_upto_region 11 with fail
        obtain ⟨G, hG⟩ := named w6.heap.size
        obtain ⟨w7, hw7⟩ := named (w6.alloc (.cells #[.int .i64 ry, .int .u64 (rn : Int), .int .i64 rp, .bool ra, .slice A1 ni c1, .slice B1 ne d1] 44))
        rw [← hG.out] at hQ ⊢
        rw [← hw7.out] at hQ hR hb hi he t1 u1 ⊢
        clear hG hw7 si se
        have hsm := same_w ⟨ry, rn, rp, ra, ids, er⟩ ⟨ry, rn, rp, ra, ids, er⟩ adi ade A1 B1 capi cape c1 d1 w7 hi he t1 u1 hli hle hli hle
        rw [decide_eq_true rfl] at hsm
        simp only [← hni.out, ← hne.out] at hsm
        have xR := hR.cell
        have xQ := hQ.cell
        clear hR hQ hi he t1 u1
        go_wp2_with fail
        refine hsm.mono ?_
        rintro e w8 ⟨rfl, hb9⟩
        replace hb := bt hb hb9
        clear hsm xR xQ hb9
        go_wp2
        go_meet
        case rel => exact hb
      case neg =>
        have u1 : (E2 == 0) = false := by simp [hE]
        clear H4 hE
        go_wp2
        go_meet
        case rel => exact hb
    case rest =>
      clear hR hi he si se hb H4
      have hb := hcut
      clear hcut
      go_wp2_with fail
      refine (h5 _).mono ?_
      rintro e w6 ⟨rfl, hb9⟩
      replace hb := bt hb hb9
      have hB := Blk.new w6 [.int .u8 (bk.toNat : Int), .int .u64 (bn : Int), .int .u8 (bc.toNat : Int), .string bi, .string bx, .string bu, .string bw, .int .u64 (bv : Int), .string r1, .string r2, .string r3, .string r4, .string r5, .string r6, .string r7] 30
      replace hb := bt hb (below_alloc w6 (.cells #[.int .u8 (bk.toNat : Int), .int .u64 (bn : Int), .int .u8 (bc.toNat : Int), .string bi, .string bx, .string bu, .string bw, .int .u64 (bv : Int), .string r1, .string r2, .string r3, .string r4, .string r5, .string r6, .string r7] 30))
      clear hb9 h5
      go_upto_region 14 with fail
      obtain ⟨G, hG⟩ := named w6.heap.size
      obtain ⟨w7, hw7⟩ := named (w6.alloc (.cells #[.int .u8 (bk.toNat : Int), .int .u64 (bn : Int), .int .u8 (bc.toNat : Int), .string bi, .string bx, .string bu, .string bw, .int .u64 (bv : Int), .string r1, .string r2, .string r3, .string r4, .string r5, .string r6, .string r7] 30))
      rw [← hG.out] at hB ⊢
      rw [← hw7.out] at hB hb ⊢
      clear hG hw7
      generalize (Value.agg #[.int .u8 (bk.toNat : Int), .int .u64 (bn : Int), .int .u8 (bc.toNat : Int), .string bi, .string bx, .string bu, .string bw, .int .u64 (bv : Int), .string r1, .string r2, .string r3, .string r4, .string r5, .string r6, .string r7] : Value) = V3
      go_upto_if 67 with fail
      go_cut [] (fun wx => Below w.heap.size w wx)
      case first =>
        clear h7 H8 H9
        by_cases hE : E3 = 0
        case pos =>
          have h6 := H6.out hE
          subst hE
          clear H6
          go_wp2_with (refine wpList_load_row rfl 30 _ rfl _ rfl 30 #[.int .u8 (bk.toNat : Int), .int .u64 (bn : Int), .int .u8 (bc.toNat : Int), .string bi, .string bx, .string bu, .string bw, .int .u64 (bv : Int), .string r1, .string r2, .string r3, .string r4, .string r5, .string r6, .string r7] (0, 0) _ hB Try.underlying30 rfl kASK9 ?_)
          refine (h6 _).mono ?_
          rintro e w8 ⟨rfl, hb9⟩
          replace hb := bt hb hb9
          clear hb9 h6 hB
          go_wp2
          go_meet
          case rel => exact hb
        case neg =>
          have u1 : (E3 == 0) = false := by simp [hE]
          clear H6 hE hB
          go_wp2
          go_meet
          case rel => exact hb
      case rest =>
        clear hb H6 hB
        have hb := hcut
        clear hcut
        go_wp2_with fail
        refine (h7 _).mono ?_
        rintro e w8 ⟨⟨v, rfl, v1, v2, rfl, R1, R2⟩, hb9⟩
        obtain ⟨A1, c1, rfl, t1, k1⟩ := R1
        obtain ⟨B1, d1, rfl, u1, l1⟩ := R2
        simp only [repCells]
        have x1 : SmallAt w8 A1 jds := fun _ b o' e => ⟨(k1 b o' e).2.1, (k1 b o' e).2.2⟩
        have x2 : SmallAt w8 B1 fer := fun _ b o' e => ⟨(l1 b o' e).2.1, (l1 b o' e).2.2⟩
        replace hb := bt hb hb9
        clear h7 hb9 k1 l1
        by_cases hE : E4 = 0
        case neg =>
          have u9 : (E4 != 0) = true := by simp [hE]
          have hz := H9.out hE
          cases hz
          clear H8 H9 hE x1 x2
          have hQ := Blk.new w8 [.int .i64 0, .int .u64 0, .int .i64 0, .bool false, .slice A1 0 c1, .slice B1 0 d1] 44
          have hbz := below_alloc w8 (.cells #[.int .i64 0, .int .u64 0, .int .i64 0, .bool false, .slice A1 0 c1, .slice B1 0 d1] 44)
          replace hb := bt hb hbz
          replace t1 := t1.below hbz
          replace u1 := u1.below hbz
          clear hbz
          go_upto_region 19 with fail
          obtain ⟨G, hG⟩ := named w8.heap.size
          obtain ⟨w9, hw9⟩ := named (w8.alloc (.cells #[.int .i64 0, .int .u64 0, .int .i64 0, .bool false, .slice A1 0 c1, .slice B1 0 d1] 44))
          rw [← hG.out] at hQ ⊢
          rw [← hw9.out] at hQ hb t1 u1 ⊢
          clear hG hw9
          have hsm := same_w rep0 rep0 A1 B1 none none c1 d1 0 0 w9 t1 u1 ⟨rfl, fun h => absurd rfl h⟩ ⟨rfl, fun h => absurd rfl h⟩ (by decide) (by decide) (by decide) (by decide)
          rw [decide_eq_true rfl] at hsm
          have hsm' : Calls Try.prog 18 #[.agg #[.int .i64 0, .int .u64 0, .int .i64 0, .bool false, .slice A1 0 c1, .slice B1 0 d1], .agg #[.int .i64 0, .int .u64 0, .int .i64 0, .bool false, .slice none 0 0, .slice none 0 0]] w9 fun e w' => e = .returned (.bool true) ∧ Below w9.heap.size w9 w' := hsm
          clear hsm t1 u1
          have xQ := hQ.cell
          go_wp2_with fail
          refine hsm'.mono ?_
          rintro e w10 ⟨rfl, hb9⟩
          replace hb := bt hb hb9
          clear hsm' xQ hQ hb9
          go_wp2
          go_ret
          exact ⟨rfl, hb⟩
        case pos =>
          have h8 := H8.out hE
          subst hE
          clear H8 H9
          obtain ⟨mi, hmi⟩ := named jds.length
          obtain ⟨me, hme⟩ := named fer.length
          rw [show jds.length = mi from hmi.out.symm, show fer.length = me from hme.out.symm]
          simp only [← hmi.out, ← hme.out] at h8
          have hQ := Blk.new w8 [.int .i64 qy, .int .u64 (qn : Int), .int .i64 qp, .bool qa, .slice A1 mi c1, .slice B1 me d1] 44
          have hbz := below_alloc w8 (.cells #[.int .i64 qy, .int .u64 (qn : Int), .int .i64 qp, .bool qa, .slice A1 mi c1, .slice B1 me d1] 44)
          replace hb := bt hb hbz
          replace t1 := t1.below hbz
          replace u1 := u1.below hbz
          replace x1 := x1.below hbz
          replace x2 := x2.below hbz
          clear hbz
          go_upto_region 19 with fail
          obtain ⟨G, hG⟩ := named w8.heap.size
          obtain ⟨w9, hw9⟩ := named (w8.alloc (.cells #[.int .i64 qy, .int .u64 (qn : Int), .int .i64 qp, .bool qa, .slice A1 mi c1, .slice B1 me d1] 44))
          rw [← hG.out] at hQ ⊢
          rw [← hw9.out] at hQ hb t1 u1 x1 x2 ⊢
          clear hG hw9
          have h9 := h8 w9 A1 B1 c1 d1 t1 u1 x1 x2
          clear h8 t1 u1 x1 x2
          go_wp2_with (refine wpList_load_row rfl 44 _ rfl _ rfl 44 #[.int .i64 qy, .int .u64 (qn : Int), .int .i64 qp, .bool qa, .slice A1 mi c1, .slice B1 me d1] (0, 0) _ hQ Try.underlying44 rfl kREP ?_)
          refine h9.mono ?_
          rintro e w10 ⟨rfl, hb9⟩
          replace hb := bt hb hb9
          clear hb9 h9 hQ
          go_wp2
          go_ret
          exact ⟨by simp, hb⟩
end Go.Proofs.Ytiodfbbgbnbdpaa
