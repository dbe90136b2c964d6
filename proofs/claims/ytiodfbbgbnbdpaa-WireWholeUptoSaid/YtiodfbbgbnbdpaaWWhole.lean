/- The walk of WireWhole. -/
import Derived.Test.YtiodfbbgbnbdpaaWBack2
import Derived.Test.YtiodfbbgbnbdpaaRefPack
namespace Go.Proofs.Ytiodfbbgbnbdpaa
set_option linter.unusedSimpArgs false
set_option linter.unusedVariables false
open Go.RowKit
open Crc
set_option maxRecDepth 100000 in
set_option maxHeartbeats 4000000 in
theorem whole_x (ak ac mo : UInt8) (an av rn : Nat) (ai ax au aw s1 s2 s3 s4 s5 s6 s7 S1 S2 : ByteArray) (E1 E2 ry rp at_ : Int) (ra : Bool) (ids er : List ByteArray) (adi ade : Option Addr) (capi cape : Nat) (w : World)
    (h1 : ∀ W, Calls Try.prog 9 #[.agg #[.int .u8 (ak.toNat : Int), .int .u64 (an : Int), .int .u8 (ac.toNat : Int), .string ai, .string ax, .string au, .string aw, .int .u64 (av : Int), .string s1, .string s2, .string s3, .string s4, .string s5, .string s6, .string s7]] W fun e w' => e = .returned (.tuple #[.string S1, .int .i64 E1]) ∧ Below W.heap.size W w')
    (H2 : Hid (E1 = 0 → (∀ W : World, (Op.stringOp .add S1 (str [mo])).run Try.prog W = .ok (.string (S1 ++ str [mo])) W) ∧ (∀ W, Calls Try.prog 11 #[.string (S1 ++ str [mo])] W fun e w' => e = .returned (.tuple #[.agg #[.int .u8 0, .int .u64 0, .int .u8 0, .string ⟨#[]⟩, .string ⟨#[]⟩, .string ⟨#[]⟩, .string ⟨#[]⟩, .int .u64 0, .string ⟨#[]⟩, .string ⟨#[]⟩, .string ⟨#[]⟩, .string ⟨#[]⟩, .string ⟨#[]⟩, .string ⟨#[]⟩, .string ⟨#[]⟩], .int .i64 14]) ∧ Below W.heap.size W w') ∧ ∀ k : Nat, k < S1.size → ∀ W, Calls Try.prog 11 #[.string (S1.extract 0 k)] W fun e w' => e = .returned (.tuple #[.agg #[.int .u8 0, .int .u64 0, .int .u8 0, .string ⟨#[]⟩, .string ⟨#[]⟩, .string ⟨#[]⟩, .string ⟨#[]⟩, .int .u64 0, .string ⟨#[]⟩, .string ⟨#[]⟩, .string ⟨#[]⟩, .string ⟨#[]⟩, .string ⟨#[]⟩, .string ⟨#[]⟩, .string ⟨#[]⟩], .int .i64 14]) ∧ Below W.heap.size W w'))
    (h3 : ∀ W, Texts W adi ids → Texts W ade er → SmallAt W adi ids → SmallAt W ade er → Calls Try.prog 14 #[.agg #[.int .i64 ry, .int .u64 (rn : Int), .int .i64 rp, .bool ra, .slice adi ids.length capi, .slice ade er.length cape]] W fun e w' => e = .returned (.tuple #[.string S2, .int .i64 E2]) ∧ Below W.heap.size W w')
    (H4 : Hid (E2 = 0 → (∀ W : World, (Op.stringOp .add S2 (str [mo])).run Try.prog W = .ok (.string (S2 ++ str [mo])) W) ∧ (∀ W, Calls Try.prog 16 #[.string (S2 ++ str [mo])] W fun e w' => (∃ v, e = .returned (.tuple #[v, .int .i64 14]) ∧ RepAt W w' rep0 v) ∧ Below W.heap.size W w') ∧ ∀ k : Nat, k < S2.size → ∀ W, Calls Try.prog 16 #[.string (S2.extract 0 k)] W fun e w' => (∃ v, e = .returned (.tuple #[v, .int .i64 14]) ∧ RepAt W w' rep0 v) ∧ Below W.heap.size W w'))
    (H7 : Hid (¬ E2 = 0 → S2 = ⟨#[]⟩))
    (hi0 : Texts w adi ids) (he0 : Texts w ade er) (si0 : SmallAt w adi ids) (se0 : SmallAt w ade er) :
    Calls Try.prog 8 #[.agg #[.int .u8 (ak.toNat : Int), .int .u64 (an : Int), .int .u8 (ac.toNat : Int), .string ai, .string ax, .string au, .string aw, .int .u64 (av : Int), .string s1, .string s2, .string s3, .string s4, .string s5, .string s6, .string s7], .agg #[.int .i64 ry, .int .u64 (rn : Int), .int .i64 rp, .bool ra, .slice adi ids.length capi, .slice ade er.length cape], .int .i64 at_, .int .u8 (mo.toNat : Int)] w fun e w' => e = .returned (.bool true) ∧ Below w.heap.size w w' := by
  have hi := (hi0.below (below_alloc w (.cells #[.int .u8 (ak.toNat : Int), .int .u64 (an : Int), .int .u8 (ac.toNat : Int), .string ai, .string ax, .string au, .string aw, .int .u64 (av : Int), .string s1, .string s2, .string s3, .string s4, .string s5, .string s6, .string s7] 30))).below (below_alloc (w.alloc (.cells #[.int .u8 (ak.toNat : Int), .int .u64 (an : Int), .int .u8 (ac.toNat : Int), .string ai, .string ax, .string au, .string aw, .int .u64 (av : Int), .string s1, .string s2, .string s3, .string s4, .string s5, .string s6, .string s7] 30)) (.cells #[.int .i64 ry, .int .u64 (rn : Int), .int .i64 rp, .bool ra, .slice adi ids.length capi, .slice ade er.length cape] 44))
  have he := (he0.below (below_alloc w (.cells #[.int .u8 (ak.toNat : Int), .int .u64 (an : Int), .int .u8 (ac.toNat : Int), .string ai, .string ax, .string au, .string aw, .int .u64 (av : Int), .string s1, .string s2, .string s3, .string s4, .string s5, .string s6, .string s7] 30))).below (below_alloc (w.alloc (.cells #[.int .u8 (ak.toNat : Int), .int .u64 (an : Int), .int .u8 (ac.toNat : Int), .string ai, .string ax, .string au, .string aw, .int .u64 (av : Int), .string s1, .string s2, .string s3, .string s4, .string s5, .string s6, .string s7] 30)) (.cells #[.int .i64 ry, .int .u64 (rn : Int), .int .i64 rp, .bool ra, .slice adi ids.length capi, .slice ade er.length cape] 44))
  have si := (si0.below (below_alloc w (.cells #[.int .u8 (ak.toNat : Int), .int .u64 (an : Int), .int .u8 (ac.toNat : Int), .string ai, .string ax, .string au, .string aw, .int .u64 (av : Int), .string s1, .string s2, .string s3, .string s4, .string s5, .string s6, .string s7] 30))).below (below_alloc (w.alloc (.cells #[.int .u8 (ak.toNat : Int), .int .u64 (an : Int), .int .u8 (ac.toNat : Int), .string ai, .string ax, .string au, .string aw, .int .u64 (av : Int), .string s1, .string s2, .string s3, .string s4, .string s5, .string s6, .string s7] 30)) (.cells #[.int .i64 ry, .int .u64 (rn : Int), .int .i64 rp, .bool ra, .slice adi ids.length capi, .slice ade er.length cape] 44))
  have se := (se0.below (below_alloc w (.cells #[.int .u8 (ak.toNat : Int), .int .u64 (an : Int), .int .u8 (ac.toNat : Int), .string ai, .string ax, .string au, .string aw, .int .u64 (av : Int), .string s1, .string s2, .string s3, .string s4, .string s5, .string s6, .string s7] 30))).below (below_alloc (w.alloc (.cells #[.int .u8 (ak.toNat : Int), .int .u64 (an : Int), .int .u8 (ac.toNat : Int), .string ai, .string ax, .string au, .string aw, .int .u64 (av : Int), .string s1, .string s2, .string s3, .string s4, .string s5, .string s6, .string s7] 30)) (.cells #[.int .i64 ry, .int .u64 (rn : Int), .int .i64 rp, .bool ra, .slice adi ids.length capi, .slice ade er.length cape] 44))
  have hA := (Blk.new w [.int .u8 (ak.toNat : Int), .int .u64 (an : Int), .int .u8 (ac.toNat : Int), .string ai, .string ax, .string au, .string aw, .int .u64 (av : Int), .string s1, .string s2, .string s3, .string s4, .string s5, .string s6, .string s7] 30).alloc (.cells #[.int .i64 ry, .int .u64 (rn : Int), .int .i64 rp, .bool ra, .slice adi ids.length capi, .slice ade er.length cape] 44)
  have hR := Blk.new (w.alloc (.cells #[.int .u8 (ak.toNat : Int), .int .u64 (an : Int), .int .u8 (ac.toNat : Int), .string ai, .string ax, .string au, .string aw, .int .u64 (av : Int), .string s1, .string s2, .string s3, .string s4, .string s5, .string s6, .string s7] 30)) [.int .i64 ry, .int .u64 (rn : Int), .int .i64 rp, .bool ra, .slice adi ids.length capi, .slice ade er.length cape] 44
  rw [show (w.alloc (.cells #[.int .u8 (ak.toNat : Int), .int .u64 (an : Int), .int .u8 (ac.toNat : Int), .string ai, .string ax, .string au, .string aw, .int .u64 (av : Int), .string s1, .string s2, .string s3, .string s4, .string s5, .string s6, .string s7] 30)).heap.size = w.heap.size + 1 by simp] at hR
  have hb := bt (below_alloc w (.cells #[.int .u8 (ak.toNat : Int), .int .u64 (an : Int), .int .u8 (ac.toNat : Int), .string ai, .string ax, .string au, .string aw, .int .u64 (av : Int), .string s1, .string s2, .string s3, .string s4, .string s5, .string s6, .string s7] 30)) (below_alloc (w.alloc (.cells #[.int .u8 (ak.toNat : Int), .int .u64 (an : Int), .int .u8 (ac.toNat : Int), .string ai, .string ax, .string au, .string aw, .int .u64 (av : Int), .string s1, .string s2, .string s3, .string s4, .string s5, .string s6, .string s7] 30)) (.cells #[.int .i64 ry, .int .u64 (rn : Int), .int .i64 rp, .bool ra, .slice adi ids.length capi, .slice ade er.length cape] 44))
  obtain ⟨ni, hni⟩ := named ids.length
  obtain ⟨ne, hne⟩ := named er.length
  rw [← hni.out, ← hne.out] at hR hb hA hi he si se ⊢
  simp only [← hni.out, ← hne.out] at h3
  obtain ⟨M, hM⟩ := named (str [mo])
  simp only [← hM.out] at H2 H4
  clear hi0 he0 si0 se0 hni hne
  go_enter Try.func8, Try.ntmps8
  go_upto_region 1 with fail
  obtain ⟨w0, hw0⟩ := named ((w.alloc (.cells #[.int .u8 (ak.toNat : Int), .int .u64 (an : Int), .int .u8 (ac.toNat : Int), .string ai, .string ax, .string au, .string aw, .int .u64 (av : Int), .string s1, .string s2, .string s3, .string s4, .string s5, .string s6, .string s7] 30)).alloc (.cells #[.int .i64 ry, .int .u64 (rn : Int), .int .i64 rp, .bool ra, .slice adi ni capi, .slice ade ne cape] 44))
  rw [← hw0.out] at hA hR hb hi he si se ⊢
  clear hw0
  generalize (Value.agg #[.int .u8 (ak.toNat : Int), .int .u64 (an : Int), .int .u8 (ac.toNat : Int), .string ai, .string ax, .string au, .string aw, .int .u64 (av : Int), .string s1, .string s2, .string s3, .string s4, .string s5, .string s6, .string s7] : Value) = V0
  go_wp2_with fail
  refine (lives19_w _).mono ?_
  rintro e w1 ⟨rfl, hb9⟩
  replace hA := hA.below hb9
  replace hR := hR.below hb9
  replace hi := hi.below hb9
  replace he := he.below hb9
  replace si := si.below hb9
  replace se := se.below hb9
  replace hb := bt hb hb9
  clear hb9
  go_upto_region 3 with fail
  go_wp2_with (refine wpList_load_row rfl 30 _ rfl _ rfl 30 #[.int .u8 (ak.toNat : Int), .int .u64 (an : Int), .int .u8 (ac.toNat : Int), .string ai, .string ax, .string au, .string aw, .int .u64 (av : Int), .string s1, .string s2, .string s3, .string s4, .string s5, .string s6, .string s7] (0, 0) _ hA Try.underlying30 rfl kASK9 ?_)
  refine (h1 _).mono ?_
  rintro e w2 ⟨rfl, hb9⟩
  replace hR := hR.below hb9
  replace hi := hi.below hb9
  replace he := he.below hb9
  replace si := si.below hb9
  replace se := se.below hb9
  replace hb := bt hb hb9
  clear hb9 h1 hA
  generalize (Value.agg #[.int .u8 (ak.toNat : Int), .int .u64 (an : Int), .int .u8 (ac.toNat : Int), .string ai, .string ax, .string au, .string aw, .int .u64 (av : Int), .string s1, .string s2, .string s3, .string s4, .string s5, .string s6, .string s7] : Value) = V1
  go_upto_if 28 with fail
  go_cut [] (fun wx => Blk wx (w.heap.size + 1) [.int .i64 ry, .int .u64 (rn : Int), .int .i64 rp, .bool ra, .slice adi ni capi, .slice ade ne cape] 44 ∧ Texts wx adi ids ∧ Texts wx ade er ∧ SmallAt wx adi ids ∧ SmallAt wx ade er ∧ Below w.heap.size w wx)
  case first =>
    clear h3 H4 H7
    by_cases hE : E1 = 0
    case pos =>
      obtain ⟨hadd, hrd, hcut2⟩ := H2.out hE
      have HC2 := hide hcut2
      subst hE
      clear H2 hcut2
      obtain ⟨SM, hSM⟩ := named (S1 ++ M)
      simp only [← hSM.out] at hadd hrd
      clear hSM
      have hcv := blk_string' (Blk.new w2 [.int .u8 (mo.toNat : Int)] 5)
      rw [show str [mo] = M from hM.out.symm] at hcv
      have hcv' : (convert 51 9 (.slice (some ⟨w2.heap.size, 0, none⟩) 1 1)).run Try.prog (w2.alloc (.cells #[.int .u8 (mo.toNat : Int)] 5)) = .ok (.string M) (w2.alloc (.cells #[.int .u8 (mo.toNat : Int)] 5)) := hcv
      clear hcv
      replace hR := hR.alloc (.cells #[.int .u8 (mo.toNat : Int)] 5)
      replace hi := hi.below (below_alloc w2 (.cells #[.int .u8 (mo.toNat : Int)] 5))
      replace he := he.below (below_alloc w2 (.cells #[.int .u8 (mo.toNat : Int)] 5))
      replace si := si.below (below_alloc w2 (.cells #[.int .u8 (mo.toNat : Int)] 5))
      replace se := se.below (below_alloc w2 (.cells #[.int .u8 (mo.toNat : Int)] 5))
      replace hb := bt hb (below_alloc w2 (.cells #[.int .u8 (mo.toNat : Int)] 5))
      go_wp2_with fail
      refine (hrd _).mono ?_
      rintro e w3 ⟨rfl, hb9⟩
      replace hR := hR.below hb9
      replace hi := hi.below hb9
      replace he := he.below hb9
      replace si := si.below hb9
      replace se := se.below hb9
      replace hb := bt hb hb9
      replace hR := hR.alloc (.cells #[.int .u8 0, .int .u64 0, .int .u8 0, .string ⟨#[]⟩, .string ⟨#[]⟩, .string ⟨#[]⟩, .string ⟨#[]⟩, .int .u64 0, .string ⟨#[]⟩, .string ⟨#[]⟩, .string ⟨#[]⟩, .string ⟨#[]⟩, .string ⟨#[]⟩, .string ⟨#[]⟩, .string ⟨#[]⟩] 30)
      replace hi := hi.below (below_alloc w3 (.cells #[.int .u8 0, .int .u64 0, .int .u8 0, .string ⟨#[]⟩, .string ⟨#[]⟩, .string ⟨#[]⟩, .string ⟨#[]⟩, .int .u64 0, .string ⟨#[]⟩, .string ⟨#[]⟩, .string ⟨#[]⟩, .string ⟨#[]⟩, .string ⟨#[]⟩, .string ⟨#[]⟩, .string ⟨#[]⟩] 30))
      replace he := he.below (below_alloc w3 (.cells #[.int .u8 0, .int .u64 0, .int .u8 0, .string ⟨#[]⟩, .string ⟨#[]⟩, .string ⟨#[]⟩, .string ⟨#[]⟩, .int .u64 0, .string ⟨#[]⟩, .string ⟨#[]⟩, .string ⟨#[]⟩, .string ⟨#[]⟩, .string ⟨#[]⟩, .string ⟨#[]⟩, .string ⟨#[]⟩] 30))
      replace si := si.below (below_alloc w3 (.cells #[.int .u8 0, .int .u64 0, .int .u8 0, .string ⟨#[]⟩, .string ⟨#[]⟩, .string ⟨#[]⟩, .string ⟨#[]⟩, .int .u64 0, .string ⟨#[]⟩, .string ⟨#[]⟩, .string ⟨#[]⟩, .string ⟨#[]⟩, .string ⟨#[]⟩, .string ⟨#[]⟩, .string ⟨#[]⟩] 30))
      replace se := se.below (below_alloc w3 (.cells #[.int .u8 0, .int .u64 0, .int .u8 0, .string ⟨#[]⟩, .string ⟨#[]⟩, .string ⟨#[]⟩, .string ⟨#[]⟩, .int .u64 0, .string ⟨#[]⟩, .string ⟨#[]⟩, .string ⟨#[]⟩, .string ⟨#[]⟩, .string ⟨#[]⟩, .string ⟨#[]⟩, .string ⟨#[]⟩] 30))
      replace hb := bt hb (below_alloc w3 (.cells #[.int .u8 0, .int .u64 0, .int .u8 0, .string ⟨#[]⟩, .string ⟨#[]⟩, .string ⟨#[]⟩, .string ⟨#[]⟩, .int .u64 0, .string ⟨#[]⟩, .string ⟨#[]⟩, .string ⟨#[]⟩, .string ⟨#[]⟩, .string ⟨#[]⟩, .string ⟨#[]⟩, .string ⟨#[]⟩] 30))
      clear hb9 hrd hadd hcv'
      go_upto_region 6 with fail
      obtain ⟨w4, hw4⟩ := named (w3.alloc (.cells #[.int .u8 0, .int .u64 0, .int .u8 0, .string ⟨#[]⟩, .string ⟨#[]⟩, .string ⟨#[]⟩, .string ⟨#[]⟩, .int .u64 0, .string ⟨#[]⟩, .string ⟨#[]⟩, .string ⟨#[]⟩, .string ⟨#[]⟩, .string ⟨#[]⟩, .string ⟨#[]⟩, .string ⟨#[]⟩] 30))
      rw [← hw4.out] at hR hb hi he si se ⊢
      clear hw4
      by_cases c1 : 0 ≤ at_
      case neg =>
        have u1 : ¬ (0 : Int) ≤ at_ := c1
        have u2 : decide ((0 : Int) ≤ at_) = false := by simpa using c1
        clear HC2
        go_wp2
        go_meet
        case rel => exact ⟨hR, hi, he, si, se, hb⟩
      case pos =>
      by_cases c2 : at_ < (S1.size : Int)
      case neg =>
        clear HC2
        go_wp2
        go_meet
        case rel => exact ⟨hR, hi, he, si, se, hb⟩
      case pos =>
        obtain ⟨k, rfl⟩ : ∃ k : Nat, at_ = (k : Int) := ⟨at_.toNat, by omega⟩
        have hk : k ≤ S1.size := by omega
        have hrc := HC2.out k (by omega)
        clear HC2
        obtain ⟨SC, hSC⟩ := named (S1.extract 0 k)
        simp only [← hSC.out] at hrc
        have hsc := hSC.out.symm
        go_wp2_with fail
        refine (hrc _).mono ?_
        rintro e w5 ⟨rfl, hb9⟩
        replace hR := hR.below hb9
        replace hi := hi.below hb9
        replace he := he.below hb9
        replace si := si.below hb9
        replace se := se.below hb9
        replace hb := bt hb hb9
        replace hR := hR.alloc (.cells #[.int .u8 0, .int .u64 0, .int .u8 0, .string ⟨#[]⟩, .string ⟨#[]⟩, .string ⟨#[]⟩, .string ⟨#[]⟩, .int .u64 0, .string ⟨#[]⟩, .string ⟨#[]⟩, .string ⟨#[]⟩, .string ⟨#[]⟩, .string ⟨#[]⟩, .string ⟨#[]⟩, .string ⟨#[]⟩] 30)
        replace hi := hi.below (below_alloc w5 (.cells #[.int .u8 0, .int .u64 0, .int .u8 0, .string ⟨#[]⟩, .string ⟨#[]⟩, .string ⟨#[]⟩, .string ⟨#[]⟩, .int .u64 0, .string ⟨#[]⟩, .string ⟨#[]⟩, .string ⟨#[]⟩, .string ⟨#[]⟩, .string ⟨#[]⟩, .string ⟨#[]⟩, .string ⟨#[]⟩] 30))
        replace he := he.below (below_alloc w5 (.cells #[.int .u8 0, .int .u64 0, .int .u8 0, .string ⟨#[]⟩, .string ⟨#[]⟩, .string ⟨#[]⟩, .string ⟨#[]⟩, .int .u64 0, .string ⟨#[]⟩, .string ⟨#[]⟩, .string ⟨#[]⟩, .string ⟨#[]⟩, .string ⟨#[]⟩, .string ⟨#[]⟩, .string ⟨#[]⟩] 30))
        replace si := si.below (below_alloc w5 (.cells #[.int .u8 0, .int .u64 0, .int .u8 0, .string ⟨#[]⟩, .string ⟨#[]⟩, .string ⟨#[]⟩, .string ⟨#[]⟩, .int .u64 0, .string ⟨#[]⟩, .string ⟨#[]⟩, .string ⟨#[]⟩, .string ⟨#[]⟩, .string ⟨#[]⟩, .string ⟨#[]⟩, .string ⟨#[]⟩] 30))
        replace se := se.below (below_alloc w5 (.cells #[.int .u8 0, .int .u64 0, .int .u8 0, .string ⟨#[]⟩, .string ⟨#[]⟩, .string ⟨#[]⟩, .string ⟨#[]⟩, .int .u64 0, .string ⟨#[]⟩, .string ⟨#[]⟩, .string ⟨#[]⟩, .string ⟨#[]⟩, .string ⟨#[]⟩, .string ⟨#[]⟩, .string ⟨#[]⟩] 30))
        replace hb := bt hb (below_alloc w5 (.cells #[.int .u8 0, .int .u64 0, .int .u8 0, .string ⟨#[]⟩, .string ⟨#[]⟩, .string ⟨#[]⟩, .string ⟨#[]⟩, .int .u64 0, .string ⟨#[]⟩, .string ⟨#[]⟩, .string ⟨#[]⟩, .string ⟨#[]⟩, .string ⟨#[]⟩, .string ⟨#[]⟩, .string ⟨#[]⟩] 30))
        clear hb9 hrc
        go_upto_region 10 with fail
        obtain ⟨w6, hw6⟩ := named (w5.alloc (.cells #[.int .u8 0, .int .u64 0, .int .u8 0, .string ⟨#[]⟩, .string ⟨#[]⟩, .string ⟨#[]⟩, .string ⟨#[]⟩, .int .u64 0, .string ⟨#[]⟩, .string ⟨#[]⟩, .string ⟨#[]⟩, .string ⟨#[]⟩, .string ⟨#[]⟩, .string ⟨#[]⟩, .string ⟨#[]⟩] 30))
        rw [← hw6.out] at hR hb hi he si se ⊢
        clear hw6
        go_wp2
        go_meet
        case rel => exact ⟨hR, hi, he, si, se, hb⟩
    case neg =>
      have u1 : (E1 == 0) = false := by simp [hE]
      clear H2 hE
      go_wp2
      go_meet
      case rel => exact ⟨hR, hi, he, si, se, hb⟩
  case rest =>
    clear hR hi he si se hb H2
    obtain ⟨hR, hi, he, si, se, hb⟩ := hcut
    have h3' := h3 _ hi he si se
    clear h3
    go_wp2_with (refine wpList_load_row rfl 44 _ rfl _ rfl 44 #[.int .i64 ry, .int .u64 (rn : Int), .int .i64 rp, .bool ra, .slice adi ni capi, .slice ade ne cape] (0, 0) _ hR Try.underlying44 rfl kREP ?_)
    refine h3'.mono ?_
    rintro e w5 ⟨rfl, hb9⟩
    replace hb := bt hb hb9
    clear hb9 h3' hR hi he si se
    generalize (Value.agg #[.int .i64 ry, .int .u64 (rn : Int), .int .i64 rp, .bool ra, .slice adi ni capi, .slice ade ne cape] : Value) = V2
    by_cases hE : E2 = 0
    case neg =>
      have u1 : (E2 != 0) = true := by simp [hE]
      have hS2 := H7.out hE
      subst hS2
      clear H4 H7 hE
      go_wp2
      go_ret
      exact ⟨by first | rfl | simp | decide, hb⟩
    case pos =>
      obtain ⟨hadd, hrd, hcut2⟩ := H4.out hE
      have HC2 := hide hcut2
      subst hE
      clear H4 H7 hcut2
      obtain ⟨SM, hSM⟩ := named (S2 ++ M)
      simp only [← hSM.out] at hadd hrd
      clear hSM
      have hcv := blk_string' (Blk.new w5 [.int .u8 (mo.toNat : Int)] 5)
      rw [show str [mo] = M from hM.out.symm] at hcv
      have hcv' : (convert 51 9 (.slice (some ⟨w5.heap.size, 0, none⟩) 1 1)).run Try.prog (w5.alloc (.cells #[.int .u8 (mo.toNat : Int)] 5)) = .ok (.string M) (w5.alloc (.cells #[.int .u8 (mo.toNat : Int)] 5)) := hcv
      clear hcv
      replace hb := bt hb (below_alloc w5 (.cells #[.int .u8 (mo.toNat : Int)] 5))
      go_wp2_with fail
      refine (hrd _).mono ?_
      rintro e w6 ⟨⟨v, rfl, v1, v2, rfl, R1, R2⟩, hb9⟩
      obtain ⟨A1, c1, rfl, -, -⟩ := R1
      obtain ⟨B1, d1, rfl, -, -⟩ := R2
      simp only [repCells, rep0, List.length_nil]
      replace hb := bt hb hb9
      replace hb := bt hb (below_alloc w6 (.cells #[.int .i64 0, .int .u64 0, .int .i64 0, .bool false, .slice A1 0 c1, .slice B1 0 d1] 44))
      clear hb9 hrd hadd hcv'
      go_upto_region 16 with fail
      obtain ⟨w7, hw7⟩ := named (w6.alloc (.cells #[.int .i64 0, .int .u64 0, .int .i64 0, .bool false, .slice A1 0 c1, .slice B1 0 d1] 44))
      rw [← hw7.out] at hb ⊢
      clear hw7
      by_cases c1 : at_ < 0
      case pos =>
        clear HC2
        go_wp2
        go_ret
        exact ⟨by simp, hb⟩
      case neg =>
      by_cases c2 : (S2.size : Int) ≤ at_
      case pos =>
        clear HC2
        go_wp2
        go_ret
        exact ⟨by simp, hb⟩
      case neg =>
        obtain ⟨k, rfl⟩ : ∃ k : Nat, at_ = (k : Int) := ⟨at_.toNat, by omega⟩
        have hk : k ≤ S2.size := by omega
        have hrc := HC2.out k (by omega)
        clear HC2
        obtain ⟨SC, hSC⟩ := named (S2.extract 0 k)
        simp only [← hSC.out] at hrc
        have hsc := hSC.out.symm
        go_wp2_with fail
        refine (hrc _).mono ?_
        rintro e w8 ⟨⟨v, rfl, v1, v2, rfl, R1, R2⟩, hb9⟩
        obtain ⟨A2, e2, rfl, -, -⟩ := R1
        obtain ⟨B2, f2, rfl, -, -⟩ := R2
        simp only [repCells, rep0, List.length_nil]
        replace hb := bt hb hb9
        replace hb := bt hb (below_alloc w8 (.cells #[.int .i64 0, .int .u64 0, .int .i64 0, .bool false, .slice A2 0 e2, .slice B2 0 f2] 44))
        clear hb9 hrc
        go_wp2
        go_ret
        exact ⟨by simp, hb⟩
end Go.Proofs.Ytiodfbbgbnbdpaa
