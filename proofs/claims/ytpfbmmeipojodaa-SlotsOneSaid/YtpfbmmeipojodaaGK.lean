/- Several small texts of this proof, one behind the other. -/
import Derived.Test.YtpfbmmeipojodaaGC
import Derived.Test.YtpfbmmeipojodaaSecDoPut
import Derived.Test.YtpfbmmeipojodaaGI
import Derived.Test.YtpfbmmeipojodaaFlat
import Derived.Test.YtpfbmmeipojodaaGA
import Derived.Test.YtpfbmmeipojodaaGB
import Derived.Lib.AppendZerosOnto
import Derived.Lib.SliceRun
import Derived.RangeFuncNested
import Derived.RangeFuncBound
import Derived.RangeFuncCalls
import Derived.RangeFuncLeaves
import Derived.RangeFuncBox
import Derived.Shelf.Abstract
import Derived.Shelf.RegionOpen
import Derived.OwnWalkIn
import Derived.TacticsInMore
import Derived.LoopNIn
import Derived.LoopIn
import Derived.Test.YtpfbmmeipojodaaRecSectors
section
/- wal.steps: what steps come to, one by one. -/
namespace Go.Proofs.Ytpfbmmeipojodaa
set_option linter.unusedSimpArgs false
set_option linter.unusedVariables false
open Go.RowKit
/-- A function value that does a step, in any world behind w. -/
def StpFn (w : World) (v : Value) (s : Stp) : Prop := ∃ F caps, v = .func (.func F) #[] caps ∧ (∀ args W, (callFunc F args).run Try.prog W = .ok (.enter F args) W) ∧
  ∀ (u : World) (vd : Value) (d : Dk), Below w.heap.size w u → DkIs u vd d → Calls Try.prog F (#[vd] ++ caps) u (DkRet (stD d s) (stE d s) u)
theorem StpFn.below {w w' : World} {v : Value} {s : Stp} (h : StpFn w v s) (hb : Below w.heap.size w w') : StpFn w' v s := by
  obtain ⟨F, caps, e, he, hf⟩ := h
  exact ⟨F, caps, e, he, fun u vd d hu hd => hf u vd d (bt hb hu) hd⟩
theorem stpFn_sync (w : World) : StpFn w (.func (.func 51) #[] #[]) .sync :=
  ⟨_, _, rfl, enters_of Try.func51 (by kernel_rfl) rfl, fun u vd d _ hd => sync_w vd d u hd⟩
set_option maxRecDepth 100000 in
set_option maxHeartbeats 8000000 in
theorem steps_w (vd : Value) (d : Dk) (A : Option Addr) (n c : Nat) (vs : List Value) (ss : List Stp) (w : World) (hd : DkIs w vd d) (hl : Lies w A n 1 vs) (hs : ss.length = n) (hn : n ≤ 1000000)
    (hf : ∀ (i : Nat) (v : Value) (s : Stp), vs[i]? = some v → ss[i]? = some s → StpFn w v s) :
    Calls Try.prog 49 #[vd, .slice A n c] w (DkRet (runD d ss) (runE d ss) w) := by
  obtain ⟨A1, c1, A2, c2, rfl, h1, h2, hl1, hl2, hf1, hf2⟩ := hd
  have hvl : vs.length = n := by simpa using hl.1
  obtain ⟨b0, k1, k2⟩ := two_blk w [.slice A1 d.secs.length c1, .slice A2 d.pend.length c2, .bool d.off, .int .i64 d.fuse] [.slice none 0 0, .slice none 0 0, .bool false, .int .i64 0] 28 28
  have hBx : Box ((w.alloc (.cells #[.slice A1 d.secs.length c1, .slice A2 d.pend.length c2, .bool d.off, .int .i64 d.fuse] 28)).alloc (.cells #[.slice none 0 0, .slice none 0 0, .bool false, .int .i64 0] 28)) w.heap.size A1 c1 A2 c2 d :=
    ⟨k1, h1.below b0, h2.below b0, hl1, hl2, hf1, hf2⟩
  have Hvl := hide hvl
  have Hs := hide hs
  clear hvl hs
  go_enter Try.func49, Try.ntmps49
  go_wp2_with fail
  go_loopw [12] (fun i wr => ∃ (k : Nat) (dk : Dk), k ≤ n ∧ i = .int .i64 (k : Int) ∧ Hid (runD d ss = runD dk (ss.drop k) ∧ runE d ss = runE dk (ss.drop k)) ∧ (∃ B1 e1 B2 e2, Box wr w.heap.size B1 e1 B2 e2 dk) ∧ Blk wr (w.heap.size + 1) [.slice none 0 0, .slice none 0 0, .bool false, .int .i64 0] 28 ∧ Below w.heap.size w wr) (fun i _ => n - (intOf i).toNat)
  case atStart => exact ⟨0, d, Nat.zero_le _, rfl, ⟨rfl, rfl⟩, ⟨_, _, _, _, hBx⟩, k2, b0⟩
  case round =>
    obtain ⟨k, dk, hk, rfl, HR, ⟨B1, e1, B2, e2, hB⟩, hZ, hbw⟩ := hrel
    clear k1 k2 hBx b0
    by_cases hlt : k < n
    · have hltI : (k : Int) < (n : Int) := by omega
      have hk1 : k < vs.length := by rw [Hvl.out]; exact hlt
      have hk2 : k < ss.length := by rw [Hs.out]; exact hlt
      obtain ⟨b, o, rfl, hc⟩ := hl.2 (by intro e; rw [e] at hk1; simp at hk1)
      have hck := hc k vs[k] (by simp [hk1])
      obtain ⟨F, caps, hv, he, hF⟩ := hf k vs[k] ss[k] (by simp [hk1]) (by simp [hk2])
      rw [hv] at hck
      have hbl : b < w.heap.size := World.block_lt_of_cell? w _ hck
      have hck2 := (hbw.cell (p := ⟨b, o + k, none⟩) hbl).trans hck
      obtain ⟨s, Hsk⟩ := named ss[k]
      rw [← Hsk.out] at hF
      have hcall := hF wr _ dk hbw hB.is
      have HD := hide (show ss.drop k = s :: ss.drop (k + 1) by rw [Hsk.out]; exact drop_cons_l _ _ hk2)
      have y0 := hB.blk.cell 0
      have y1 := hB.blk.cell 1
      have y2 := hB.blk.cell 2
      have y3 := hB.blk.cell 3
      clear hck hv hc hF Hsk hk1 hk2 hbl
      go_wp2_with fail
      refine hcall.mono ?_
      obtain ⟨D, HD1⟩ := named (stD dk s)
      obtain ⟨E, HE1⟩ := named (stE dk s)
      rw [← HD1.out, ← HE1.out]
      rintro e w2 ⟨v2, rfl, ⟨P1, p1, P2, p2, rfl, t1, t2, l1, l2, f1, f2⟩, hb2⟩
      have g1 := (hB.below hb2).alloc (.cells #[.slice P1 D.secs.length p1, .slice P2 D.pend.length p2, .bool D.off, .int .i64 D.fuse] 28)
      have gz := (hZ.below hb2).alloc (.cells #[.slice P1 D.secs.length p1, .slice P2 D.pend.length p2, .bool D.off, .int .i64 D.fuse] 28)
      have gn := Blk.new w2 [.slice P1 D.secs.length p1, .slice P2 D.pend.length p2, .bool D.off, .int .i64 D.fuse] 28
      have gt1 := t1.below (below_alloc w2 (.cells #[.slice P1 D.secs.length p1, .slice P2 D.pend.length p2, .bool D.off, .int .i64 D.fuse] 28))
      have gt2 := t2.below (below_alloc w2 (.cells #[.slice P1 D.secs.length p1, .slice P2 D.pend.length p2, .bool D.off, .int .i64 D.fuse] 28))
      have gb := bt (bt hbw hb2) (below_alloc w2 (.cells #[.slice P1 D.secs.length p1, .slice P2 D.pend.length p2, .bool D.off, .int .i64 D.fuse] 28))
      clear hcall hB y0 y1 y2 y3 hZ
      go_upto_region 5 with fail
      obtain ⟨W2, HW2⟩ := named (w2.alloc (.cells #[.slice P1 D.secs.length p1, .slice P2 D.pend.length p2, .bool D.off, .int .i64 D.fuse] 28))
      obtain ⟨M, HM⟩ := named w2.heap.size
      rw [← HM.out] at gn ⊢
      rw [← HW2.out] at g1 gz gn gt1 gt2 gb ⊢
      clear HW2 HM t1 t2 hb2
      have y0 := gn.cell 0
      have y1 := gn.cell 1
      have y2 := gn.cell 2
      have y3 := gn.cell 3
      have q0 := g1.blk.cell 0
      have q1 := g1.blk.cell 1
      have q2 := g1.blk.cell 2
      have q3 := g1.blk.cell 3
      have z0 := g1.blk.free 0
      have z1 := g1.blk.free 1
      have z2 := g1.blk.free 2
      have z3 := g1.blk.free 3
      go_upto_region 6 with fail
      have hB3 : Box (set4 W2 w.heap.size (.slice P1 D.secs.length p1) (.slice P2 D.pend.length p2) (.bool D.off) (.int .i64 D.fuse)) w.heap.size P1 p1 P2 p2 D := g1.set gt1 gt2 l1 l2 f1 f2
      have hZ3 := gz.far4 (X := w.heap.size) (by omega) (.slice P1 D.secs.length p1) (.slice P2 D.pend.length p2) (.bool D.off) (.int .i64 D.fuse)
      have hb3 := below4 gb (Nat.le_refl _) (.slice P1 D.secs.length p1) (.slice P2 D.pend.length p2) (.bool D.off) (.int .i64 D.fuse)
      unfold set4 at hB3 hZ3 hb3
      obtain ⟨W3, HW3⟩ := named ((((W2.setCell ⟨w.heap.size, 0, none⟩ (.slice P1 D.secs.length p1)).setCell ⟨w.heap.size, 1, none⟩ (.slice P2 D.pend.length p2)).setCell ⟨w.heap.size, 2, none⟩ (.bool D.off)).setCell ⟨w.heap.size, 3, none⟩ (.int .i64 D.fuse))
      rw [← HW3.out] at hB3 hZ3 hb3 ⊢
      clear HW3 g1 gz gn gt1 gt2 gb y0 y1 y2 y3 q0 q1 q2 q3 z0 z1 z2 z3 l1 l2 f1 f2
      obtain ⟨hR1, hR2⟩ := HR.out
      rw [HD.out] at hR1 hR2
      by_cases hE : E = 0
      · subst hE
        have hs2 := run_ok (l := ss.drop (k + 1)) HE1.out.symm
        rw [hs2.1, ← HD1.out] at hR1
        rw [hs2.2, ← HD1.out] at hR2
        have HR2 : Hid (runD d ss = runD D (ss.drop (k + 1)) ∧ runE d ss = runE D (ss.drop (k + 1))) := ⟨hR1, hR2⟩
        clear hR1 hR2 hs2 HE1
        go_wp2_with fail
        go_roundw
        case rel => exact ⟨k + 1, D, by omega, by go_num, HR2, ⟨_, _, _, _, hB3⟩, hZ3, hb3⟩
        case measure => simp [intOf]; omega
      · have hs2 := run_no (l := ss.drop (k + 1)) (d := dk) (s := s) (by rw [← HE1.out]; exact hE)
        rw [hs2.1, ← HD1.out] at hR1
        rw [hs2.2, ← HE1.out] at hR2
        have HR1 := hide hR1
        have HR2 := hide hR2
        have hne1 : (E == 0) = false := by simp [hE]
        have hne2 : (E != 0) = true := by simp [hE]
        clear hR1 hR2 hs2 HE1 HD1 HR hE
        have q0 := hB3.blk.cell 0
        have q1 := hB3.blk.cell 1
        have q2 := hB3.blk.cell 2
        have q3 := hB3.blk.cell 3
        have r0 := hZ3.cell 0
        have r1 := hZ3.cell 1
        have r2 := hZ3.cell 2
        have r3 := hZ3.cell 3
        have z0 := hZ3.free 0
        have z1 := hZ3.free 1
        have z2 := hZ3.free 2
        have z3 := hZ3.free 3
        go_wp2_with fail
        refine bodyPost_ret (v := .tuple #[.agg #[.slice P1 D.secs.length p1, .slice P2 D.pend.length p2, .bool D.off, .int .i64 D.fuse], .int .i64 E]) (by simp [results, Try.results49, go_sem, r0, r1, r2, r3]) rfl ?_
        exact dkRet_of (hand_on hB3.tx hB3.wr hB3.l1 hB3.l2 hB3.f1 hB3.f2 hZ3 hb3 (by omega)) HR1.out HR2.out
    · obtain rfl : k = n := by omega
      have hge : ¬ ((k : Int) < (k : Int)) := by omega
      obtain ⟨hR1, hR2⟩ := HR.out
      rw [← Hs.out, List.drop_length] at hR1 hR2
      have HR1 : Hid (runD d ss = dk) := hR1
      have HR2 : Hid (runE d ss = 0) := hR2
      clear hR1 hR2 HR
      have q0 := hB.blk.cell 0
      have q1 := hB.blk.cell 1
      have q2 := hB.blk.cell 2
      have q3 := hB.blk.cell 3
      have r0 := hZ.cell 0
      have r1 := hZ.cell 1
      have r2 := hZ.cell 2
      have r3 := hZ.cell 3
      have z0 := hZ.free 0
      have z1 := hZ.free 1
      have z2 := hZ.free 2
      have z3 := hZ.free 3
      go_wp2_with fail
      refine bodyPost_ret (v := .tuple #[.agg #[.slice B1 dk.secs.length e1, .slice B2 dk.pend.length e2, .bool dk.off, .int .i64 dk.fuse], .int .i64 0]) (by simp [results, Try.results49, go_sem, r0, r1, r2, r3]) rfl ?_
      exact dkRet_of (hand_on hB.tx hB.wr hB.l1 hB.l2 hB.f1 hB.f2 hZ hbw (by omega)) HR1.out HR2.out
end Go.Proofs.Ytpfbmmeipojodaa
end
section
/- The closures of wal.Lay: what makes a put, what it does. -/
namespace Go.Proofs.Ytpfbmmeipojodaa
set_option linter.unusedSimpArgs false
set_option linter.unusedVariables false
open Go.RowKit
set_option maxHeartbeats 1000000 in
theorem lay1_w (i : Int) (p q : Value) (w : World) :
    Calls Try.prog 46 #[.int .i64 i, p, q] w fun e w' => e = .returned (.func (.func 47) #[] #[p, .pointer (some ⟨w.heap.size, 0, none⟩), q]) ∧ w' = w.alloc (.cells #[.int .i64 i] 3) := by
  have hmf : ∀ fn first cap w, (Instr.makeFunc fn first cap).run Try.prog w = .ok (.func fn first cap) w := fun _ _ _ _ => rfl
  go_enter Try.func46, Try.ntmps46
  go_wp2
  go_ret
  exact ⟨rfl, rfl⟩
set_option maxRecDepth 100000 in
set_option maxHeartbeats 4000000 in
theorem lay11_w (vd : Value) (d : Dk) (bf bi bl a i : Nat) (A : Option Addr) (n c : Nat) (l : List ByteArray) (w : World) (hd : DkIs w vd d) (cf : w.cell? ⟨bf, 0, none⟩ = some (.int .i64 (a : Int))) (ci : w.cell? ⟨bi, 0, none⟩ = some (.int .i64 (i : Int)))
    (cl : w.cell? ⟨bl, 0, none⟩ = some (.slice A n c)) (hl : Texts w A l) (hn : l.length = n) (hi : i < n) (hA : a + n ≤ 1000000) :
    Calls Try.prog 47 #[vd, .pointer (some ⟨bf, 0, none⟩), .pointer (some ⟨bi, 0, none⟩), .pointer (some ⟨bl, 0, none⟩)] w (DkRet (putD d ((a + i : Nat) : Int) (l.getD i ⟨#[]⟩)) (putE d ((a + i : Nat) : Int) (l.getD i ⟨#[]⟩)) w) := by
  have hput0 := fun u (hu : Below w.heap.size w u) => put_w vd d ((a + i : Nat) : Int) (l.getD i ⟨#[]⟩) u (hd.below hu)
  obtain ⟨A1, c1, A2, c2, rfl, h1, h2, hl1, hl2, hf1, hf2⟩ := hd
  have hbf := World.block_lt_of_cell? w _ cf
  have hbi := World.block_lt_of_cell? w _ ci
  have hbl := World.block_lt_of_cell? w _ cl
  obtain ⟨b, o, rfl, hc⟩ := hl.at_ (k := i) (by omega)
  have hbx := World.block_lt_of_cell? w _ hc
  have hX : l.getD i ⟨#[]⟩ = l[i] := by simp [List.getD, List.getElem?_eq_getElem (show i < l.length by omega)]
  obtain ⟨X, HX⟩ := named l[i]
  rw [hX] at hput0 ⊢
  rw [← HX.out] at hput0 hc ⊢
  obtain ⟨g, Hg⟩ := named (a + i)
  rw [← Hg.out] at hput0 ⊢
  have hga : (a : Int) + (i : Int) = (g : Int) := by rw [Hg.out]; omega
  have hwg : IntKind.i64.wrap (g : Int) = (g : Int) := by simp [IntKind.wrap, IntKind.bits, IntKind.signed]; rw [Hg.out]; omega
  have hi0 : (0 : Int) ≤ (i : Int) := by omega
  have hi1 : (i : Int) < (n : Int) := by omega
  obtain ⟨D, HD⟩ := named (putD d (g : Int) X)
  obtain ⟨E, HE⟩ := named (putE d (g : Int) X)
  have hput : ∀ u, Below w.heap.size w u → Calls Try.prog 48 #[.agg #[.slice A1 d.secs.length c1, .slice A2 d.pend.length c2, .bool d.off, .int .i64 d.fuse], .int .i64 (g : Int), .string X] u fun e w' => ∃ v2, e = .returned (.tuple #[v2, .int .i64 E]) ∧ DkIs w' v2 D ∧ Below u.heap.size u w' := fun u hu => by
    have := hput0 u hu
    rw [← HD.out, ← HE.out] at this
    exact this
  obtain ⟨b0, k1, k2⟩ := two_blk w [.slice A1 d.secs.length c1, .slice A2 d.pend.length c2, .bool d.off, .int .i64 d.fuse] [.slice none 0 0, .slice none 0 0, .bool false, .int .i64 0] 28 28
  clear HX hput0 hX hn hi hl h1 h2 hA
  go_enter Try.func47, Try.ntmps47
  go_wp2_with fail
  refine region_tail 11 _ (fun u => Below w.heap.size w u ∧ Blk u w.heap.size [.slice A1 d.secs.length c1, .slice A2 d.pend.length c2, .bool d.off, .int .i64 d.fuse] 28 ∧ Blk u (w.heap.size + 1) [.slice none 0 0, .slice none 0 0, .bool false, .int .i64 0] 28) (fun u u' => Below u.heap.size u u')
    (rel [fun v _ => v = .agg #[.slice A1 d.secs.length c1, .slice A2 d.pend.length c2, .bool d.off, .int .i64 d.fuse],
      fun v _ => v = .int .i64 (a : Int),
      fun v _ => v = .int .i64 (i : Int),
      fun v _ => v = .int .i64 (g : Int),
      fun v _ => v = .slice (some ⟨b, o, none⟩) n c,
      fun v _ => v = .int .i64 (i : Int),
      fun v _ => v = .pointer (some ⟨b, o + i, none⟩),
      fun v _ => v = .string X,
      fun v u => ∃ v2, v = .tuple #[v2, .int .i64 E] ∧ DkIs u v2 D,
      fun v u => DkIs u v D,
      fun v _ => v = .int .i64 E])
    (by kernel_rfl) (by kernel_rfl) (by kernel_rfl) (by decide) (fun v => by simp only [putsV, List.take_succ_cons, List.take_zero, Act.put, List.toList_toArray, List.setIfInBounds_toArray, List.set_cons_zero, List.set_cons_succ, Nat.reduceAdd, Nat.zero_add]; rfl) ?_ ⟨b0.drew, k1, k2⟩ ?_ ?_
  · intro j x u u' hb h
    match j with
    | 0 => exact h
    | 1 => exact h
    | 2 => exact h
    | 3 => exact h
    | 4 => exact h
    | 5 => exact h
    | 6 => exact h
    | 7 => exact h
    | 8 => exact (let ⟨v2, e, hd2⟩ := h; ⟨v2, e, hd2.below hb⟩)
    | 9 => exact h.below hb
    | 10 => exact h
    | _ + 11 => trivial
  · refine ⟨?_, ?_, ?_, ?_, ?_, ?_, ?_, ?_, ?_, ?_, ?_, trivial⟩
    · intro v u hS hd K' hK
      simp only [waited, List.toList_toArray, Region.binds, rel, List.getD_cons_zero, List.getD_cons_succ, true_imp_iff, and_true] at hd
      simp only [rel, List.getD_cons_zero, List.getD_cons_succ, Act.put, List.setIfInBounds_toArray, List.set_cons_zero, List.set_cons_succ] at hK
      try simp only [hd] at hK
      obtain ⟨hS1, hS2, hS3⟩ := hS
      have x0 := hS2.cell 0
      have x1 := hS2.cell 1
      have x2 := hS2.cell 2
      have x3 := hS2.cell 3
      go_simp
      exact hK.out _ _ ⟨⟨hS1, hS2, hS3⟩, Below.refl _ _, rfl⟩
    · intro v u hS hd K' hK
      simp only [waited, List.toList_toArray, Region.binds, rel, List.getD_cons_zero, List.getD_cons_succ, true_imp_iff, and_true] at hd
      simp only [rel, List.getD_cons_zero, List.getD_cons_succ, Act.put, List.setIfInBounds_toArray, List.set_cons_zero, List.set_cons_succ] at hK
      try simp only [hd] at hK
      obtain ⟨hS1, hS2, hS3⟩ := hS
      have x0 := (hS1.cell (p := ⟨bf, 0, none⟩) hbf).trans cf
      go_simp
      exact hK.out _ _ ⟨⟨hS1, hS2, hS3⟩, Below.refl _ _, rfl⟩
    · intro v u hS hd K' hK
      simp only [waited, List.toList_toArray, Region.binds, rel, List.getD_cons_zero, List.getD_cons_succ, true_imp_iff, and_true] at hd
      simp only [rel, List.getD_cons_zero, List.getD_cons_succ, Act.put, List.setIfInBounds_toArray, List.set_cons_zero, List.set_cons_succ] at hK
      try simp only [hd] at hK
      obtain ⟨hS1, hS2, hS3⟩ := hS
      have x0 := (hS1.cell (p := ⟨bi, 0, none⟩) hbi).trans ci
      go_simp
      exact hK.out _ _ ⟨⟨hS1, hS2, hS3⟩, Below.refl _ _, rfl⟩
    · intro v u hS hd K' hK
      simp only [waited, List.toList_toArray, Region.binds, rel, List.getD_cons_zero, List.getD_cons_succ, true_imp_iff, and_true] at hd
      simp only [rel, List.getD_cons_zero, List.getD_cons_succ, Act.put, List.setIfInBounds_toArray, List.set_cons_zero, List.set_cons_succ] at hK
      try simp only [hd] at hK
      obtain ⟨hS1, hS2, hS3⟩ := hS
      go_simp
      exact hK.out _ _ ⟨⟨hS1, hS2, hS3⟩, Below.refl _ _, rfl⟩
    · intro v u hS hd K' hK
      simp only [waited, List.toList_toArray, Region.binds, rel, List.getD_cons_zero, List.getD_cons_succ, true_imp_iff, and_true] at hd
      simp only [rel, List.getD_cons_zero, List.getD_cons_succ, Act.put, List.setIfInBounds_toArray, List.set_cons_zero, List.set_cons_succ] at hK
      try simp only [hd] at hK
      obtain ⟨hS1, hS2, hS3⟩ := hS
      have x0 := (hS1.cell (p := ⟨bl, 0, none⟩) hbl).trans cl
      go_simp
      exact hK.out _ _ ⟨⟨hS1, hS2, hS3⟩, Below.refl _ _, rfl⟩
    · intro v u hS hd K' hK
      simp only [waited, List.toList_toArray, Region.binds, rel, List.getD_cons_zero, List.getD_cons_succ, true_imp_iff, and_true] at hd
      simp only [rel, List.getD_cons_zero, List.getD_cons_succ, Act.put, List.setIfInBounds_toArray, List.set_cons_zero, List.set_cons_succ] at hK
      try simp only [hd] at hK
      obtain ⟨hS1, hS2, hS3⟩ := hS
      have x0 := (hS1.cell (p := ⟨bi, 0, none⟩) hbi).trans ci
      go_simp
      exact hK.out _ _ ⟨⟨hS1, hS2, hS3⟩, Below.refl _ _, rfl⟩
    · intro v u hS hd K' hK
      simp only [waited, List.toList_toArray, Region.binds, rel, List.getD_cons_zero, List.getD_cons_succ, true_imp_iff, and_true] at hd
      simp only [rel, List.getD_cons_zero, List.getD_cons_succ, Act.put, List.setIfInBounds_toArray, List.set_cons_zero, List.set_cons_succ] at hK
      try simp only [hd] at hK
      obtain ⟨hS1, hS2, hS3⟩ := hS
      go_simp
      exact hK.out _ _ ⟨⟨hS1, hS2, hS3⟩, Below.refl _ _, rfl⟩
    · intro v u hS hd K' hK
      simp only [waited, List.toList_toArray, Region.binds, rel, List.getD_cons_zero, List.getD_cons_succ, true_imp_iff, and_true] at hd
      simp only [rel, List.getD_cons_zero, List.getD_cons_succ, Act.put, List.setIfInBounds_toArray, List.set_cons_zero, List.set_cons_succ] at hK
      try simp only [hd] at hK
      obtain ⟨hS1, hS2, hS3⟩ := hS
      have x0 := (hS1.cell (p := ⟨b, o + i, none⟩) hbx).trans hc
      go_simp
      exact hK.out _ _ ⟨⟨hS1, hS2, hS3⟩, Below.refl _ _, rfl⟩
    · intro v u hS hd K' hK
      simp only [waited, List.toList_toArray, Region.binds, rel, List.getD_cons_zero, List.getD_cons_succ, true_imp_iff, and_true] at hd
      simp only [rel, List.getD_cons_zero, List.getD_cons_succ, Act.put, List.setIfInBounds_toArray, List.set_cons_zero, List.set_cons_succ] at hK
      try simp only [hd] at hK
      obtain ⟨hS1, hS2, hS3⟩ := hS
      go_simp
      refine (hput _ hS1).mono ?_
      rintro e w2 ⟨v2, rfl, hd2, hb2⟩
      exact hK.out _ _ ⟨⟨bt hS1 hb2, hS2.below hb2, hS3.below hb2⟩, hb2, ⟨_, rfl, hd2⟩⟩
    · intro v u hS hd K' hK
      simp only [waited, List.toList_toArray, Region.binds, rel, List.getD_cons_zero, List.getD_cons_succ, true_imp_iff, and_true] at hd
      simp only [rel, List.getD_cons_zero, List.getD_cons_succ, Act.put, List.setIfInBounds_toArray, List.set_cons_zero, List.set_cons_succ] at hK
      try simp only [hd] at hK
      obtain ⟨hS1, hS2, hS3⟩ := hS
      obtain ⟨v2, e2, hd2⟩ := hd
      simp only [e2] at hK
      go_simp
      exact hK.out _ _ ⟨⟨hS1, hS2, hS3⟩, Below.refl _ _, hd2⟩
    · intro v u hS hd K' hK
      simp only [waited, List.toList_toArray, Region.binds, rel, List.getD_cons_zero, List.getD_cons_succ, true_imp_iff, and_true] at hd
      simp only [rel, List.getD_cons_zero, List.getD_cons_succ, Act.put, List.setIfInBounds_toArray, List.set_cons_zero, List.set_cons_succ] at hK
      try simp only [hd] at hK
      obtain ⟨hS1, hS2, hS3⟩ := hS
      obtain ⟨v2, e2, hd2⟩ := hd
      simp only [e2] at hK
      go_simp
      exact hK.out _ _ ⟨⟨hS1, hS2, hS3⟩, Below.refl _ _, rfl⟩
  · rintro v u ⟨hS1, hS2, hS3⟩ hR
    simp only [holdAll, List.size_toArray, List.length_cons, List.length_nil, Nat.reduceAdd, rel, List.getD_cons_zero, List.getD_cons_succ] at hR
    simp only [List.toList_toArray, List.drop_succ_cons, List.drop_zero]
    obtain ⟨⟨hR0, h9⟩, h10⟩ := hR
    obtain ⟨P1, p1, P2, p2, h9, t1, t2, l1, l2, f1, f2⟩ := h9
    simp only [h9, h10]
    clear h9 h10 hR0
    have r0 := hS3.cell 0
    have r1 := hS3.cell 1
    have r2 := hS3.cell 2
    have r3 := hS3.cell 3
    have z0 := hS3.free 0
    have z1 := hS3.free 1
    have z2 := hS3.free 2
    have z3 := hS3.free 3
    refine seqOps_cons fun K hK => ?_
    go_simp
    refine hK.out _ _ ?_
    clear hK
    refine seqOps_cons fun K2 hK2 => ?_
    go_simp
    refine hK2.out _ _ (seqOps_nil ?_)
    clear hK2
    go_wp2_with fail
    refine bodyPost_ret (v := .tuple #[.agg #[.slice P1 D.secs.length p1, .slice P2 D.pend.length p2, .bool D.off, .int .i64 D.fuse], .int .i64 E]) (by simp [results, Try.results47, go_sem, r0, r1, r2, r3]) rfl ?_
    exact dkRet_of (hand_on t1 t2 l1 l2 f1 f2 hS3 hS1 (by omega)) HD.out.symm HE.out.symm
theorem stpFn_put (w : World) (bf bi bl a i : Nat) (A : Option Addr) (n c : Nat) (l : List ByteArray) (cf : w.cell? ⟨bf, 0, none⟩ = some (.int .i64 (a : Int))) (ci : w.cell? ⟨bi, 0, none⟩ = some (.int .i64 (i : Int)))
    (cl : w.cell? ⟨bl, 0, none⟩ = some (.slice A n c)) (hl : Texts w A l) (hn : l.length = n) (hi : i < n) (hA : a + n ≤ 1000000) :
    StpFn w (.func (.func 47) #[] #[.pointer (some ⟨bf, 0, none⟩), .pointer (some ⟨bi, 0, none⟩), .pointer (some ⟨bl, 0, none⟩)]) (.put (a + i) (l.getD i ⟨#[]⟩)) :=
  ⟨_, _, rfl, enters_of Try.func47 (by kernel_rfl) rfl, fun u vd d hu hd =>
    lay11_w vd d bf bi bl a i A n c l u hd ((hu.cell (World.block_lt_of_cell? w _ cf)).trans cf) ((hu.cell (World.block_lt_of_cell? w _ ci)).trans ci) ((hu.cell (World.block_lt_of_cell? w _ cl)).trans cl) (hl.below hu) hn hi hA⟩
end Go.Proofs.Ytpfbmmeipojodaa
end
section
/- slices.Grow of nothing, slices.Concat of two: at steps. -/
namespace Go.Proofs.Ytpfbmmeipojodaa
set_option linter.unusedSimpArgs false
set_option linter.unusedVariables false
open Go.RowKit
theorem Try.info93 : (Try.prog.info? 93).map (fun i => (i.zero, i.size, i.bytes)) = some (some .nilFunc, 1, 8) := by kernel_rfl
set_option maxRecDepth 100000 in
set_option maxHeartbeats 1000000 in
theorem growStep_w (n : Nat) (w : World) (h1 : 1 ≤ n) (hn : n ≤ 1000000) :
    Calls Try.prog 83 #[.slice none 0 0, .int .i64 (n : Int)] w fun e w' => ∃ v, e = .returned v ∧ w'.ownsRow w.heap.size 93 1 v 0 [] ∧ Below w.heap.size w w' := by
  obtain ⟨i0, hi, hz0, hz1, hz2⟩ := info_parts Try.info93
  have hold : (Builtin.firstCells i0.size 0 (.slice none 0 0)).run Try.prog w.drew = .ok (#[] : Array Value) w.drew := run_firstCells_none w.drew i0.size 0 0 0
  have hrz : ∀ ty, (Builtin.append_ #[96, 3] ty #[.slice none 0 0, .int .i64 (n : Int)]).run Try.prog w =
      .ok (.slice (some ⟨w.heap.size, 0, none⟩) n (grownCap w n 0 93)) (w.drew.alloc (.cells (Builtin.zeroCells Value.nilFunc.cells n ++ Builtin.zeroCells Value.nilFunc.cells (grownCap w n 0 93 - n)) 93)) := fun ty => by
    have h := Lib.run_append_grow_zeros w 96 3 ty 93 i0 .nilFunc .i64 .i64 Try.underlying96 Try.underlying3 hi hz0 none 0 0 [] hold n h1 (by omega) (by omega) (by omega)
      (by rw [hz2]; omega) (growslice_fits (by omega) (by rw [hz2]; omega))
    simp only [Nat.zero_add] at h
    simpa using h
  have hGn : n ≤ grownCap w n 0 93 := grownCap_ge w _ _ _
  have hG63 := grownCap_le_maxLen w n 0 93 (by unfold maxLen; omega)
  obtain ⟨G, hG⟩ : ∃ G, G = grownCap w n 0 93 := ⟨_, rfl⟩
  rw [← hG] at hrz hGn hG63
  have hI : (n : Int) > 0 := by omega
  have hG9 := hG63
  unfold maxLen at hG9
  clear hold hG
  have Hz := hide (show ((Builtin.zeroCells Value.nilFunc.cells n ++ Builtin.zeroCells Value.nilFunc.cells (G - n) : Array Value)).size = G * 1 by
    have hs : Value.nilFunc.cells.size = 1 := rfl
    simp [Builtin.zeroCells, hs]; omega)
  obtain ⟨Z, HZ⟩ := named (Builtin.zeroCells Value.nilFunc.cells n ++ Builtin.zeroCells Value.nilFunc.cells (G - n) : Array Value)
  rw [← HZ.out] at hrz Hz
  go_enter Try.func83, Try.ntmps83
  go_wp2_with (at_builtin; refine Lib.wpList_append_run _ rfl _ _ _ _ rfl _ _ rfl rfl _ _ (hrz _) ?_)
  go_ret
  exact ⟨_, rfl, ⟨rfl, .inr ⟨w.heap.size, G, Z, rfl, Nat.le_refl _, heap_alloc_new w.drew _, Nat.zero_le _, hG63, Hz.out, by simp⟩⟩, ((Below.refl _ w).drew).alloc (Nat.le_refl _) _⟩
set_option maxRecDepth 100000 in
set_option maxHeartbeats 2000000 in
theorem concat_w (b : Nat) (A1 A2 : Option Addr) (n1 c1 n2 c2 : Nat) (xs1 xs2 : List Value) (w : World) (hB : Blk w b [.slice A1 n1 c1, .slice A2 n2 c2] 96) (l1 : Lies w A1 n1 1 xs1) (l2 : Lies w A2 n2 1 xs2)
    (o1 : ∀ u ∈ xs1, u.oneCell' = true) (o2 : ∀ u ∈ xs2, u.oneCell' = true) (h1 : 1 ≤ n2) (hm1 : n1 ≤ 10000) (hm2 : n2 ≤ 10000) :
    Calls Try.prog 50 #[.slice (some ⟨b, 0, none⟩) 2 2] w fun e w' => (∃ A c, e = .returned (.slice A (n1 + n2) c) ∧ Lies w' A (n1 + n2) 1 (xs1 ++ xs2)) ∧ Below w.heap.size w w' := by
  obtain ⟨i0, hi, hz0, hz1, hz2⟩ := info_parts Try.info93
  have y0 := hB.cell 0
  have y1 := hB.cell 1
  go_enter Try.func50, Try.ntmps50
  go_wp2_with fail
  go_loop [3, 11] (fun x i => ∃ k sz : Nat, i = .int .i64 (k : Int) ∧ x = .int .i64 (sz : Int) ∧ ((k = 0 ∧ sz = 0) ∨ (k = 1 ∧ sz = n1) ∨ (k = 2 ∧ sz = n1 + n2))) (fun _ i => 2 - (intOf i).toNat)
  case atStart => exact ⟨0, 0, rfl, rfl, .inl ⟨rfl, rfl⟩⟩
  case round =>
    obtain ⟨k, sz, rfl, rfl, ⟨rfl, rfl⟩ | ⟨rfl, rfl⟩ | ⟨rfl, rfl⟩⟩ := hrel
    · have hge : ¬ ((n1 : Int) < 0) := by omega
      go_wp2_with fail
      go_round
      case rel => exact ⟨1, n1, rfl, by first | rfl | simp, .inr (.inl ⟨rfl, rfl⟩)⟩
      case measure => simp [intOf]
    · obtain ⟨m, Hm⟩ := named (sz + n2)
      have hsum : (sz : Int) + (n2 : Int) = (m : Int) := by rw [Hm.out]; omega
      have hw : IntKind.i64.wrap (m : Int) = (m : Int) := by simp [IntKind.wrap, IntKind.bits, IntKind.signed]; rw [Hm.out]; omega
      have hge : ¬ ((m : Int) < 0) := by omega
      go_wp2_with fail
      go_round
      case rel => exact ⟨2, m, rfl, by first | rfl | simp, .inr (.inr ⟨rfl, Hm.out⟩)⟩
      case measure => simp [intOf]
    · obtain ⟨m, Hm⟩ := named (n1 + n2)
      rw [← Hm.out]
      have hg := growStep_w m w (by rw [Hm.out]; omega) (by rw [Hm.out]; omega)
      clear y0 y1
      go_wp2_with fail
      refine hg.mono ?_
      rintro e w1 ⟨v, rfl, hO, hb⟩
      clear hg
      have hB1 := hB.below hb
      have z0 := hB1.cell 0
      have z1 := hB1.cell 1
      go_wp2_with fail
      go_loopw [6, 27] (fun x i wr => ∃ k : Nat, i = .int .i64 (k : Int) ∧ Below w.heap.size w wr ∧ Blk wr b [.slice A1 n1 c1, .slice A2 n2 c2] 96 ∧ ((k = 0 ∧ wr.ownsRow w.heap.size 93 1 x 0 []) ∨ (k = 1 ∧ wr.ownsRow w.heap.size 93 1 x n1 xs1) ∨ (k = 2 ∧ wr.ownsRow w.heap.size 93 1 x m (xs1 ++ xs2)))) (fun _ i _ => 2 - (intOf i).toNat)
      case atStart => exact ⟨0, rfl, hb, hB1, .inl ⟨rfl, hO⟩⟩
      case round =>
        obtain ⟨k, rfl, hbw, hBw, ⟨rfl, hOw⟩ | ⟨rfl, hOw⟩ | ⟨rfl, hOw⟩⟩ := hrel
        · have z0 := hBw.cell 0
          have hlw := l1.below hbw
          have hszw := hbw.size
          go_wp2_with (at_builtin; refine wpList_append_any _ rfl (.tmp 31) (.tmp 32) _ rfl w.heap.size 93 i0 _ 1 8 Try.underlying96 hi hz0 hz1 hz2 rfl (by omega) u6 0 [] rfl hOw A1 n1 c1 xs1 rfl hlw o1 (by simp only [maxLen]; omega) (by omega) hszw ?_; intro v1 w2 hown1 hg1 hat1)
          have hb2 := hbw.grown hg1 hszw (fun k' e => (World.ownsRow.lt hOw k' e).1)
          have hB2 : Blk w2 b [.slice A1 n1 c1, .slice A2 n2 c2] 96 := (hb2.block b hB.lt).trans hB
          simp only [Nat.zero_add, List.nil_append] at hown1
          go_roundw
          case rel => exact ⟨1, rfl, hb2, hB2, .inr (.inl ⟨rfl, hown1⟩)⟩
          case measure => simp [intOf]
        · have z1 := hBw.cell 1
          have hlw := l2.below hbw
          have hszw := hbw.size
          go_wp2_with (at_builtin; refine wpList_append_any _ rfl (.tmp 31) (.tmp 32) _ rfl w.heap.size 93 i0 _ 1 8 Try.underlying96 hi hz0 hz1 hz2 rfl (by omega) u6 n1 xs1 rfl hOw A2 n2 c2 xs2 rfl hlw o2 (by simp only [maxLen]; omega) (by omega) hszw ?_; intro v1 w2 hown1 hg1 hat1)
          have hb2 := hbw.grown hg1 hszw (fun k' e => (World.ownsRow.lt hOw k' e).1)
          have hB2 : Blk w2 b [.slice A1 n1 c1, .slice A2 n2 c2] 96 := (hb2.block b hB.lt).trans hB
          rw [← Hm.out] at hown1
          go_roundw
          case rel => exact ⟨2, rfl, hb2, hB2, .inr (.inr ⟨rfl, hown1⟩)⟩
          case measure => simp [intOf]
        · obtain ⟨A, c, rfl, _, _, hlies, _⟩ := Lies.of_own hOw
          go_wp2
          go_ret
          refine ⟨⟨A, c, ?_, ?_⟩, hbw⟩
          · rw [← Hm.out]; rfl
          · rw [← Hm.out]; exact hlies
end Go.Proofs.Ytpfbmmeipojodaa
end
section
/- All the frames that lie in a region, one behind the other; which of them are the log. -/
namespace Go.Proofs.Ytpfbmmeipojodaa
open Go.RowKit
theorem frame_lt {d : Dk} {f s a : Nat} {x : Fr} {n : Nat} (h : FrameAt d f s a x n) : 1 ≤ n ∧ a + n ≤ s := ⟨by rw [h.len]; omega, h.room⟩
noncomputable def chainL (d : Dk) (f s : Nat) : Nat → Nat → List (Fr × Nat)
  | 0, _ => []
  | fuel + 1, a => match frameOf d f s a with
    | none => []
    | some (x, n) => (x, a + n) :: chainL d f s fuel (a + n)
theorem frame_cases (d : Dk) (f s a : Nat) : (∃ x n, FrameAt d f s a x n) ∨ ∀ x n, ¬ FrameAt d f s a x n := by
  by_cases h : ∃ x n, FrameAt d f s a x n
  · exact .inl h
  · exact .inr fun x n hx => h ⟨x, n, hx⟩
theorem chain_none {d : Dk} {f s a : Nat} (fuel : Nat) (h : ∀ x n, ¬ FrameAt d f s a x n) : chainL d f s fuel a = [] := by
  cases fuel with
  | zero => rfl
  | succ fuel => rw [chainL, frameOf_none h]
theorem chain_some {d : Dk} {f s a : Nat} (fuel : Nat) {x : Fr} {n : Nat} (h : FrameAt d f s a x n) : chainL d f s (fuel + 1) a = (x, a + n) :: chainL d f s fuel (a + n) := by
  rw [chainL, frameOf_some h]
theorem chain_more {d : Dk} {f s : Nat} : ∀ (fuel a : Nat), s - a ≤ fuel → chainL d f s (fuel + 1) a = chainL d f s fuel a := by
  intro fuel
  induction fuel with
  | zero =>
    intro a h
    rcases frame_cases d f s a with ⟨x, n, hx⟩ | hx
    · have := frame_lt hx
      omega
    · rw [chain_none _ hx, chain_none _ hx]
  | succ fuel ih =>
    intro a h
    rcases frame_cases d f s a with ⟨x, n, hx⟩ | hx
    · have := frame_lt hx
      rw [chain_some _ hx, chain_some _ hx, ih _ (by omega)]
    · rw [chain_none _ hx, chain_none _ hx]
theorem chain_fuel {d : Dk} {f s : Nat} (k a : Nat) : chainL d f s (s - a + k) a = chainL d f s (s - a) a := by
  induction k with
  | zero => rfl
  | succ k ih => rw [← Nat.add_assoc, chain_more _ _ (by omega), ih]
noncomputable def restL (d : Dk) (f s a : Nat) : List (Fr × Nat) := chainL d f s (s - a) a
theorem rest_none {d : Dk} {f s a : Nat} (h : ∀ x n, ¬ FrameAt d f s a x n) : restL d f s a = [] := chain_none _ h
theorem rest_some {d : Dk} {f s a : Nat} {x : Fr} {n : Nat} (h : FrameAt d f s a x n) : restL d f s a = (x, a + n) :: restL d f s (a + n) := by
  have hl := frame_lt h
  have e : s - a = s - a - 1 + 1 := by omega
  have e2 : s - a - 1 = s - (a + n) + (n - 1) := by omega
  unfold restL
  rw [e, chain_some _ h, e2, chain_fuel]
theorem rest_end {d : Dk} {f s a : Nat} (h : s ≤ a) : restL d f s a = [] := rest_none fun x n hx => by have := frame_lt hx; omega
/-- The first frames are those of an epoch, counted on from k. -/
def Sel (ep k : Nat) (pre : List (Fr × Nat)) : Prop := ∀ i (x : Fr × Nat), pre[i]? = some x → x.1.epoch = ep ∧ x.1.seq = k + i
def endFrom : Nat → List (Fr × Nat) → Nat
  | a, [] => a
  | _, x :: l => endFrom x.2 l
theorem endFrom_snoc (a : Nat) (l : List (Fr × Nat)) (x : Fr × Nat) : endFrom a (l ++ [x]) = x.2 := by
  induction l generalizing a with
  | nil => rfl
  | cons y l ih => exact ih _
theorem Sel.nil (ep k : Nat) : Sel ep k [] := fun i x h => by simp at h
theorem Sel.snoc {ep k : Nat} {pre : List (Fr × Nat)} {x : Fr × Nat} (h : Sel ep k pre) (h1 : x.1.epoch = ep) (h2 : x.1.seq = k + pre.length) : Sel ep k (pre ++ [x]) := by
  intro i y hy
  rcases Nat.lt_or_ge i pre.length with hi | hi
  · rw [List.getElem?_append_left hi] at hy
    exact h i y hy
  · rw [List.getElem?_append_right hi] at hy
    obtain ⟨j, hj⟩ : ∃ j, i = pre.length + j := ⟨i - pre.length, by omega⟩
    subst hj
    rw [Nat.add_sub_cancel_left] at hy
    cases j with
    | zero => simp at hy; subst hy; exact ⟨h1, h2⟩
    | succ j => simp at hy
theorem Sel.tail {ep k : Nat} {pre : List (Fr × Nat)} {x : Fr × Nat} (h : Sel ep k (x :: pre)) : Sel ep (k + 1) pre := fun i y hy => by
  have := h (i + 1) y (by simpa using hy)
  exact ⟨this.1, by omega⟩
theorem log_of_rest {d : Dk} {f s ep : Nat} : ∀ (pre rest : List (Fr × Nat)) (fuel a k : Nat), restL d f s a = pre ++ rest → Sel ep k pre → pre.length ≤ fuel →
    (∀ x, rest.head? = some x → pre.length < fuel → ¬ (x.1.epoch = ep ∧ x.1.seq = k + pre.length)) → logL d f s ep fuel a k = (pre.map (·.1), endFrom a pre) := by
  intro pre
  induction pre with
  | nil =>
    intro rest fuel a k hr _ _ hx
    cases fuel with
    | zero => rfl
    | succ fuel =>
      refine logL_stop fun y n hy => ?_
      rw [rest_some hy, List.nil_append] at hr
      exact hx (y, a + n) (by rw [← hr]; rfl) (by simp)
  | cons z pre ih =>
    intro rest fuel a k hr hs hf hx
    rcases frame_cases d f s a with ⟨x, n, hn⟩ | hn
    · rw [rest_some hn, List.cons_append] at hr
      injection hr with h1 h2
      subst h1
      have h0 := hs 0 (x, a + n) rfl
      cases fuel with
      | zero => simp at hf
      | succ fuel =>
        have := ih rest fuel (a + n) (k + 1) h2 hs.tail (by simpa using hf) (fun y hy hl hc => hx y hy (by simpa using hl) ⟨hc.1, by simp; omega⟩)
        rw [logL_step hn h0.1 (by simpa using h0.2), this]
        rfl
    · rw [rest_none hn] at hr
      cases hr
end Go.Proofs.Ytpfbmmeipojodaa
end
section
/- slices.Backward over writes: the iterator's contract. -/
namespace Go.Proofs.Ytpfbmmeipojodaa
open Go.RowKit Go.Shelf
attribute [local go_sem] Oper.semAt_some
def upto {α : Type} (f : Nat → α) (k : Nat) : List α := (List.range k).map f
theorem Blk.ownG {W W' : World} {g : Nat} {vs : List Value} {t : TypeId} {row : Option Nat} (h : Blk W g vs t) (hg : W.grownBy W' row) (hr : ∀ r, row = some r → ∃ o : Obj, W.heap[r]? = some o ∧ o.isCells = false) : Blk W' g vs t :=
  (hg.block g h.lt (fun e => by obtain ⟨o, ho, hc⟩ := hr g e.symm; rw [show W.heap[g]? = _ from h] at ho; cases ho; cases hc)).trans h
theorem upto_succ {α : Type} (f : Nat → α) (k : Nat) : upto f (k + 1) = upto f k ++ [f k] := by simp [upto, List.range_succ]
theorem upto_length {α : Type} (f : Nat → α) (k : Nat) : (upto f k).length = k := by simp [upto]
/-- What comes in the t-th round: the last but t. -/
def bw (l : List Wr) (t : Nat) : Nat × Wr := (l.length - 1 - t, l.getD (l.length - 1 - t) ⟨0, ⟨#[]⟩⟩)
def encW (x : Nat × Wr) : Array Value := #[.int .i64 (x.1 : Int), .agg #[.int .i64 x.2.sec, .string x.2.data]]
set_option maxRecDepth 100000 in
set_option maxHeartbeats 1000000 in
theorem back1_in (n : Nat) (hn : 1 ≤ n) (l Bs n₀ : Nat) (A : Option Addr) (cap : Nat) (zs : List Wr) (hreach : zs.length ≤ 140737488351232) (J Jx : List (Nat × Wr) → World → Prop)
    (hY : ∀ pre x W, J pre W → pre.length < zs.length → YieldAt Fence.wide (n - 1) Try.prog l (encW x) W fun e W' =>
      (e = .returned (.bool true) ∧ J (pre ++ [x]) W' ∧ Below n₀ W W') ∨ (e = .returned (.bool false) ∧ Jx (pre ++ [x]) W'))
    (W : World) (hBs : Bs < n₀) (hBc : W.cell? ⟨Bs, 0, none⟩ = some (.slice A zs.length cap)) (hA : ∀ a, A = some a → zs ≠ [] → a.block < n₀) (hl : Writes W A zs) (h0 : J [] W) :
    CallsIn Fence.wide n Try.prog 68 #[.func (.yield l) #[] #[], .pointer (some ⟨Bs, 0, none⟩)] W fun e W' => (∃ v, e = .returned v) ∧
      ((∃ ys, ys = upto (bw zs) zs.length ∧ J ys W') ∨ (∃ pre, (∃ k, k ≤ zs.length ∧ pre = upto (bw zs) k) ∧ Jx pre W')) := by
  refine callsIn_of_wp Try.func68 rfl trivial ?_ rfl
  simp only [Try.ntmps68, List.size_toArray, List.length_cons, List.length_nil, Nat.reduceAdd, Nat.reduceSub, Array.replicate_succ, Array.replicate_zero, List.push_toArray, List.append_toArray, List.nil_append, List.cons_append]
  gi_wp2
  gi_loopw [3] (fun i wr => ∃ k : Nat, k ≤ zs.length ∧ i = .int .i64 (((zs.length - k : Nat) : Int) - 1) ∧ J (upto (bw zs) k) wr ∧ Below n₀ W wr)
    (fun i _ => ((intOf i) + 1).toNat)
  case atStart => exact ⟨0, Nat.zero_le _, rfl, h0, Below.refl _ _⟩
  case round =>
    obtain ⟨k, hk, rfl, hJs, hnx⟩ := hrel
    by_cases hlt : k < zs.length
    · have hc := (hnx.cell (p := ⟨Bs, 0, none⟩) hBs).trans hBc
      obtain ⟨t, ht⟩ := named (zs.length - 1 - k)
      have htl : t < zs.length := by rw [ht.out]; omega
      obtain ⟨b, o, rfl, hc1, hc2⟩ := hl.at_ htl
      have hb := hA _ rfl (by intro h; rw [h] at hlt; simp at hlt)
      have hc1' := (hnx.cell (p := ⟨b, o + t * 2, none⟩) hb).trans hc1
      have hc2' := (hnx.cell (p := ⟨b, o + t * 2 + 1, none⟩) hb).trans hc2
      obtain ⟨fn, tmps, assign, body, hy, hR⟩ := hY _ (bw zs k) wr hJs (by rw [upto_length]; exact hlt)
      have he : encW (bw zs k) = #[.int .i64 (t : Int), .agg #[.int .i64 zs[t].sec, .string zs[t].data]] := by
        simp only [encW, bw, ← ht.out]
        rw [List.getD_eq_getElem?_getD, List.getElem?_eq_getElem htl]
        rfl
      rw [he] at hy
      have hi : ((zs.length - k : Nat) : Int) - 1 = (t : Int) := by rw [ht.out]; omega
      rw [hi]
      clear he hc1 hc2
      have hi' := hide hi
      clear hi
      gi_wp2
      refine hR.mono ?_
      rintro e W3 (⟨rfl, hJ3, hk3⟩ | ⟨rfl, hJx3⟩)
      · gi_wp2
        go_roundw
        case rel => exact ⟨k + 1, by omega, by rw [← hi'.out]; congr 2; omega, by rw [upto_succ]; exact hJ3, hnx.trans hk3⟩
        case measure => simp [intOf]
      · gi_wp2
        refine bodyPost_ret (results_none rfl _ _ _) rfl ?_
        exact ⟨⟨_, rfl⟩, .inr ⟨_, ⟨k + 1, by omega, (upto_succ _ _).symm⟩, hJx3⟩⟩
    · obtain rfl : k = zs.length := by omega
      gi_wp2
      go_end0
      exact ⟨⟨_, rfl⟩, .inl ⟨_, rfl, hJs⟩⟩
theorem upto_rev (l : List Wr) : (upto (bw l) l.length).map (·.2) = l.reverse := by
  apply List.ext_getElem
  · simp [upto]
  · intro i h1 h2
    have hi : i < l.length := by simpa [upto] using h1
    simp only [upto, List.map_map, List.getElem_map, List.getElem_range, Function.comp, bw, List.getElem_reverse]
    rw [List.getD_eq_getElem?_getD, List.getElem?_eq_getElem (by omega)]
    rfl
theorem upto_take {α : Type} (f : Nat → α) (k n : Nat) (h : k ≤ n) : upto f k <+: upto f n := by
  refine ⟨(List.range' k (n - k)).map f, ?_⟩
  simp only [upto, ← List.map_append]
  congr 1
  rw [List.range_eq_range', List.range_eq_range']
  have := List.range'_append (s := 0) (m := k) (n := n - k) (step := 1)
  simp at this
  rw [this]
  congr 1
  omega
theorem holds_none (d : Dk) (n : Int) (h : ∀ p ∈ upto (bw d.pend) d.pend.length, (p.2.sec == n) = false) : holdsOf d n = d.secs.getD n.toNat ⟨#[]⟩ := by
  have : d.pend.reverse.find? (fun x => x.sec == n) = none := by
    rw [List.find?_eq_none, ← upto_rev]
    intro x hx
    obtain ⟨p, hp, rfl⟩ := List.mem_map.1 hx
    simp [h p hp]
  simp only [holdsOf, this]
theorem holds_some (d : Dk) (n : Int) (k : Nat) (hk : k ≤ d.pend.length) (ini : List (Nat × Wr)) (last : Nat × Wr) (e : upto (bw d.pend) k = ini ++ [last]) (h : ∀ p ∈ ini, (p.2.sec == n) = false) (hl : (last.2.sec == n) = true) : holdsOf d n = last.2.data := by
  have : d.pend.reverse.find? (fun x => x.sec == n) = some last.2 := by
    obtain ⟨t, ht⟩ := upto_take (bw d.pend) k d.pend.length hk
    rw [← upto_rev, ← ht, e, List.map_append, List.map_append, List.append_assoc, List.find?_append]
    have h0 : (ini.map (·.2)).find? (fun x : Wr => x.sec == n) = none := by
      rw [List.find?_eq_none]
      intro x hx
      obtain ⟨p, hp, rfl⟩ := List.mem_map.1 hx
      simp [h p hp]
    rw [h0]
    simp [hl]
  simp only [holdsOf, this]
theorem back_stops (n : Nat) (hn : 1 ≤ n) (Bs n₀ : Nat) (A : Option Addr) (cap : Nat) (zs : List Wr) (hreach : zs.length ≤ 140737488351232) (w : World) (hBs : Bs < n₀) (hn₀ : n₀ ≤ w.heap.size)
    (hBc : w.cell? ⟨Bs, 0, none⟩ = some (.slice A zs.length cap)) (hA : ∀ a, A = some a → zs ≠ [] → a.block < n₀) (hl : Writes w A zs) :
    SeqStopsK Fence.wide n Try.prog 68 #[.pointer (some ⟨Bs, 0, none⟩)] encW (Below n₀) (fun ys => ys = upto (bw zs) zs.length) (fun pre => ∃ k, k ≤ zs.length ∧ pre = upto (bw zs) k) zs.length w := fun l J Jx W hW _ _ hY h0 =>
  back1_in n hn l Bs n₀ A cap zs hreach J Jx hY W hBs ((hW.cell (p := ⟨Bs, 0, none⟩) (by simp; omega)).trans hBc) hA (hl.below hW) h0
end Go.Proofs.Ytpfbmmeipojodaa
end
section
/- The walk of sector.Read. -/
namespace Go.Proofs.Ytpfbmmeipojodaa
open Go.RowKit Go.Shelf
attribute [local go_sem] Oper.semAt_some
theorem backward_w (A : Option Addr) (n c : Nat) (w : World) :
    Calls Try.prog 39 #[.slice A n c] w fun e w' => e = .returned (.func (.func 68) #[] #[.pointer (some ⟨w.heap.size, 0, none⟩)]) ∧ w.alloc (.cells #[.slice A n c] 26) = w' := by
  have hmf : ∀ (fn : Fn) (first cap : Array Value) (w : World), (Instr.makeFunc fn first cap).run Try.prog w = .ok (.func fn first cap) w := fun _ _ _ _ => rfl
  go_enter Try.func39, Try.ntmps39
  go_wp2
  go_ret
  exact ⟨rfl, rfl⟩
/-- The text and the error that a read comes to. -/
def ReadRet (s : ByteArray) (why : Int) (w : World) (e : Ending) (w' : World) : Prop := e = .returned (.tuple #[.string s, .int .i64 why]) ∧ Below w.heap.size w w'
/-- Four new blocks, one behind the other. -/
def four (w : World) (v1 v2 v3 v4 : List Value) (t1 t2 t3 t4 : TypeId) : World := (((w.alloc (.cells v1.toArray t1)).alloc (.cells v2.toArray t2)).alloc (.cells v3.toArray t3)).alloc (.cells v4.toArray t4)
theorem four_below (w : World) (v1 v2 v3 v4 : List Value) (t1 t2 t3 t4 : TypeId) : Below w.heap.size w (four w v1 v2 v3 v4 t1 t2 t3 t4) := bt (bt (bt (below_alloc _ _) (below_alloc _ _)) (below_alloc _ _)) (below_alloc _ _)
theorem four_blk (w : World) (v1 v2 v3 v4 : List Value) (t1 t2 t3 t4 : TypeId) : Blk (four w v1 v2 v3 v4 t1 t2 t3 t4) w.heap.size v1 t1 ∧ Blk (four w v1 v2 v3 v4 t1 t2 t3 t4) (w.heap.size + 1) v2 t2 ∧ Blk (four w v1 v2 v3 v4 t1 t2 t3 t4) (w.heap.size + 1 + 1) v3 t3 ∧ Blk (four w v1 v2 v3 v4 t1 t2 t3 t4) (w.heap.size + 1 + 1 + 1) v4 t4 := by
  have h2 := Blk.new (w.alloc (.cells v1.toArray t1)) v2 t2
  have h3 := Blk.new ((w.alloc (.cells v1.toArray t1)).alloc (.cells v2.toArray t2)) v3 t3
  have h4 := Blk.new (((w.alloc (.cells v1.toArray t1)).alloc (.cells v2.toArray t2)).alloc (.cells v3.toArray t3)) v4 t4
  simp only [World.size_alloc] at h2 h3 h4
  exact ⟨(((Blk.new w v1 t1).alloc _).alloc _).alloc _, (h2.alloc _).alloc _, h3.alloc _, h4⟩
set_option maxRecDepth 100000 in
set_option maxHeartbeats 1000000 in
theorem read_wrong (A1 A2 : Option Addr) (c1 c2 : Nat) (d : Dk) (n : Int) (w : World) (h1 : Texts w A1 d.secs) (h2 : Writes w A2 d.pend) (hl1 : d.secs.length ≤ 140737488351232) (hl2 : d.pend.length ≤ 140737488351232) (hr : right d = false) :
    Calls Try.prog 22 #[.agg #[.slice A1 d.secs.length c1, .slice A2 d.pend.length c2, .bool d.off, .int .i64 d.fuse], .int .i64 n] w (ReadRet ⟨#[]⟩ 13 w) := by
  have b0 := four_below w [.slice A1 d.secs.length c1, .slice A2 d.pend.length c2, .bool d.off, .int .i64 d.fuse] [.int .i64 n] [.string ⟨#[]⟩] [.int .i64 0] 28 3 9 29
  obtain ⟨k1, k2, k3, k4⟩ := four_blk w [.slice A1 d.secs.length c1, .slice A2 d.pend.length c2, .bool d.off, .int .i64 d.fuse] [.int .i64 n] [.string ⟨#[]⟩] [.int .i64 0] 28 3 9 29
  have hE := hide (show checkE d = 13 by simp [checkE, hr])
  go_enter Try.func22, Try.ntmps22
  go_wp2_with fail
  refine (check_w A1 A2 c1 c2 d _ (h1.below b0) (h2.below b0) hl1 hl2).mono ?_
  rw [hE.out]
  rintro e w1 ⟨rfl, hb⟩
  have hbw := bt b0 hb
  have x1 := (k1.below hb).cell
  have x2 := (k2.below hb).cell
  have x3 := (k3.below hb).cell
  have x4 := (k4.below hb).cell
  have y3 := (k3.below hb).free
  have y4 := (k4.below hb).free
  clear k1 k2 k3 k4 b0 hb h1 h2
  go_wp2
  refine bodyPost_ret (v := .tuple #[.string ⟨#[]⟩, .int .i64 13]) (by simp [results, Try.results22, go_sem, x3, x4]) rfl ?_
  exact ⟨rfl, (hbw.setCell (p := ⟨w.heap.size + 1 + 1, 0, none⟩) (by simp; omega) _).setCell (p := ⟨w.heap.size + 1 + 1 + 1, 0, none⟩) (by simp; omega) _⟩
set_option maxRecDepth 100000 in
set_option maxHeartbeats 1000000 in
theorem read_off (A1 A2 : Option Addr) (c1 c2 : Nat) (d : Dk) (n : Int) (w : World) (h1 : Texts w A1 d.secs) (h2 : Writes w A2 d.pend) (hl1 : d.secs.length ≤ 140737488351232) (hl2 : d.pend.length ≤ 140737488351232) (hr : right d = true) (ho : d.off = true) :
    Calls Try.prog 22 #[.agg #[.slice A1 d.secs.length c1, .slice A2 d.pend.length c2, .bool d.off, .int .i64 d.fuse], .int .i64 n] w (ReadRet ⟨#[]⟩ 15 w) := by
  have b0 := four_below w [.slice A1 d.secs.length c1, .slice A2 d.pend.length c2, .bool d.off, .int .i64 d.fuse] [.int .i64 n] [.string ⟨#[]⟩] [.int .i64 0] 28 3 9 29
  obtain ⟨k1, k2, k3, k4⟩ := four_blk w [.slice A1 d.secs.length c1, .slice A2 d.pend.length c2, .bool d.off, .int .i64 d.fuse] [.int .i64 n] [.string ⟨#[]⟩] [.int .i64 0] 28 3 9 29
  have hE := hide (show checkE d = 0 by simp [checkE, hr])
  have Ho := hide ho
  clear ho
  go_enter Try.func22, Try.ntmps22
  go_wp2_with fail
  refine (check_w A1 A2 c1 c2 d _ (h1.below b0) (h2.below b0) hl1 hl2).mono ?_
  rw [hE.out]
  rintro e w1 ⟨rfl, hb⟩
  have hbw := bt b0 hb
  have x1 := (k1.below hb).cell
  have x2 := (k2.below hb).cell
  have x3 := (k3.below hb).cell
  have x4 := (k4.below hb).cell
  have y3 := (k3.below hb).free
  have y4 := (k4.below hb).free
  clear k1 k2 k3 k4 b0 hb h1 h2 hr
  have ho := Ho.out
  go_wp2
  refine bodyPost_ret (v := .tuple #[.string ⟨#[]⟩, .int .i64 15]) (by simp [results, Try.results22, go_sem, x3, x4]) rfl ?_
  exact ⟨rfl, (hbw.setCell (p := ⟨w.heap.size + 1 + 1, 0, none⟩) (by simp; omega) _).setCell (p := ⟨w.heap.size + 1 + 1 + 1, 0, none⟩) (by simp; omega) _⟩
set_option maxRecDepth 100000 in
set_option maxHeartbeats 1000000 in
theorem read_range (A1 A2 : Option Addr) (c1 c2 : Nat) (d : Dk) (n : Int) (w : World) (h1 : Texts w A1 d.secs) (h2 : Writes w A2 d.pend) (hl1 : d.secs.length ≤ 140737488351232) (hl2 : d.pend.length ≤ 140737488351232) (hr : right d = true) (ho : d.off = false) (ht : there d.secs n = false) :
    Calls Try.prog 22 #[.agg #[.slice A1 d.secs.length c1, .slice A2 d.pend.length c2, .bool d.off, .int .i64 d.fuse], .int .i64 n] w (ReadRet ⟨#[]⟩ 1 w) := by
  have b0 := four_below w [.slice A1 d.secs.length c1, .slice A2 d.pend.length c2, .bool d.off, .int .i64 d.fuse] [.int .i64 n] [.string ⟨#[]⟩] [.int .i64 0] 28 3 9 29
  obtain ⟨k1, k2, k3, k4⟩ := four_blk w [.slice A1 d.secs.length c1, .slice A2 d.pend.length c2, .bool d.off, .int .i64 d.fuse] [.int .i64 n] [.string ⟨#[]⟩] [.int .i64 0] 28 3 9 29
  have hE := hide (show checkE d = 0 by simp [checkE, hr])
  have Ho := hide ho
  clear ho
  go_enter Try.func22, Try.ntmps22
  go_wp2_with fail
  refine (check_w A1 A2 c1 c2 d _ (h1.below b0) (h2.below b0) hl1 hl2).mono ?_
  rw [hE.out]
  rintro e w1 ⟨rfl, hb⟩
  have hbw := bt b0 hb
  have x1 := (k1.below hb).cell
  have x2 := (k2.below hb).cell
  have x3 := (k3.below hb).cell
  have x4 := (k4.below hb).cell
  have y3 := (k3.below hb).free
  have y4 := (k4.below hb).free
  have q3 := k3.below hb
  have q4 := k4.below hb
  clear k1 k2 k3 k4 b0 hb h1 h2 hr
  have ho := Ho.out
  have Ht := hide ht
  clear ht
  go_wp2_with fail
  refine (there_w A1 A2 c1 d.pend.length c2 d.secs false d.fuse n _).mono ?_
  rw [Ht.out]
  rintro e w2 ⟨rfl, hb2⟩
  have hbw2 := bt hbw hb2
  clear x1 x2 x3 x4 y3 y4
  have x3 := (q3.below hb2).cell
  have x4 := (q4.below hb2).cell
  have y3 := (q3.below hb2).free
  have y4 := (q4.below hb2).free
  clear q3 q4
  go_wp2
  refine bodyPost_ret (v := .tuple #[.string ⟨#[]⟩, .int .i64 1]) (by simp [results, Try.results22, go_sem, x3, x4]) rfl ?_
  exact ⟨rfl, (hbw2.setCell (p := ⟨w.heap.size + 1 + 1, 0, none⟩) (by simp; omega) _).setCell (p := ⟨w.heap.size + 1 + 1 + 1, 0, none⟩) (by simp; omega) _⟩
end Go.Proofs.Ytpfbmmeipojodaa
end
section
/- The walk of sector.Read where it reads. -/
namespace Go.Proofs.Ytpfbmmeipojodaa
open Go.RowKit Go.Shelf
attribute [local go_sem] Oper.semAt_some
set_option maxRecDepth 100000 in
set_option maxHeartbeats 1000000 in
theorem read_ok (A1 A2 : Option Addr) (c1 c2 : Nat) (d : Dk) (n : Int) (w : World) (h1 : Texts w A1 d.secs) (h2 : Writes w A2 d.pend) (hl1 : d.secs.length ≤ 140737488351232) (hl2 : d.pend.length ≤ 140737488351232) (hr : right d = true) (ho : d.off = false) (ht : there d.secs n = true) :
    Calls Try.prog 22 #[.agg #[.slice A1 d.secs.length c1, .slice A2 d.pend.length c2, .bool d.off, .int .i64 d.fuse], .int .i64 n] w (ReadRet (holdsOf d n) 0 w) := by
  have b0 := four_below w [.slice A1 d.secs.length c1, .slice A2 d.pend.length c2, .bool d.off, .int .i64 d.fuse] [.int .i64 n] [.string ⟨#[]⟩] [.int .i64 0] 28 3 9 29
  obtain ⟨k1, k2, k3, k4⟩ := four_blk w [.slice A1 d.secs.length c1, .slice A2 d.pend.length c2, .bool d.off, .int .i64 d.fuse] [.int .i64 n] [.string ⟨#[]⟩] [.int .i64 0] 28 3 9 29
  have hE := hide (show checkE d = 0 by simp [checkE, hr])
  have Ho := hide ho
  have Ht := hide ht
  clear ho ht hr
  have hn : 0 ≤ n ∧ n < d.secs.length := by have := Ht.out; simp [there] at this; exact this
  obtain ⟨hn1, hn2⟩ := hn
  refine (callsIn_wide (n := 5)).1 ?_
  refine callsIn_of_wp_marks Try.func22 rfl trivial ?_ rfl
  simp only [Try.ntmps22, List.size_toArray, List.length_cons, List.length_nil, Nat.reduceAdd, Nat.reduceSub, Array.replicate_succ, Array.replicate_zero, List.push_toArray, List.append_toArray, List.nil_append, List.cons_append]
  gi_wp2_with fail
  refine ⟨trivial, ?_⟩
  refine (callsIn_wide.2 (check_w A1 A2 c1 c2 d _ (h1.below b0) (h2.below b0) hl1 hl2)).mono ?_
  rw [hE.out]
  rintro e w1 ⟨rfl, hb⟩
  have hbw := bt b0 hb
  have q1 := k1.below hb
  have q2 := k2.below hb
  have q3 := k3.below hb
  have q4 := k4.below hb
  have x1 := q1.cell
  have x2 := q2.cell
  clear k1 k2 k3 k4 b0 hb
  have ho := Ho.out
  gi_wp2_with fail
  refine ⟨trivial, ?_⟩
  refine (callsIn_wide.2 (there_w A1 A2 c1 d.pend.length c2 d.secs false d.fuse n _)).mono ?_
  rw [Ht.out]
  rintro e w2 ⟨rfl, hb2⟩
  have hbw2 := bt hbw hb2
  have p1 := q1.below hb2
  have p2 := q2.below hb2
  have p3 := q3.below hb2
  have p4 := q4.below hb2
  have x1 := p1.cell
  clear q1 q2 q3 q4 hb2 hbw
  gi_wp2_with fail
  refine ⟨trivial, ?_⟩
  refine (callsIn_wide.2 (backward_w A2 d.pend.length c2 _)).mono ?_
  rintro e w3 ⟨rfl, rfl⟩
  obtain ⟨W2, HW2⟩ := named w2
  rw [← HW2.out] at hbw2 p1 p2 p3 p4 ⊢
  clear x1 HW2
  gi_wp2_with fail
  have g1 := p1.alloc (.cells #[.slice A2 d.pend.length c2] 26)
  have g2 := p2.alloc (.cells #[.slice A2 d.pend.length c2] 26)
  have g3 := p3.alloc (.cells #[.slice A2 d.pend.length c2] 26)
  have g4 := p4.alloc (.cells #[.slice A2 d.pend.length c2] 26)
  have g5 := Blk.new W2 [.slice A2 d.pend.length c2] 26
  have hbw3 := bt hbw2 (below_alloc W2 (.cells #[.slice A2 d.pend.length c2] 26))
  have hg4 := p4.lt
  obtain ⟨W3, HW3⟩ := named (W2.alloc (.cells #[.slice A2 d.pend.length c2] 26))
  have hsz : W3.heap.size = W2.heap.size + 1 := by rw [HW3.out]; simp
  have Hsz := hide hsz
  have hsz' : W2.heap.size < W3.heap.size := by omega
  have g5' : Blk W3 W2.heap.size [.slice A2 d.pend.length c2] 26 := by rw [HW3.out]; exact g5
  rw [← HW3.out] at g1 g2 g3 g4 hbw3 ⊢
  clear hsz p1 p2 p3 p4 g5
  have hAA : ∀ a, A2 = some a → d.pend ≠ [] → a.block < w.heap.size := fun a ha hne => by
    obtain ⟨b, o, e, hc⟩ := h2.2 (by intro h0; have := wrs_length d.pend; rw [h0] at this; simp at this; exact hne (List.eq_nil_of_length_eq_zero (by omega)))
    rw [ha] at e
    cases e
    have hpos : 0 < d.pend.length := by rcases Nat.eq_zero_or_pos d.pend.length with h | h; exact absurd (List.eq_nil_of_length_eq_zero h) hne; exact h
    exact World.block_lt_of_cell? w _ (hc 0 _ (wrs_get d.pend 0 hpos).1)
  have hWW := h2.below hbw3
  have hwsz := hbw2.size
  refine wpIn_rangeFunc_ownH (F := Fence.wide) (n := 5) rfl (by omega) (gf := 68) (lb := #[.pointer (some ⟨W2.heap.size, 0, none⟩)]) rfl trivial (enters_of Try.func68 (by kernel_rfl) rfl)
    (back_stops 4 (by omega) W2.heap.size W3.heap.size A2 c2 d.pend hl2 W3 (by omega) (Nat.le_refl _) (by rw [g5'.cell]; rfl) (fun a ha hne => by have := hAA a ha hne; omega) hWW) belowK_t (belowK_b (by omega)) (Below.refl _ _) (fun _ => rfl)
    (fun pre W => (∀ p ∈ pre, (p.2.sec == n) = false) ∧ Blk W w.heap.size [.slice A1 d.secs.length c1, .slice A2 d.pend.length c2, .bool d.off, .int .i64 d.fuse] 28 ∧ Blk W (w.heap.size + 1) [.int .i64 n] 3 ∧ Blk W (w.heap.size + 1 + 1) [.string ⟨#[]⟩] 9 ∧ Blk W (w.heap.size + 1 + 1 + 1) [.int .i64 0] 29 ∧ Below w.heap.size w W ∧ W3.heap.size ≤ W.heap.size)
    (fun c pre W => (c = .ret ∧ ∃ ini last, pre = ini ++ [last] ∧ (∀ p ∈ ini, (p.2.sec == n) = false) ∧ (last.2.sec == n) = true ∧ Blk W (w.heap.size + 1 + 1) [.string last.2.data] 9 ∧ Blk W (w.heap.size + 1 + 1 + 1) [.int .i64 0] 29) ∧ Below w.heap.size w W)
    (fun pre W W' row hs hg hr => ⟨hs.1, hs.2.1.ownG hg (fun r e => (hr r e).2), hs.2.2.1.ownG hg (fun r e => (hr r e).2), hs.2.2.2.1.ownG hg (fun r e => (hr r e).2), hs.2.2.2.2.1.ownG hg (fun r e => (hr r e).2), hs.2.2.2.2.2.1.grown hg hs.2.2.2.2.2.1.size (fun k e => by have := (hr k e).1; omega), Nat.le_trans hs.2.2.2.2.2.2 hg.size⟩)
    (fun c pre W W' row hs hg hr => by
      obtain ⟨⟨e1, ini, last, e2, e3, e4, e5, e6⟩, e7⟩ := hs
      exact ⟨⟨e1, ini, last, e2, e3, e4, e5.ownG hg (fun r e => (hr r e).2), e6.ownG hg (fun r e => (hr r e).2)⟩, e7.grown hg e7.size (fun k e => by have := (hr k e).1; omega)⟩)
    ⟨by simp, g1, g2, g3, g4, hbw3, Nat.le_refl _⟩
    (fun x a' W => ∃ Bx, w.heap.size + 1 + 1 + 1 < Bx ∧ Blk W Bx [.int .i64 x.2.sec, .string x.2.data] 66 ∧ a' = { tmps := #[.agg #[.slice A1 d.secs.length c1, .slice A2 d.pend.length c2, .bool false, .int .i64 d.fuse], .int .i64 n, .pointer (some ⟨w.heap.size, 0, none⟩), .pointer (some ⟨w.heap.size + 1, 0, none⟩), .pointer (some ⟨w.heap.size + 1 + 1, 0, none⟩), .pointer (some ⟨w.heap.size + 1 + 1 + 1, 0, none⟩), .int .i64 0, undef, .pointer (some ⟨Bx, 0, none⟩), .agg #[.slice A1 d.secs.length c1, .slice A2 d.pend.length c2, .bool false, .int .i64 d.fuse], .int .i64 0, .bool false, .int .i64 0, .bool false, undef, .bool false, .pointer (some ⟨w.heap.size, 2, none⟩), .bool false, .bool false, .agg #[.slice A1 d.secs.length c1, .slice A2 d.pend.length c2, .bool false, .int .i64 d.fuse], .int .i64 n, .bool true, .bool false, .pointer (some ⟨w.heap.size, 1, none⟩), .slice A2 d.pend.length c2, .func (.func 68) #[] #[.pointer (some ⟨W2.heap.size, 0, none⟩)], .int .i64 (x.1 : Int), .agg #[.int .i64 x.2.sec, .string x.2.data], undef, undef, undef, undef, undef, undef, undef, undef, undef, undef, undef], defers := [] })
    (fun x a' _ X Y row hs hg hr => by obtain ⟨Bx, e1, e2, e3⟩ := hs; exact ⟨Bx, e1, e2.ownG hg (fun r e => (hr r e).2), e3⟩)
    ?assign ?body ?done ?stop
  case assign =>
    rintro l pre x W K ⟨i1, i2, i3, i4, i5, i6, i7⟩ hK
    have hlt := i5.lt
    have HK := hide hK
    clear hK
    dsimp only [encW]
    gi_wp2
    exact HK.out _ _ ((KeepsOthers.alloc _ _).from _) ((Below.refl _ W).alloc i7 _) ⟨i1, i2.alloc _, i3.alloc _, i4.alloc _, i5.alloc _, i6.alloc i6.size _, by simp; omega⟩ ⟨W.heap.size, hlt, Blk.new W _ _, rfl⟩
  case body =>
    rintro l pre x a' W hl ⟨r, hr⟩ ⟨i1, i2, i3, i4, i5, i6, i7⟩ ⟨Bx, hBx, bX, rfl⟩ hlt
    have y2 := i3.cell
    have y3 := i4.cell
    have y4 := i5.cell
    have f3 := i4.free
    have f4 := i5.free
    have yX := bX.cell
    cases hx : (x.2.sec == n)
    · gi_wp2
      exact ⟨KeepsFrom.refl _ _, Below.refl _ _, fun p hp => (List.mem_append.1 hp).elim (i1 p) (fun e => by simp at e; subst e; exact hx), i2, i3, i4, i5, i6, i7⟩
    · gi_wp2
      have j4 := (i4.set 0 (.string x.2.data)).far (p := ⟨w.heap.size + 1 + 1 + 1, 0, none⟩) (by simp) (.int .i64 0)
      have j5 := (i5.far (p := ⟨w.heap.size + 1 + 1, 0, none⟩) (by simp) (.string x.2.data)).set 0 (.int .i64 0)
      exact ⟨((KeepsOthers.setCell _ _ _).trans (KeepsOthers.setCell _ _ _)).from _, ⟨rfl, pre, x, rfl, i1, hx, j4, j5⟩, (i6.setCell (p := ⟨w.heap.size + 1 + 1, 0, none⟩) (by simp; omega) _).setCell (p := ⟨w.heap.size + 1 + 1 + 1, 0, none⟩) (by simp; omega) _⟩
  case done =>
    rintro D ys W hD rfl ⟨i1, i2, i3, i4, i5, i6, i7⟩ hK
    have y1 := i2.cell
    have y2 := i3.cell
    have y3 := i4.cell
    have y4 := i5.cell
    have f3 := i4.free
    have f4 := i5.free
    obtain ⟨k, rfl⟩ := Int.eq_ofNat_of_zero_le hn1
    obtain ⟨b, o, rfl, hc⟩ := (h1.below i6).at_ (k := k) (by omega)
    have hfin : holdsOf d (k : Int) = d.secs[k] := by
      rw [holds_none d _ i1, Int.toNat_natCast, List.getD_eq_getElem?_getD, List.getElem?_eq_getElem (by omega)]
      rfl
    have Hfin := hide hfin
    clear hfin
    have hK1 := ((KeepsOthers.setCell W ⟨w.heap.size + 1 + 1, 0, none⟩ (.string d.secs[k])).trans (KeepsOthers.setCell _ ⟨w.heap.size + 1 + 1 + 1, 0, none⟩ (.int .i64 0))).same D _ hK rfl
    have j4 := (i4.set 0 (.string d.secs[k])).far (p := ⟨w.heap.size + 1 + 1 + 1, 0, none⟩) (by simp) (.int .i64 0)
    have j5 := (i5.far (p := ⟨w.heap.size + 1 + 1, 0, none⟩) (by simp) (.string d.secs[k])).set 0 (.int .i64 0)
    have jb := (i6.setCell (p := ⟨w.heap.size + 1 + 1, 0, none⟩) (by simp; omega) (.string d.secs[k])).setCell (p := ⟨w.heap.size + 1 + 1 + 1, 0, none⟩) (by simp; omega) (.int .i64 0)
    have HK := hide hK1
    have J4 := hide j4
    have J5 := hide j5
    have JB := hide jb
    clear hK1 j4 j5 jb
    gi_wp2
    refine ⟨by simp, .inl ⟨_, _, rfl, run_takeDeferred HK.out, ?_⟩⟩
    have z4 := (J4.out.ownG (grownBy_putObj' _ D (.deferred none)) (fun r e => by cases e; exact ⟨_, HK.out, rfl⟩)).cell 0
    have z5 := (J5.out.ownG (grownBy_putObj' _ D (.deferred none)) (fun r e => by cases e; exact ⟨_, HK.out, rfl⟩)).cell 0
    refine ⟨.tuple #[.string d.secs[k], .int .i64 0], ?_, by rw [Hfin.out], JB.out.trans (belowK_b (w := w) (Nat.le_refl _) _ D _ _ (by omega) HK.out rfl rfl)⟩
    simp [results, Try.f22, go_sem, z4, z5]
  case stop =>
    rintro D c pre W hD ⟨k, hk, rfl⟩ ⟨⟨rfl, ini, last, e1, e2, e3, e4, e5⟩, e6⟩ hK
    have Hfin := hide (holds_some d n k hk ini last e1 e2 e3)
    have E4 := hide e4
    have E5 := hide e5
    have HK := hide hK
    clear e4 e5 hK e1 e2 e3
    gi_wp2
    refine ⟨by simp, .inl ⟨_, _, rfl, run_takeDeferred HK.out, ?_⟩⟩
    have z4 := (E4.out.ownG (grownBy_putObj' _ D (.deferred none)) (fun r e => by cases e; exact ⟨_, HK.out, rfl⟩)).cell 0
    have z5 := (E5.out.ownG (grownBy_putObj' _ D (.deferred none)) (fun r e => by cases e; exact ⟨_, HK.out, rfl⟩)).cell 0
    refine ⟨.tuple #[.string last.2.data, .int .i64 0], ?_, by rw [Hfin.out], e6.trans (belowK_b (w := w) (Nat.le_refl _) W D _ _ (by omega) HK.out rfl rfl)⟩
    simp [results, Try.f22, go_sem, z4, z5]
end Go.Proofs.Ytpfbmmeipojodaa
end
section
/- Append onto a row of the call's own, inside a fence: where the new row lies is told. -/
namespace Go.Proofs.Ytpfbmmeipojodaa
open Go.RowKit
theorem wpListIn_append_lies {F : Fence} {k : Nat} {P : Program} (w : World) {ops : Array Oper} {rest : List Oper} {o : Oper} {a : Act} {Q : Exit → Act → World → Prop} (hgd : o.guard = none) (s x : Operand) (t : TypeId)
    (ho : o.op = .call { callee := .builtin .append, args := #[s, x], argTypes := #[t, t] })
    (base : Nat) (e : TypeId) (i : TypeInfo) (z : Value) (size bytes : Nat) (ht : P.underlying t = some (.slice e)) (hi : P.info? e = some i) (hz : i.zero = some z)
    (hsize : i.size = size) (hby : i.bytes = bytes) (hzs : z.cells.size = size) (hsz : 0 < size)
    (v : Value) (n : Nat) (xs : List Value) (hs : a.eval s = v) (hown : w.ownsRow base e size v n xs)
    (ad : Addr) (m c : Nat) (news : List Value) (hx : a.eval x = .slice (some ad) m c) (hl : news.length = m * size) (hnews : ∀ j u, news[j]? = some u → w.cell? (ad.add j) = some u) (h1 : ∀ u ∈ news, u.oneCell' = true)
    (hm : 0 < m) (h63 : n + m ≤ maxLen) (hbytes : (n + m) * bytes ≤ 140737488355328) (hbase : base ≤ w.heap.size) (H : Nat) (hH : w.heap.size = H)
    (h : ∀ g cap w', w'.ownsRow base e size (.slice (some ⟨g, 0, none⟩) (n + m) cap) (n + m) (xs ++ news) → w.grownBy w' v.ownBlock → (v.ownBlock = some g ∨ g = H) → g < w'.heap.size → wpListIn F k P ops Q rest (a.put o.dst (.slice (some ⟨g, 0, none⟩) (n + m) cap)) w') : wpListIn F k P ops Q (o :: rest) a w := by
  refine wpListIn_plain hgd fun K hK' => ?_
  obtain ⟨g, cap, w', hrun, h2, h3, h4, h5⟩ := run_append_lies (P := P) w t o.type base e i z size bytes ht hi hz hsize hby hzs hsz v n xs hown ad m c news hl hnews h1 hm h63 hbytes hbase H hH
  unfold Oper.wpIn
  refine ⟨?_, ?_⟩
  · simp [Oper.about, ho, resolve, Target.leads, Sem.run_pure]
  · rw [Oper.semAt_plain F _ _ (by rw [ho]; intro c hc'; cases hc')]
    simp [execOp, ho, resolve, invoke, builtin, hs, hx, hrun, Result.andThen]
    exact hK' _ _ (h g cap w' h2 h3 h4 h5)
end Go.Proofs.Ytpfbmmeipojodaa
end
section
/- wal.Scan, granted: an epoch's log. -/
namespace Go.Proofs.Ytpfbmmeipojodaa
set_option linter.unusedSimpArgs false
set_option linter.unusedVariables false
open Go.RowKit Go.Shelf
open Crc
attribute [local go_sem] Oper.semAt_some
theorem blk_grown {W W' : World} {g base n size : Nat} {vs xs : List Value} {t e : TypeId} {v : Value} (h : Blk W g vs t) (ho : W.ownsRow base e size v n xs) (hg : W.grownBy W' v.ownBlock) (hne : e ≠ t) : Blk W' g vs t :=
  (hg.block g h.lt (Ne.symm (own_blk_ne ho h hne))).trans h
end Go.Proofs.Ytpfbmmeipojodaa
end
