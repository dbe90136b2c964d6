/- The document's Lay of chapter 04. -/
import Derived.Test.YtpfbmmeipojodaaGC
import Derived.Test.YtpfbmmeipojodaaRefPut
import Derived.Test.YtpfbmmeipojodaaRefSync
import Derived.Test.YtpfbmmeipojodaaGI
import Derived.Test.YtpfbmmeipojodaaGJ
import Derived.Test.YtpfbmmeipojodaaRecSectors
import Derived.Deep.DeepCutAuto
namespace Go.Proofs.Ytpfbmmeipojodaa
set_option linter.unusedSimpArgs false
set_option linter.unusedVariables false
open Go.RowKit
set_option maxRecDepth 100000 in
set_option maxHeartbeats 16000000 in
theorem refLay_w (vd : Value) (d : Dk) (a : Nat) (A : Option Addr) (n c : Nat) (l : List ByteArray) (w : World) (hd : DkIs w vd d) (ht : Texts w A l) (hn : l.length = n) (h1 : 1 ≤ n) (hA : a + n ≤ 9000) :
    Calls Try.prog 35 #[vd, .int .i64 (a : Int), .slice A n c] w (DkRet (layD d a l) (layE d a l) w) := by
  obtain ⟨A1, c1, A2, c2, rfl, h2, h3, hl1, hl2, hf1, hf2⟩ := hd
  obtain ⟨b0, k1, k2⟩ := two_blk w [.slice A1 d.secs.length c1, .slice A2 d.pend.length c2, .bool d.off, .int .i64 d.fuse] [.slice none 0 0, .slice none 0 0, .bool false, .int .i64 0] 28 28
  have hBx : Box ((w.alloc (.cells #[.slice A1 d.secs.length c1, .slice A2 d.pend.length c2, .bool d.off, .int .i64 d.fuse] 28)).alloc (.cells #[.slice none 0 0, .slice none 0 0, .bool false, .int .i64 0] 28)) w.heap.size A1 c1 A2 c2 d :=
    ⟨k1, h2.below b0, h3.below b0, hl1, hl2, hf1, hf2⟩
  have Hn := hide hn
  clear hn h2 h3
  go_enter Try.func35, Try.ntmps35
  go_wp2_with fail
  go_loopw [9] (fun i wr => ∃ (j : Nat) (dk : Dk), j + 1 ≤ n ∧ i = .int .i64 ((j + 1 : Nat) : Int) ∧ Hid (layD d a l = runD dk ((laySt a l).drop j) ∧ layE d a l = runE dk ((laySt a l).drop j)) ∧ (∃ B1 e1 B2 e2, Box wr w.heap.size B1 e1 B2 e2 dk) ∧ Blk wr (w.heap.size + 1) [.slice none 0 0, .slice none 0 0, .bool false, .int .i64 0] 28 ∧ Below w.heap.size w wr) (fun i _ => n + 1 - (intOf i).toNat)
  case atStart => exact ⟨0, d, by omega, rfl, ⟨rfl, rfl⟩, ⟨_, _, _, _, hBx⟩, k2, b0⟩
  case round =>
    obtain ⟨j, dk, hj, rfl, HR, ⟨B1, e1, B2, e2, hB⟩, hZ, hbw⟩ := hrel
    clear k1 k2 hBx b0
    obtain ⟨k, Hk⟩ := named (j + 1)
    rw [← Hk.out] at hj ⊢
    by_cases hlt : k < n
    · have hk0 : (0 : Int) ≤ (k : Int) := by omega
      have hk1 : (k : Int) < (n : Int) := by omega
      have hkl : k < l.length := by rw [Hn.out]; exact hlt
      obtain ⟨b, o, rfl, hc⟩ := ht.at_ (k := k) hkl
      have hbx := World.block_lt_of_cell? w _ hc
      have HDr := hide (lay_drop a l j (by rw [Hn.out, ← Hk.out]; exact hlt))
      obtain ⟨X, HX⟩ := named l[k]
      rw [← HX.out] at hc
      rw [show l.getD (j + 1) ⟨#[]⟩ = X by rw [← Hk.out, HX.out]; simp [List.getD, List.getElem?_eq_getElem hkl]] at HDr
      obtain ⟨g, Hg⟩ := named (a + k)
      rw [show a + (j + 1) = g by rw [Hg.out, ← Hk.out]] at HDr
      have hga : (a : Int) + (k : Int) = (g : Int) := by rw [Hg.out]; omega
      have hwg : IntKind.i64.wrap (g : Int) = (g : Int) := by simp [IntKind.wrap, IntKind.bits, IntKind.signed]; rw [Hg.out]; omega
      obtain ⟨D, HD⟩ := named (putD dk (g : Int) X)
      obtain ⟨E, HE⟩ := named (putE dk (g : Int) X)
      have hput : ∀ u, DkIs u (.agg #[.slice B1 dk.secs.length e1, .slice B2 dk.pend.length e2, .bool dk.off, .int .i64 dk.fuse]) dk → Calls Try.prog 65 #[.agg #[.slice B1 dk.secs.length e1, .slice B2 dk.pend.length e2, .bool dk.off, .int .i64 dk.fuse], .int .i64 (g : Int), .string X] u fun e w' => ∃ v2, e = .returned (.tuple #[v2, .int .i64 E]) ∧ DkIs w' v2 D ∧ Below u.heap.size u w' := fun u hu => by
        have := refPut_w _ dk (g : Int) X u hu
        rw [← HD.out, ← HE.out] at this
        exact this
      clear HX hkl
      go_wp2_with fail
      refine region_flatS _ (fun L u => BoxAt w.heap.size dk D B1 e1 B2 e2 (L 12) u ∧ (fun u => Below w.heap.size w u ∧ Blk u (w.heap.size + 1) [.slice none 0 0, .slice none 0 0, .bool false, .int .i64 0] 28) u) (fun _ => KeepBox w.heap.size)
        (fun _ => rel [fun v _ => v = .agg #[.slice B1 dk.secs.length e1, .slice B2 dk.pend.length e2, .bool dk.off, .int .i64 dk.fuse],
          fun v _ => v = .int .i64 (a : Int),
          fun v _ => v = .int .i64 (k : Int),
          fun v _ => v = .int .i64 (g : Int),
          fun v _ => v = .slice (some ⟨b, o, none⟩) n c,
          fun v _ => v = .int .i64 (k : Int),
          fun v _ => v = .pointer (some ⟨b, o + k, none⟩),
          fun v _ => v = .string X,
          fun v u => ∃ v2, v = .tuple #[v2, .int .i64 E] ∧ DkIs u v2 D,
          fun v u => ∃ v2, v = .tuple #[v2, .int .i64 E] ∧ DkIs u v2 D,
          fun v u => DkIs u v D,
          fun v _ => v = .int .i64 E,
          fun _ _ => True,
          fun v _ => v = .int .i64 E])
        (by kernel_rfl) (by kernel_rfl) (fun v => by simp only [putsV, Act.put, List.toList_toArray, List.setIfInBounds_toArray, List.set_cons_zero, List.set_cons_succ, Nat.reduceAdd, Nat.zero_add]; rfl) ?_ (fun _ _ _ _ _ h => h) ⟨BoxAt.start ⟨hB.blk, hB.tx, hB.wr, hB.l1, hB.l2, hB.f1, hB.f2⟩, hbw.drew, hZ⟩ ?_ (fun _ _ _ _ _ _ h => h) (fun L L' u hL h => by rw [← hL 12 (by decide)]; exact h) ?_
      · intro i L j x u u' _ _ hG h
        match j with
        | 0 => exact h
        | 1 => exact h
        | 2 => exact h
        | 3 => exact h
        | 4 => exact h
        | 5 => exact h
        | 6 => exact h
        | 7 => exact h
        | 8 => exact (let ⟨v2, e, hd2⟩ := h; ⟨v2, e, hd2.keepBox hG⟩)
        | 9 => exact (let ⟨v2, e, hd2⟩ := h; ⟨v2, e, hd2.keepBox hG⟩)
        | 10 => exact h.keepBox hG
        | 11 => exact h
        | 12 => exact trivial
        | 13 => exact h
        | _ + 14 => trivial
      · refine ⟨?_, ?_, ?_, ?_, ?_, ?_, ?_, ?_, ?_, ?_, ?_, ?_, ?_, ?_, trivial⟩
        · intro L hL hcl v u hS hd K' hK
          simp only [waited, List.toList_toArray, Region.binds, rel, List.getD_cons_zero, List.getD_cons_succ, true_imp_iff, and_true] at hd
          simp only [rel, List.getD_cons_zero, List.getD_cons_succ, Act.put, List.setIfInBounds_toArray, List.set_cons_zero, List.set_cons_succ] at hK
          try simp only [hd] at hK
          obtain ⟨hS1, hS2⟩ := hS
          have h0 : L 12 = false := by
            cases h9 : L 12 with
            | false => rfl
            | true => have h8 := hcl 12 0 h9 (by kernel_rfl); rw [hL] at h8; cases h8
          have hBB := hS1.1 h0
          have x0 := hBB.blk.cell 0
          have x1 := hBB.blk.cell 1
          have x2 := hBB.blk.cell 2
          have x3 := hBB.blk.cell 3
          go_simp
          exact hK.out _ _ ⟨⟨hS1, hS2⟩, .inl (Below.refl _ _), rfl⟩
        · intro L hL hcl v u hS hd K' hK
          simp only [waited, List.toList_toArray, Region.binds, rel, List.getD_cons_zero, List.getD_cons_succ, true_imp_iff, and_true] at hd
          simp only [rel, List.getD_cons_zero, List.getD_cons_succ, Act.put, List.setIfInBounds_toArray, List.set_cons_zero, List.set_cons_succ] at hK
          try simp only [hd] at hK
          obtain ⟨hS1, hS2⟩ := hS
          go_simp
          exact hK.out _ _ ⟨⟨hS1, hS2⟩, .inl (Below.refl _ _), rfl⟩
        · intro L hL hcl v u hS hd K' hK
          simp only [waited, List.toList_toArray, Region.binds, rel, List.getD_cons_zero, List.getD_cons_succ, true_imp_iff, and_true] at hd
          simp only [rel, List.getD_cons_zero, List.getD_cons_succ, Act.put, List.setIfInBounds_toArray, List.set_cons_zero, List.set_cons_succ] at hK
          try simp only [hd] at hK
          obtain ⟨hS1, hS2⟩ := hS
          go_simp
          exact hK.out _ _ ⟨⟨hS1, hS2⟩, .inl (Below.refl _ _), rfl⟩
        · intro L hL hcl v u hS hd K' hK
          simp only [waited, List.toList_toArray, Region.binds, rel, List.getD_cons_zero, List.getD_cons_succ, true_imp_iff, and_true] at hd
          simp only [rel, List.getD_cons_zero, List.getD_cons_succ, Act.put, List.setIfInBounds_toArray, List.set_cons_zero, List.set_cons_succ] at hK
          try simp only [hd] at hK
          obtain ⟨hS1, hS2⟩ := hS
          go_simp
          exact hK.out _ _ ⟨⟨hS1, hS2⟩, .inl (Below.refl _ _), rfl⟩
        · intro L hL hcl v u hS hd K' hK
          simp only [waited, List.toList_toArray, Region.binds, rel, List.getD_cons_zero, List.getD_cons_succ, true_imp_iff, and_true] at hd
          simp only [rel, List.getD_cons_zero, List.getD_cons_succ, Act.put, List.setIfInBounds_toArray, List.set_cons_zero, List.set_cons_succ] at hK
          try simp only [hd] at hK
          obtain ⟨hS1, hS2⟩ := hS
          go_simp
          exact hK.out _ _ ⟨⟨hS1, hS2⟩, .inl (Below.refl _ _), rfl⟩
        · intro L hL hcl v u hS hd K' hK
          simp only [waited, List.toList_toArray, Region.binds, rel, List.getD_cons_zero, List.getD_cons_succ, true_imp_iff, and_true] at hd
          simp only [rel, List.getD_cons_zero, List.getD_cons_succ, Act.put, List.setIfInBounds_toArray, List.set_cons_zero, List.set_cons_succ] at hK
          try simp only [hd] at hK
          obtain ⟨hS1, hS2⟩ := hS
          go_simp
          exact hK.out _ _ ⟨⟨hS1, hS2⟩, .inl (Below.refl _ _), rfl⟩
        · intro L hL hcl v u hS hd K' hK
          simp only [waited, List.toList_toArray, Region.binds, rel, List.getD_cons_zero, List.getD_cons_succ, true_imp_iff, and_true] at hd
          simp only [rel, List.getD_cons_zero, List.getD_cons_succ, Act.put, List.setIfInBounds_toArray, List.set_cons_zero, List.set_cons_succ] at hK
          try simp only [hd] at hK
          obtain ⟨hS1, hS2⟩ := hS
          go_simp
          exact hK.out _ _ ⟨⟨hS1, hS2⟩, .inl (Below.refl _ _), rfl⟩
        · intro L hL hcl v u hS hd K' hK
          simp only [waited, List.toList_toArray, Region.binds, rel, List.getD_cons_zero, List.getD_cons_succ, true_imp_iff, and_true] at hd
          simp only [rel, List.getD_cons_zero, List.getD_cons_succ, Act.put, List.setIfInBounds_toArray, List.set_cons_zero, List.set_cons_succ] at hK
          try simp only [hd] at hK
          obtain ⟨hS1, hS2⟩ := hS
          have x0 := (hS2.1.cell (p := ⟨b, o + k, none⟩) hbx).trans hc
          go_simp
          exact hK.out _ _ ⟨⟨hS1, hS2⟩, .inl (Below.refl _ _), rfl⟩
        · intro L hL hcl v u hS hd K' hK
          simp only [waited, List.toList_toArray, Region.binds, rel, List.getD_cons_zero, List.getD_cons_succ, true_imp_iff, and_true] at hd
          simp only [rel, List.getD_cons_zero, List.getD_cons_succ, Act.put, List.setIfInBounds_toArray, List.set_cons_zero, List.set_cons_succ] at hK
          try simp only [hd] at hK
          obtain ⟨hS1, hS2⟩ := hS
          have h0 : L 12 = false := by
            cases h9 : L 12 with
            | false => rfl
            | true => have h8 := hcl 12 8 h9 (by kernel_rfl); rw [hL] at h8; cases h8
          go_simp
          refine (hput u (hS1.1 h0).is).mono ?_
          rintro e w2 ⟨v2, rfl, hd2, hb2⟩
          exact hK.out _ _ ⟨⟨hS1.below hb2, bt hS2.1 hb2, hS2.2.below hb2⟩, .inl hb2, ⟨_, rfl, hd2⟩⟩
        · intro L hL hcl v u hS hd K' hK
          simp only [waited, List.toList_toArray, Region.binds, rel, List.getD_cons_zero, List.getD_cons_succ, true_imp_iff, and_true] at hd
          simp only [rel, List.getD_cons_zero, List.getD_cons_succ, Act.put, List.setIfInBounds_toArray, List.set_cons_zero, List.set_cons_succ] at hK
          try simp only [hd] at hK
          obtain ⟨hS1, hS2⟩ := hS
          first | (obtain ⟨v2, e2, hd2⟩ := hd) | (obtain ⟨⟨v2, e2, hd2⟩, _⟩ := hd)
          simp only [e2] at hK
          go_simp
          exact hK.out _ _ ⟨⟨hS1, hS2⟩, .inl (Below.refl _ _), ⟨_, rfl, hd2⟩⟩
        · intro L hL hcl v u hS hd K' hK
          simp only [waited, List.toList_toArray, Region.binds, rel, List.getD_cons_zero, List.getD_cons_succ, true_imp_iff, and_true] at hd
          simp only [rel, List.getD_cons_zero, List.getD_cons_succ, Act.put, List.setIfInBounds_toArray, List.set_cons_zero, List.set_cons_succ] at hK
          try simp only [hd] at hK
          obtain ⟨hS1, hS2⟩ := hS
          first | (obtain ⟨v2, e2, hd2⟩ := hd) | (obtain ⟨⟨v2, e2, hd2⟩, _⟩ := hd)
          simp only [e2] at hK
          go_simp
          exact hK.out _ _ ⟨⟨hS1, hS2⟩, .inl (Below.refl _ _), hd2⟩
        · intro L hL hcl v u hS hd K' hK
          simp only [waited, List.toList_toArray, Region.binds, rel, List.getD_cons_zero, List.getD_cons_succ, true_imp_iff, and_true] at hd
          simp only [rel, List.getD_cons_zero, List.getD_cons_succ, Act.put, List.setIfInBounds_toArray, List.set_cons_zero, List.set_cons_succ] at hK
          try simp only [hd] at hK
          obtain ⟨hS1, hS2⟩ := hS
          first | (obtain ⟨v2, e2, hd2⟩ := hd) | (obtain ⟨⟨v2, e2, hd2⟩, _⟩ := hd)
          simp only [e2] at hK
          go_simp
          exact hK.out _ _ ⟨⟨hS1, hS2⟩, .inl (Below.refl _ _), rfl⟩
        · intro L hL hcl v u hS hd K' hK
          simp only [waited, List.toList_toArray, Region.binds, rel, List.getD_cons_zero, List.getD_cons_succ, true_imp_iff, and_true] at hd
          simp only [rel, List.getD_cons_zero, List.getD_cons_succ, Act.put, List.setIfInBounds_toArray, List.set_cons_zero, List.set_cons_succ] at hK
          try simp only [hd] at hK
          obtain ⟨hS1, hS2⟩ := hS
          first | (obtain ⟨⟨P1, p1, P2, p2, e10, t1, t2, l1, l2, f1, f2⟩, _⟩ := hd) | (obtain ⟨P1, p1, P2, p2, e10, t1, t2, l1, l2, f1, f2⟩ := hd)
          have hBB := hS1.1 hL
          have x0 := hBB.blk.cell 0
          have x1 := hBB.blk.cell 1
          have x2 := hBB.blk.cell 2
          have x3 := hBB.blk.cell 3
          have z0 := hBB.blk.free 0
          have z1 := hBB.blk.free 1
          have z2 := hBB.blk.free 2
          have z3 := hBB.blk.free 3
          simp only [e10] at hK ⊢
          go_simp
          have hG : KeepBox w.heap.size u _ := keepBox_set hBB (.slice P1 D.secs.length p1) (.slice P2 D.pend.length p2) (.bool D.off) (.int .i64 D.fuse)
          exact hK.out undef _ ⟨⟨BoxAt.stored (hBB.set t1 t2 l1 l2 f1 f2), ⟨below_keepBox hS2.1 hG (Nat.le_refl _), hS2.2.keepBox hG (by omega)⟩⟩, hG, trivial⟩
        · intro L hL hcl v u hS hd K' hK
          simp only [waited, List.toList_toArray, Region.binds, rel, List.getD_cons_zero, List.getD_cons_succ, true_imp_iff, and_true] at hd
          simp only [rel, List.getD_cons_zero, List.getD_cons_succ, Act.put, List.setIfInBounds_toArray, List.set_cons_zero, List.set_cons_succ] at hK
          try simp only [hd] at hK
          obtain ⟨hS1, hS2⟩ := hS
          go_simp
          exact hK.out _ _ ⟨⟨hS1, hS2⟩, .inl (Below.refl _ _), rfl⟩
      · rintro v u ⟨hS1, hS2⟩ hR
        simp only [holdAll, List.size_toArray, List.length_cons, List.length_nil, Nat.reduceAdd, rel, List.getD_cons_zero, List.getD_cons_succ] at hR
        obtain ⟨P1, p1, P2, p2, hBox⟩ := hS1.2 rfl
        obtain ⟨⟨⟨hR0, h11⟩, _⟩, h13⟩ := hR
        simp only [h11, h13]
        clear h11 h13 hR0
        obtain ⟨hb3, hZ3⟩ := hS2
        obtain ⟨hR1, hR2⟩ := HR.out
        rw [HDr.out] at hR1 hR2
        by_cases hE0 : E = 0
        · have hs2 := run_ok (d := dk) (s := .put g X) (l := (laySt a l).drop (j + 1)) (by show putE dk (g : Int) X = 0; rw [← HE.out]; exact hE0)
          rw [hs2.1] at hR1
          rw [hs2.2] at hR2
          have HR2 : Hid (layD d a l = runD D ((laySt a l).drop (j + 1)) ∧ layE d a l = runE D ((laySt a l).drop (j + 1))) := by rw [HD.out]; exact ⟨hR1, hR2⟩
          have hz2 : (E != 0) = false := by simp [hE0]
          clear hR1 hR2 hs2 HE hE0 HR
          go_wp2_with fail
          go_roundw
          case rel => exact ⟨j + 1, D, by have := Hk.out; omega, by rw [Hk.out]; first | rfl | go_num, HR2, ⟨_, _, _, _, hBox⟩, hZ3, hb3⟩
          case measure => simp [intOf]; omega
        · have hs2 := run_no (d := dk) (s := .put g X) (l := (laySt a l).drop (j + 1)) (by show putE dk (g : Int) X ≠ 0; rw [← HE.out]; exact hE0)
          rw [hs2.1, show stD dk (.put g X) = putD dk (g : Int) X from rfl, ← HD.out] at hR1
          rw [hs2.2, show stE dk (.put g X) = putE dk (g : Int) X from rfl, ← HE.out] at hR2
          have HR1 := hide hR1
          have HR2 := hide hR2
          have hz1 : (E == 0) = false := by simp [hE0]
          have hz2 : (E != 0) = true := by simp [hE0]
          clear hR1 hR2 hs2 HE HD HR hE0
          have q0 := hBox.blk.cell 0
          have q1 := hBox.blk.cell 1
          have q2 := hBox.blk.cell 2
          have q3 := hBox.blk.cell 3
          have r0 := hZ3.cell 0
          have r1 := hZ3.cell 1
          have r2 := hZ3.cell 2
          have r3 := hZ3.cell 3
          have z0 := hZ3.free 0
          have z1 := hZ3.free 1
          have z2 := hZ3.free 2
          have z3 := hZ3.free 3
          go_wp2_with fail
          refine bodyPost_ret (v := .tuple #[.agg #[.slice P1 D.secs.length p1, .slice P2 D.pend.length p2, .bool D.off, .int .i64 D.fuse], .int .i64 E]) (by simp [results, Try.results35, go_sem, r0, r1, r2, r3]) rfl ?_
          exact dkRet_of (hand_on hBox.tx hBox.wr hBox.l1 hBox.l2 hBox.f1 hBox.f2 hZ3 hb3 (by omega)) HR1.out HR2.out
    · have hge : ¬ ((k : Int) < (n : Int)) := by omega
      have hkn : k = n := by omega
      obtain ⟨hR1, hR2⟩ := HR.out
      rw [show j = l.length - 1 by rw [Hn.out]; have := Hk.out; omega, lay_last, lastSt] at hR1 hR2
      obtain ⟨b, o, rfl, hc⟩ := ht.at_ (k := 0) (by rw [Hn.out]; omega)
      rw [Nat.add_zero] at hc
      obtain ⟨X, HX⟩ := named (l[0]'(by rw [Hn.out]; omega))
      rw [← HX.out] at hc
      rw [show l.getD 0 ⟨#[]⟩ = X by rw [HX.out]; simp [List.getD, List.getElem?_eq_getElem (show 0 < l.length by rw [Hn.out]; omega)]] at hR1 hR2
      have hbx0 := World.block_lt_of_cell? w _ hc
      have hpos : (0 : Int) < (n : Int) := by omega
      have hsy := refSync_w _ dk wr hB.is
      obtain ⟨D1, HD1⟩ := named (syncD dk)
      obtain ⟨E1, HE1⟩ := named (syncE dk)
      rw [← HD1.out, ← HE1.out] at hsy
      have y0 := hB.blk.cell 0
      have y1 := hB.blk.cell 1
      have y2 := hB.blk.cell 2
      have y3 := hB.blk.cell 3
      have HRs : Hid (layD d a l = runD dk [.sync, .put a X, .sync] ∧ layE d a l = runE dk [.sync, .put a X, .sync]) := ⟨hR1, hR2⟩
      clear hR1 hR2 HR HX hkn
      go_wp2_with fail
      refine hsy.mono ?_
      rintro e w5 ⟨v5, rfl, ⟨P1, p1, P2, p2, rfl, t1, t2, l1, l2, f1, f2⟩, hb5⟩
      have gB := hB.below hb5
      have gZ := hZ.below hb5
      have gb := hbw.trans (hb5.mono hbw.size)
      clear y0 y1 y2 y3 hsy hB hZ
      have q0 := gB.blk.cell 0
      have q1 := gB.blk.cell 1
      have q2 := gB.blk.cell 2
      have q3 := gB.blk.cell 3
      have z0 := gB.blk.free 0
      have z1 := gB.blk.free 1
      have z2 := gB.blk.free 2
      have z3 := gB.blk.free 3
      go_upto_region 9 with fail
      have hB2 : Box (set4 w5 w.heap.size (.slice P1 D1.secs.length p1) (.slice P2 D1.pend.length p2) (.bool D1.off) (.int .i64 D1.fuse)) w.heap.size P1 p1 P2 p2 D1 := gB.set t1 t2 l1 l2 f1 f2
      have hZ2 := gZ.far4 (X := w.heap.size) (by omega) (.slice P1 D1.secs.length p1) (.slice P2 D1.pend.length p2) (.bool D1.off) (.int .i64 D1.fuse)
      have hb2 := below4 gb (Nat.le_refl _) (.slice P1 D1.secs.length p1) (.slice P2 D1.pend.length p2) (.bool D1.off) (.int .i64 D1.fuse)
      unfold set4 at hB2 hZ2 hb2
      obtain ⟨W2, HW2⟩ := named ((((w5.setCell ⟨w.heap.size, 0, none⟩ (.slice P1 D1.secs.length p1)).setCell ⟨w.heap.size, 1, none⟩ (.slice P2 D1.pend.length p2)).setCell ⟨w.heap.size, 2, none⟩ (.bool D1.off)).setCell ⟨w.heap.size, 3, none⟩ (.int .i64 D1.fuse))
      rw [← HW2.out] at hB2 hZ2 hb2 ⊢
      clear HW2 q0 q1 q2 q3 z0 z1 z2 z3 t1 t2 l1 l2 f1 f2
      obtain ⟨hR1, hR2⟩ := HRs.out
      clear HRs gB gZ gb
      by_cases hE1 : E1 = 0
      · have hn2 := run_ok (d := dk) (s := .sync) (l := [.put a X, .sync]) (by show syncE dk = 0; rw [← HE1.out]; exact hE1)
        rw [hn2.1, show stD dk .sync = syncD dk from rfl, ← HD1.out] at hR1
        rw [hn2.2, show stD dk .sync = syncD dk from rfl, ← HD1.out] at hR2
        subst hE1
        clear hn2 HE1 HD1
        have y0 := hB2.blk.cell 0
        have y1 := hB2.blk.cell 1
        have y2 := hB2.blk.cell 2
        have y3 := hB2.blk.cell 3
        obtain ⟨D2, HD2⟩ := named (putD D1 (a : Int) X)
        obtain ⟨E2, HE2⟩ := named (putE D1 (a : Int) X)
        have hput : ∀ u, DkIs u (.agg #[.slice P1 D1.secs.length p1, .slice P2 D1.pend.length p2, .bool D1.off, .int .i64 D1.fuse]) D1 → Calls Try.prog 65 #[.agg #[.slice P1 D1.secs.length p1, .slice P2 D1.pend.length p2, .bool D1.off, .int .i64 D1.fuse], .int .i64 (a : Int), .string X] u fun e w' => ∃ v2, e = .returned (.tuple #[v2, .int .i64 E2]) ∧ DkIs w' v2 D2 ∧ Below u.heap.size u w' := fun u hu => by
          have := refPut_w _ D1 (a : Int) X u hu
          rw [← HD2.out, ← HE2.out] at this
          exact this
        have HR9 : Hid (layD d a l = runD D1 [.put a X, .sync] ∧ layE d a l = runE D1 [.put a X, .sync]) := ⟨hR1, hR2⟩
        clear hR1 hR2 y0 y1 y2 y3
        go_wp2_with fail
        obtain ⟨hR1, hR2⟩ := HR9.out
        clear HR9
        refine region_flatS _ (fun L u => BoxAt w.heap.size D1 D2 P1 p1 P2 p2 (L 9) u ∧ (fun u => Below w.heap.size w u ∧ Blk u (w.heap.size + 1) [.slice none 0 0, .slice none 0 0, .bool false, .int .i64 0] 28) u) (fun _ => KeepBox w.heap.size)
          (fun _ => rel [fun v _ => v = .agg #[.slice P1 D1.secs.length p1, .slice P2 D1.pend.length p2, .bool D1.off, .int .i64 D1.fuse],
            fun v _ => v = .int .i64 (a : Int),
            fun v _ => v = .slice (some ⟨b, o, none⟩) n c,
            fun v _ => v = .pointer (some ⟨b, o, none⟩),
            fun v _ => v = .string X,
            fun v u => ∃ v2, v = .tuple #[v2, .int .i64 E2] ∧ DkIs u v2 D2,
            fun v u => ∃ v2, v = .tuple #[v2, .int .i64 E2] ∧ DkIs u v2 D2,
            fun v u => DkIs u v D2,
            fun v _ => v = .int .i64 E2,
            fun _ _ => True,
            fun v _ => v = .int .i64 E2])
          (by kernel_rfl) (by kernel_rfl) (fun v => by simp only [putsV, Act.put, List.toList_toArray, List.setIfInBounds_toArray, List.set_cons_zero, List.set_cons_succ, Nat.reduceAdd, Nat.zero_add]; rfl) ?_ (fun _ _ _ _ _ h => h) ⟨BoxAt.start ⟨hB2.blk, hB2.tx, hB2.wr, hB2.l1, hB2.l2, hB2.f1, hB2.f2⟩, hb2.drew, hZ2⟩ ?_ (fun _ _ _ _ _ _ h => h) (fun L L' u hL h => by rw [← hL 9 (by decide)]; exact h) ?_
        · intro i L j x u u' _ _ hG h
          match j with
          | 0 => exact h
          | 1 => exact h
          | 2 => exact h
          | 3 => exact h
          | 4 => exact h
          | 5 => exact (let ⟨v2, e, hd2⟩ := h; ⟨v2, e, hd2.keepBox hG⟩)
          | 6 => exact (let ⟨v2, e, hd2⟩ := h; ⟨v2, e, hd2.keepBox hG⟩)
          | 7 => exact h.keepBox hG
          | 8 => exact h
          | 9 => exact trivial
          | 10 => exact h
          | _ + 11 => trivial
        · refine ⟨?_, ?_, ?_, ?_, ?_, ?_, ?_, ?_, ?_, ?_, ?_, trivial⟩
          · intro L hL hcl v u hS hd K' hK
            simp only [waited, List.toList_toArray, Region.binds, rel, List.getD_cons_zero, List.getD_cons_succ, true_imp_iff, and_true] at hd
            simp only [rel, List.getD_cons_zero, List.getD_cons_succ, Act.put, List.setIfInBounds_toArray, List.set_cons_zero, List.set_cons_succ] at hK
            try simp only [hd] at hK
            obtain ⟨hS1, hS2⟩ := hS
            have h0 : L 9 = false := by
              cases h9 : L 9 with
              | false => rfl
              | true => have h8 := hcl 9 0 h9 (by kernel_rfl); rw [hL] at h8; cases h8
            have hBB := hS1.1 h0
            have x0 := hBB.blk.cell 0
            have x1 := hBB.blk.cell 1
            have x2 := hBB.blk.cell 2
            have x3 := hBB.blk.cell 3
            go_simp
            exact hK.out _ _ ⟨⟨hS1, hS2⟩, .inl (Below.refl _ _), rfl⟩
          · intro L hL hcl v u hS hd K' hK
            simp only [waited, List.toList_toArray, Region.binds, rel, List.getD_cons_zero, List.getD_cons_succ, true_imp_iff, and_true] at hd
            simp only [rel, List.getD_cons_zero, List.getD_cons_succ, Act.put, List.setIfInBounds_toArray, List.set_cons_zero, List.set_cons_succ] at hK
            try simp only [hd] at hK
            obtain ⟨hS1, hS2⟩ := hS
            go_simp
            exact hK.out _ _ ⟨⟨hS1, hS2⟩, .inl (Below.refl _ _), rfl⟩
          · intro L hL hcl v u hS hd K' hK
            simp only [waited, List.toList_toArray, Region.binds, rel, List.getD_cons_zero, List.getD_cons_succ, true_imp_iff, and_true] at hd
            simp only [rel, List.getD_cons_zero, List.getD_cons_succ, Act.put, List.setIfInBounds_toArray, List.set_cons_zero, List.set_cons_succ] at hK
            try simp only [hd] at hK
            obtain ⟨hS1, hS2⟩ := hS
            go_simp
            exact hK.out _ _ ⟨⟨hS1, hS2⟩, .inl (Below.refl _ _), rfl⟩
          · intro L hL hcl v u hS hd K' hK
            simp only [waited, List.toList_toArray, Region.binds, rel, List.getD_cons_zero, List.getD_cons_succ, true_imp_iff, and_true] at hd
            simp only [rel, List.getD_cons_zero, List.getD_cons_succ, Act.put, List.setIfInBounds_toArray, List.set_cons_zero, List.set_cons_succ] at hK
            try simp only [hd] at hK
            obtain ⟨hS1, hS2⟩ := hS
            have hpN : 0 < n := by omega
            go_simp
            exact hK.out _ _ ⟨⟨hS1, hS2⟩, .inl (Below.refl _ _), rfl⟩
          · intro L hL hcl v u hS hd K' hK
            simp only [waited, List.toList_toArray, Region.binds, rel, List.getD_cons_zero, List.getD_cons_succ, true_imp_iff, and_true] at hd
            simp only [rel, List.getD_cons_zero, List.getD_cons_succ, Act.put, List.setIfInBounds_toArray, List.set_cons_zero, List.set_cons_succ] at hK
            try simp only [hd] at hK
            obtain ⟨hS1, hS2⟩ := hS
            have x0 := (hS2.1.cell (p := ⟨b, o, none⟩) hbx0).trans hc
            go_simp
            exact hK.out _ _ ⟨⟨hS1, hS2⟩, .inl (Below.refl _ _), rfl⟩
          · intro L hL hcl v u hS hd K' hK
            simp only [waited, List.toList_toArray, Region.binds, rel, List.getD_cons_zero, List.getD_cons_succ, true_imp_iff, and_true] at hd
            simp only [rel, List.getD_cons_zero, List.getD_cons_succ, Act.put, List.setIfInBounds_toArray, List.set_cons_zero, List.set_cons_succ] at hK
            try simp only [hd] at hK
            obtain ⟨hS1, hS2⟩ := hS
            have h0 : L 9 = false := by
              cases h9 : L 9 with
              | false => rfl
              | true => have h8 := hcl 9 5 h9 (by kernel_rfl); rw [hL] at h8; cases h8
            go_simp
            refine (hput u (hS1.1 h0).is).mono ?_
            rintro e w2 ⟨v2, rfl, hd2, hb2⟩
            exact hK.out _ _ ⟨⟨hS1.below hb2, bt hS2.1 hb2, hS2.2.below hb2⟩, .inl hb2, ⟨_, rfl, hd2⟩⟩
          · intro L hL hcl v u hS hd K' hK
            simp only [waited, List.toList_toArray, Region.binds, rel, List.getD_cons_zero, List.getD_cons_succ, true_imp_iff, and_true] at hd
            simp only [rel, List.getD_cons_zero, List.getD_cons_succ, Act.put, List.setIfInBounds_toArray, List.set_cons_zero, List.set_cons_succ] at hK
            try simp only [hd] at hK
            obtain ⟨hS1, hS2⟩ := hS
            first | (obtain ⟨v2, e2, hd2⟩ := hd) | (obtain ⟨⟨v2, e2, hd2⟩, _⟩ := hd)
            simp only [e2] at hK
            go_simp
            exact hK.out _ _ ⟨⟨hS1, hS2⟩, .inl (Below.refl _ _), ⟨_, rfl, hd2⟩⟩
          · intro L hL hcl v u hS hd K' hK
            simp only [waited, List.toList_toArray, Region.binds, rel, List.getD_cons_zero, List.getD_cons_succ, true_imp_iff, and_true] at hd
            simp only [rel, List.getD_cons_zero, List.getD_cons_succ, Act.put, List.setIfInBounds_toArray, List.set_cons_zero, List.set_cons_succ] at hK
            try simp only [hd] at hK
            obtain ⟨hS1, hS2⟩ := hS
            first | (obtain ⟨v2, e2, hd2⟩ := hd) | (obtain ⟨⟨v2, e2, hd2⟩, _⟩ := hd)
            simp only [e2] at hK
            go_simp
            exact hK.out _ _ ⟨⟨hS1, hS2⟩, .inl (Below.refl _ _), hd2⟩
          · intro L hL hcl v u hS hd K' hK
            simp only [waited, List.toList_toArray, Region.binds, rel, List.getD_cons_zero, List.getD_cons_succ, true_imp_iff, and_true] at hd
            simp only [rel, List.getD_cons_zero, List.getD_cons_succ, Act.put, List.setIfInBounds_toArray, List.set_cons_zero, List.set_cons_succ] at hK
            try simp only [hd] at hK
            obtain ⟨hS1, hS2⟩ := hS
            first | (obtain ⟨v2, e2, hd2⟩ := hd) | (obtain ⟨⟨v2, e2, hd2⟩, _⟩ := hd)
            simp only [e2] at hK
            go_simp
            exact hK.out _ _ ⟨⟨hS1, hS2⟩, .inl (Below.refl _ _), rfl⟩
          · intro L hL hcl v u hS hd K' hK
            simp only [waited, List.toList_toArray, Region.binds, rel, List.getD_cons_zero, List.getD_cons_succ, true_imp_iff, and_true] at hd
            simp only [rel, List.getD_cons_zero, List.getD_cons_succ, Act.put, List.setIfInBounds_toArray, List.set_cons_zero, List.set_cons_succ] at hK
            try simp only [hd] at hK
            obtain ⟨hS1, hS2⟩ := hS
            first | (obtain ⟨⟨P1, p1, P2, p2, e10, t1, t2, l1, l2, f1, f2⟩, _⟩ := hd) | (obtain ⟨P1, p1, P2, p2, e10, t1, t2, l1, l2, f1, f2⟩ := hd)
            have hBB := hS1.1 hL
            have x0 := hBB.blk.cell 0
            have x1 := hBB.blk.cell 1
            have x2 := hBB.blk.cell 2
            have x3 := hBB.blk.cell 3
            have z0 := hBB.blk.free 0
            have z1 := hBB.blk.free 1
            have z2 := hBB.blk.free 2
            have z3 := hBB.blk.free 3
            simp only [e10] at hK ⊢
            go_simp
            have hG : KeepBox w.heap.size u _ := keepBox_set hBB (.slice P1 D2.secs.length p1) (.slice P2 D2.pend.length p2) (.bool D2.off) (.int .i64 D2.fuse)
            exact hK.out undef _ ⟨⟨BoxAt.stored (hBB.set t1 t2 l1 l2 f1 f2), ⟨below_keepBox hS2.1 hG (Nat.le_refl _), hS2.2.keepBox hG (by omega)⟩⟩, hG, trivial⟩
          · intro L hL hcl v u hS hd K' hK
            simp only [waited, List.toList_toArray, Region.binds, rel, List.getD_cons_zero, List.getD_cons_succ, true_imp_iff, and_true] at hd
            simp only [rel, List.getD_cons_zero, List.getD_cons_succ, Act.put, List.setIfInBounds_toArray, List.set_cons_zero, List.set_cons_succ] at hK
            try simp only [hd] at hK
            obtain ⟨hS1, hS2⟩ := hS
            go_simp
            exact hK.out _ _ ⟨⟨hS1, hS2⟩, .inl (Below.refl _ _), rfl⟩
        · rintro v u ⟨hS1, hS2⟩ hR
          simp only [holdAll, List.size_toArray, List.length_cons, List.length_nil, Nat.reduceAdd, rel, List.getD_cons_zero, List.getD_cons_succ] at hR
          obtain ⟨P1', p1', P2', p2', hBox⟩ := hS1.2 rfl
          obtain ⟨⟨⟨hR0, h11⟩, _⟩, h13⟩ := hR
          simp only [h11, h13]
          clear h11 h13 hR0
          obtain ⟨hb3, hZ3⟩ := hS2
          have y0 := hBox.blk.cell 0
          have y1 := hBox.blk.cell 1
          have y2 := hBox.blk.cell 2
          have y3 := hBox.blk.cell 3
          by_cases hE2 : E2 = 0
          · have hn2 := run_ok (d := D1) (s := .put a X) (l := [.sync]) (by show putE D1 (a : Int) X = 0; rw [← HE2.out]; exact hE2)
            rw [hn2.1] at hR1
            rw [hn2.2] at hR2
            have HRa : Hid (layD d a l = runD D2 [.sync] ∧ layE d a l = runE D2 [.sync]) := by rw [HD2.out]; exact ⟨hR1, hR2⟩
            subst hE2
            clear hR1 hR2 hn2 HE2
            have hsy := refSync_w _ D2 u hBox.is
            go_wp2_with fail
            refine hsy.mono ?_
            obtain ⟨D3, HD3⟩ := named (syncD D2)
            obtain ⟨E3, HE3⟩ := named (syncE D2)
            rw [← HD3.out, ← HE3.out]
            rintro e w9 ⟨v9, rfl, ⟨Q1, q1', Q2, q2', rfl, t1, t2, l1, l2, f1, f2⟩, hb9⟩
            have gB := hBox.below hb9
            have gZ := hZ3.below hb9
            have gb := bt hb3 hb9
            clear y0 y1 y2 y3 hsy
            have q0 := gB.blk.cell 0
            have q1 := gB.blk.cell 1
            have q2 := gB.blk.cell 2
            have q3 := gB.blk.cell 3
            have z0 := gB.blk.free 0
            have z1 := gB.blk.free 1
            have z2 := gB.blk.free 2
            have z3 := gB.blk.free 3
            go_upto_region 13 with fail
            have hB4 : Box (set4 w9 w.heap.size (.slice Q1 D3.secs.length q1') (.slice Q2 D3.pend.length q2') (.bool D3.off) (.int .i64 D3.fuse)) w.heap.size Q1 q1' Q2 q2' D3 := gB.set t1 t2 l1 l2 f1 f2
            have hZ4 := gZ.far4 (X := w.heap.size) (by omega) (.slice Q1 D3.secs.length q1') (.slice Q2 D3.pend.length q2') (.bool D3.off) (.int .i64 D3.fuse)
            have hb4 := below4 gb (Nat.le_refl _) (.slice Q1 D3.secs.length q1') (.slice Q2 D3.pend.length q2') (.bool D3.off) (.int .i64 D3.fuse)
            unfold set4 at hB4 hZ4 hb4
            obtain ⟨W4, HW4⟩ := named ((((w9.setCell ⟨w.heap.size, 0, none⟩ (.slice Q1 D3.secs.length q1')).setCell ⟨w.heap.size, 1, none⟩ (.slice Q2 D3.pend.length q2')).setCell ⟨w.heap.size, 2, none⟩ (.bool D3.off)).setCell ⟨w.heap.size, 3, none⟩ (.int .i64 D3.fuse))
            rw [← HW4.out] at hB4 hZ4 hb4 ⊢
            clear HW4 q0 q1 q2 q3 z0 z1 z2 z3 t1 t2 l1 l2 f1 f2
            obtain ⟨hR1, hR2⟩ := HRa.out
            have hfin : runD D2 [.sync] = D3 ∧ runE D2 [.sync] = E3 := by
              rw [HD3.out, HE3.out]
              by_cases h : syncE D2 = 0
              · exact ⟨(run_ok (s := .sync) (l := []) h).1, (run_ok (s := .sync) (l := []) h).2.trans h.symm⟩
              · exact run_no (s := .sync) (l := []) h
            have HR1 := hide (hR1.trans hfin.1)
            have HR2 := hide (hR2.trans hfin.2)
            clear hR1 hR2 hfin HRa HE3 HD3 hBox gB gZ gb
            have q0 := hB4.blk.cell 0
            have q1 := hB4.blk.cell 1
            have q2 := hB4.blk.cell 2
            have q3 := hB4.blk.cell 3
            have r0 := hZ4.cell 0
            have r1 := hZ4.cell 1
            have r2 := hZ4.cell 2
            have r3 := hZ4.cell 3
            have z0 := hZ4.free 0
            have z1 := hZ4.free 1
            have z2 := hZ4.free 2
            have z3 := hZ4.free 3
            go_wp2_with fail
            refine bodyPost_ret (v := .tuple #[.agg #[.slice Q1 D3.secs.length q1', .slice Q2 D3.pend.length q2', .bool D3.off, .int .i64 D3.fuse], .int .i64 E3]) (by simp [results, Try.results35, go_sem, r0, r1, r2, r3]) rfl ?_
            exact dkRet_of (hand_on hB4.tx hB4.wr hB4.l1 hB4.l2 hB4.f1 hB4.f2 hZ4 hb4 (by omega)) HR1.out HR2.out
          · have hn2 := run_no (d := D1) (s := .put a X) (l := [.sync]) (by show putE D1 (a : Int) X ≠ 0; rw [← HE2.out]; exact hE2)
            rw [hn2.1, show stD D1 (.put a X) = putD D1 (a : Int) X from rfl, ← HD2.out] at hR1
            rw [hn2.2, show stE D1 (.put a X) = putE D1 (a : Int) X from rfl, ← HE2.out] at hR2
            have HR1 := hide hR1
            have HR2 := hide hR2
            have hz1 : (E2 == 0) = false := by simp [hE2]
            clear hR1 hR2 hn2 HE2 HD2 hE2 y0 y1 y2 y3
            have q0 := hBox.blk.cell 0
            have q1 := hBox.blk.cell 1
            have q2 := hBox.blk.cell 2
            have q3 := hBox.blk.cell 3
            have r0 := hZ3.cell 0
            have r1 := hZ3.cell 1
            have r2 := hZ3.cell 2
            have r3 := hZ3.cell 3
            have z0 := hZ3.free 0
            have z1 := hZ3.free 1
            have z2 := hZ3.free 2
            have z3 := hZ3.free 3
            go_wp2_with fail
            refine bodyPost_ret (v := .tuple #[.agg #[.slice P1' D2.secs.length p1', .slice P2' D2.pend.length p2', .bool D2.off, .int .i64 D2.fuse], .int .i64 E2]) (by simp [results, Try.results35, go_sem, r0, r1, r2, r3]) rfl ?_
            exact dkRet_of (hand_on hBox.tx hBox.wr hBox.l1 hBox.l2 hBox.f1 hBox.f2 hZ3 hb3 (by omega)) HR1.out HR2.out
      · have hn2 := run_no (d := dk) (s := .sync) (l := [.put a X, .sync]) (by show syncE dk ≠ 0; rw [← HE1.out]; exact hE1)
        rw [hn2.1, show stD dk .sync = syncD dk from rfl, ← HD1.out] at hR1
        rw [hn2.2, show stE dk .sync = syncE dk from rfl, ← HE1.out] at hR2
        have HR1 := hide hR1
        have HR2 := hide hR2
        have hz1 : (E1 == 0) = false := by simp [hE1]
        clear hR1 hR2 hn2 HE1 HD1 hE1
        have q0 := hB2.blk.cell 0
        have q1 := hB2.blk.cell 1
        have q2 := hB2.blk.cell 2
        have q3 := hB2.blk.cell 3
        have r0 := hZ2.cell 0
        have r1 := hZ2.cell 1
        have r2 := hZ2.cell 2
        have r3 := hZ2.cell 3
        have z0 := hZ2.free 0
        have z1 := hZ2.free 1
        have z2 := hZ2.free 2
        have z3 := hZ2.free 3
        go_wp2_with fail
        refine bodyPost_ret (v := .tuple #[.agg #[.slice P1 D1.secs.length p1, .slice P2 D1.pend.length p2, .bool D1.off, .int .i64 D1.fuse], .int .i64 E1]) (by simp [results, Try.results35, go_sem, r0, r1, r2, r3]) rfl ?_
        exact dkRet_of (hand_on hB2.tx hB2.wr hB2.l1 hB2.l2 hB2.f1 hB2.f2 hZ2 hb2 (by omega)) HR1.out HR2.out
end Go.Proofs.Ytpfbmmeipojodaa
