/- The walk of TopImages. -/
import Derived.Test.YtpfbmmeipojodaaSlBox
import Derived.Test.YtpfbmmeipojodaaGM
import Derived.Test.YtpfbmmeipojodaaTopBegins
import Derived.Test.YtpfbmmeipojodaaLawInts
import Derived.Deep.DeepCutAuto
import Derived.Deep.CutBlock
namespace Go.Proofs.Ytpfbmmeipojodaa
set_option linter.unusedSimpArgs false
set_option linter.unusedVariables false
open Go.RowKit Go.Shelf
open Crc
set_option maxRecDepth 100000 in
set_option maxHeartbeats 1000000 in
theorem topimages_w (size : Int) (A : Option Addr) (ca : Nat) (l : List ByteArray) (Af : Option Addr) (cf : Nat) (fs : List Int) (Ak : Option Addr) (ck : Nat) (keep : List Bool) (w : World) (hsz : -9223372036854775808 ≤ size ∧ size ≤ 9223372036854775807) (hl : Texts w A l) (hll : l.length ≤ 140737488351232)
    (hfs : Ints w Af fs ∧ (∀ x ∈ fs, -9223372036854775808 ≤ x ∧ x ≤ 9223372036854775807)) (hfl : fs.length ≤ 140737488351232) (hk : Bools w Ak keep) :
    Calls Try.prog 3 #[.int .i64 size, .slice A l.length ca, .slice Af fs.length cf, .slice Ak keep.length ck] w fun e w' => e = .returned (.bool true) ∧ Below w.heap.size w w' := by
  obtain ⟨hfs, hfb⟩ := hfs
  by_cases hn1 : size < 1
  · clear hfs hfb hl hk
    go_enter Try.func3, Try.ntmps3
    go_wp2_with fail
    refine (begins_w _).mono ?_
    rintro e w0 ⟨rfl, hb0⟩
    go_wp2
    go_ret
    exact ⟨by simp, hb0⟩
  by_cases hn2 : 100 < size
  · clear hfs hfb hl hk
    go_enter Try.func3, Try.ntmps3
    go_wp2_with fail
    refine (begins_w _).mono ?_
    rintro e w0 ⟨rfl, hb0⟩
    go_wp2
    go_ret
    exact ⟨by simp, hb0⟩
  by_cases hn3 : 40 < l.length
  · have hn4 : (40 : Int) < (l.length : Int) := by omega
    clear hfs hfb hl hk
    go_enter Try.func3, Try.ntmps3
    go_wp2_with fail
    refine (begins_w _).mono ?_
    rintro e w0 ⟨rfl, hb0⟩
    go_wp2
    go_ret
    exact ⟨by simp, hb0⟩
  obtain ⟨n, rfl⟩ := Int.eq_ofNat_of_zero_le (show 0 ≤ size by omega)
  have hnn : 1 ≤ n ∧ n ≤ 100 := by omega
  have h40 : l.length ≤ 40 := by omega
  have hn1' : ¬ (n : Int) < 1 := by omega
  have hn2' : ¬ (100 : Int) < (n : Int) := by omega
  have hn3' : ¬ (40 : Int) < (l.length : Int) := by omega
  have hw2 : IntKind.i64.wrap (2 * (n : Int)) = 2 * (n : Int) := by simp [IntKind.wrap, IntKind.bits, IntKind.signed]; omega
  have hS0 := new_slots n hnn.1 (by omega)
  rw [show ((2 * n : Nat) : Int) = 2 * (n : Int) by omega] at hS0
  have hnew := fun W => new_w (2 * (n : Int)) W (by omega)
  have e1 : newE (2 * (n : Int)) = 0 := by simp [newE]; omega
  obtain ⟨D0, H0⟩ := named (newD (2 * (n : Int)))
  rw [← H0.out] at hS0
  simp only [e1, ← H0.out] at hnew
  have HS0 : Hid (SlOn D0 n ⟨0, (⟨#[]⟩ : ByteArray).data.toList⟩ 1) := hide hS0
  clear H0 e1 hn1 hn2 hn3 hsz hS0
  go_enter Try.func3, Try.ntmps3
  go_wp2_with fail
  refine (begins_w _).mono ?_
  rintro e w0 ⟨rfl, hb0⟩
  go_wp2_with fail
  refine (hnew _).mono ?_
  rintro e w1 ⟨v1, rfl, ⟨A1, c1, B1, e1, rfl, g1, g2, g3, g4, g5, g6⟩, hb1⟩
  obtain ⟨V, HV, Bd, ka, kb, km, hb, hz⟩ := dabm_in w1 ⟨A1, c1, B1, e1, rfl, g1, g2, g3, g4, g5, g6⟩ 0 n n n 0 ⟨#[]⟩
  have hN : w.heap.size ≤ w1.heap.size := Nat.le_trans hb0.size hb1.size
  replace hb := bt (bt hb0 hb1) hb
  clear hnew hb0 hb1 g1 g2 g3 g4 g5 g6 hz
  go_upto_region 9 with fail
  obtain ⟨N, HN⟩ := named w1.heap.size
  rw [← HV.out]
  rw [← HN.out] at Bd ka kb km hN ⊢
  clear HV HN hw2 hn1' hn2' hn3'
  have hAN : N + 1 ≠ N := by omega
  have hBN : N + 1 + 1 ≠ N := by omega
  have hMN : N + 1 + 1 + 1 ≠ N := by omega
  go_loopw [52] (fun i wr => ∃ (k : Nat) (D : Dk) (x j : Nat) (S : ByteArray) (A1 : Option Addr) (c1 : Nat) (B1 : Option Addr) (e1 : Nat), k ≤ l.length ∧ i = .int .i64 (k : Int) ∧ x ≤ k ∧ SlOn D n ⟨x, S.data.toList⟩ j ∧ Box wr N A1 c1 B1 e1 D ∧ Blk wr (N + 1) [.int .i64 0, .int .i64 (n : Int)] 33 ∧ Blk wr (N + 1 + 1) [.int .i64 (n : Int), .int .i64 (n : Int)] 33 ∧ Blk wr (N + 1 + 1 + 1) [.int .u64 (x : Int), .string S] 36 ∧ Below w.heap.size w wr) (fun i _ => l.length - (intOf i).toNat)
  case atStart => exact ⟨0, D0, 0, 1, ⟨#[]⟩, A1, c1, B1, e1, by omega, rfl, by omega, HS0.out, Bd, ka, kb, km, hb⟩
  case round =>
    clear Bd ka kb km hb HS0
    obtain ⟨k, D, x, j, S, A1, c1, B1, e1, hkl, rfl, hxk, hL, Bd, ka, kb, km, hb⟩ := hrel
    by_cases hlt : k < l.length
    case neg =>
      obtain rfl : k = l.length := by omega
      clear Bd ka kb km hL hfs hfb hl hk
      go_wp2
      go_ret
      exact ⟨by simp, hb⟩
    obtain ⟨pb, po, rfl, hp⟩ := Texts.at_ (Lies.below hl hb) hlt
    obtain ⟨p, HP⟩ := named l[k]
    rw [← HP.out] at hp
    have hlt' : (k : Int) < (l.length : Int) := by omega
    have hk0 : (0 : Int) ≤ (k : Int) := by omega
    obtain ⟨q, HQ⟩ := named (x + 1)
    have hsq : (x : Int) + 1 = (q : Int) := by rw [HQ.out]; omega
    have hwq : IntKind.u64.wrap (q : Int) = (q : Int) := wrap_u64_nat _ (by rw [HQ.out]; omega)
    have xm := km.cell
    have kf := Blk.new wr [.int .u64 (q : Int), .string p] 36
    have hFN : wr.heap.size ≠ N := by have := Bd.lt; omega
    have hFM : wr.heap.size ≠ (N + 1 + 1 + 1) := by have := km.lt; omega
    have hFw : w.heap.size ≤ wr.heap.size := hb.size
    replace Bd := Bd.alloc (.cells #[.int .u64 (q : Int), .string p] 36)
    replace ka := ka.alloc (.cells #[.int .u64 (q : Int), .string p] 36)
    replace kb := kb.alloc (.cells #[.int .u64 (q : Int), .string p] 36)
    replace km := km.alloc (.cells #[.int .u64 (q : Int), .string p] 36)
    replace hb := bt hb (below_alloc _ (.cells #[.int .u64 (q : Int), .string p] 36))
    clear HP
    go_upto_region 12 with fail
    clear xm hp hsq hwq
    obtain ⟨F, HF⟩ := named wr.heap.size
    obtain ⟨W2, HW2⟩ := named (wr.alloc (.cells #[.int .u64 (q : Int), .string p] 36))
    rw [← HF.out] at kf hFN hFM hFw ⊢
    rw [← HW2.out] at kf Bd ka kb km hb ⊢
    clear HF HW2
    have Bz := Bd.setFuse (-1) (by omega) (by omega)
    have kaz := ka.far (p := ⟨N, 3, none⟩) hAN (.int .i64 (-1))
    have kbz := kb.far (p := ⟨N, 3, none⟩) hBN (.int .i64 (-1))
    have kmz := km.far (p := ⟨N, 3, none⟩) hMN (.int .i64 (-1))
    have kfz := kf.far (p := ⟨N, 3, none⟩) hFN (.int .i64 (-1))
    have hbz := hb.setCell (p := ⟨N, 3, none⟩) hN (.int .i64 (-1))
    have xd := Bd.blk.cell
    have fd := Bd.blk.free
    go_upto_region 13 with fail
    obtain ⟨W3, HW3⟩ := named (W2.setCell ⟨N, 3, none⟩ (.int .i64 (-1)))
    rw [← HW3.out] at Bz kaz kbz kmz kfz hbz ⊢
    clear HW3 xd fd Bd ka kb km kf hb
    go_upto_if 66 with fail
    go_cut [] (fun wx => ∃ g : Int, Box wx N A1 c1 B1 e1 ⟨D.secs, D.pend, D.off, g⟩ ∧ Blk wx (N + 1) [.int .i64 0, .int .i64 (n : Int)] 33 ∧ Blk wx (N + 1 + 1) [.int .i64 (n : Int), .int .i64 (n : Int)] 33 ∧ Blk wx (N + 1 + 1 + 1) [.int .u64 (x : Int), .string S] 36 ∧ Blk wx F [.int .u64 (q : Int), .string p] 36 ∧ Below w.heap.size w wx)
    case first =>
      by_cases hfk : k < fs.length
      · have hfk' : (k : Int) < (fs.length : Int) := by omega
        obtain ⟨fb, fo, rfl, hfc⟩ := Ints.at_ (Lies.below hfs hbz) hfk
        have hxb := hfb fs[k] (List.getElem_mem hfk)
        obtain ⟨y, HX⟩ := named fs[k]
        rw [← HX.out] at hfc hxb
        have g1 : -9223372036854775808 ≤ max y (-1) := by omega
        have g2 : max y (-1) ≤ 9223372036854775807 := by omega
        have Bx := Bz.setFuse (max y (-1)) g1 g2
        have kax := kaz.far (p := ⟨N, 3, none⟩) hAN (.int .i64 (max y (-1)))
        have kbx := kbz.far (p := ⟨N, 3, none⟩) hBN (.int .i64 (max y (-1)))
        have kmx := kmz.far (p := ⟨N, 3, none⟩) hMN (.int .i64 (max y (-1)))
        have kfx := kfz.far (p := ⟨N, 3, none⟩) hFN (.int .i64 (max y (-1)))
        have hbx := hbz.setCell (p := ⟨N, 3, none⟩) hN (.int .i64 (max y (-1)))
        have xd := Bz.blk.cell
        have fd := Bz.blk.free
        clear HX hfb hfk g1 g2 Bz kaz kbz kmz kfz hbz hL HQ hl hk
        go_wp2
        go_meet
        case rel => exact ⟨max y (-1), Bx, kax, kbx, kmx, kfx, hbx⟩
      · have hfk' : ¬ (k : Int) < (fs.length : Int) := by omega
        clear hfs hfb hfk hl hk hL HQ
        go_wp2
        go_meet
        case rel => exact ⟨-1, Bz, kaz, kbz, kmz, kfz, hbz⟩
    case rest =>
      clear Bz kaz kbz kmz kfz hbz hfs hfb hlt' hk0
      obtain ⟨g, Bd, ka, kb, km, kf, hb⟩ := hcut
      have hL4 := hL.fuse g
      obtain ⟨D4, HD4⟩ := named (⟨D.secs, D.pend, D.off, g⟩ : Dk)
      rw [← HD4.out] at Bd
      have hL4' : SlOn D4 n ⟨x, S.data.toList⟩ j := by rw [HD4.out]; exact hL4
      have hst := hL4'.step (x := ⟨q, p.data.toList⟩) keep (by show x < q; rw [HQ.out]; omega) (by show q < 18446744073709551616; rw [HQ.out]; omega)
      have hsv := fun W v hv => slSave_w D4 (n := n) (by omega) q p W v hv
      obtain ⟨D5, HD5⟩ := named (saveR D4 0 n n n ⟨q, p.data.toList⟩).1
      obtain ⟨E5, HE5⟩ := named (saveR D4 0 n n n ⟨q, p.data.toList⟩).2
      rw [← HD5.out, ← HE5.out] at hst
      simp only [← HD5.out, ← HE5.out] at hsv
      have HST := hide hst
      have HL4 := hide hL4'
      clear HD4 HD5 HE5 hst hL4 hL4' hL
      have bN := Bd.blk
      have xd := Bd.blk.cell
      have xa := ka.cell
      have xb := kb.cell
      have xf := kf.cell
      go_wp2_with fail
      clear xd xa xb xf
      refine (hsv _ _ Bd.is).mono ?_
      rintro e w5 ⟨v5, rfl, ⟨A5, c5, B5, e5, rfl, g1, g2, g3, g4, g5, g6⟩, hb5⟩
      have Be := Box.new w5 ⟨A5, c5, B5, e5, rfl, g1, g2, g3, g4, g5, g6⟩
      have hNE : N ≠ w5.heap.size := by have h1 := hb5.size; have h2 := Bd.lt; omega
      have hAE : (N + 1) ≠ w5.heap.size := by have h1 := hb5.size; have h2 := ka.lt; omega
      have hBE : (N + 1 + 1) ≠ w5.heap.size := by have h1 := hb5.size; have h2 := kb.lt; omega
      have hME : (N + 1 + 1 + 1) ≠ w5.heap.size := by have h1 := hb5.size; have h2 := km.lt; omega
      have hFE : F ≠ w5.heap.size := by have h1 := hb5.size; have h2 := kf.lt; omega
      have hE9 : w.heap.size ≤ w5.heap.size := Nat.le_trans hb.size hb5.size
      replace bN := (bN.below hb5).alloc (.cells #[.slice A5 D5.secs.length c5, .slice B5 D5.pend.length e5, .bool D5.off, .int .i64 D5.fuse] 28)
      replace ka := (ka.below hb5).alloc (.cells #[.slice A5 D5.secs.length c5, .slice B5 D5.pend.length e5, .bool D5.off, .int .i64 D5.fuse] 28)
      replace kb := (kb.below hb5).alloc (.cells #[.slice A5 D5.secs.length c5, .slice B5 D5.pend.length e5, .bool D5.off, .int .i64 D5.fuse] 28)
      replace km := (km.below hb5).alloc (.cells #[.slice A5 D5.secs.length c5, .slice B5 D5.pend.length e5, .bool D5.off, .int .i64 D5.fuse] 28)
      replace kf := (kf.below hb5).alloc (.cells #[.slice A5 D5.secs.length c5, .slice B5 D5.pend.length e5, .bool D5.off, .int .i64 D5.fuse] 28)
      replace hb := bt (bt hb hb5) (below_alloc w5 (.cells #[.slice A5 D5.secs.length c5, .slice B5 D5.pend.length e5, .bool D5.off, .int .i64 D5.fuse] 28))
      clear hsv hb5 g1 g2 g3 g4 g5 g6 Bd
      go_upto_region 16 with fail
      obtain ⟨E, HEb⟩ := named w5.heap.size
      obtain ⟨W5, HW5⟩ := named (w5.alloc (.cells #[.slice A5 D5.secs.length c5, .slice B5 D5.pend.length e5, .bool D5.off, .int .i64 D5.fuse] 28))
      rw [← HEb.out] at Be hNE hAE hBE hME hFE hE9 ⊢
      rw [← HW5.out] at bN Be ka kb km kf hb ⊢
      clear HEb HW5
      go_upto_if 82 with fail
      go_cut [] (fun wx => ∃ (D' : Dk) (x' j' : Nat) (S' : ByteArray) (A6 : Option Addr) (c6 : Nat) (B6 : Option Addr) (e6 : Nat), x' ≤ k + 1 ∧ SlOn D' n ⟨x', S'.data.toList⟩ j' ∧ Box wx E A6 c6 B6 e6 D' ∧ Blk wx N [.slice A1 D4.secs.length c1, .slice B1 D4.pend.length e1, .bool D4.off, .int .i64 D4.fuse] 28 ∧ Blk wx (N + 1) [.int .i64 0, .int .i64 (n : Int)] 33 ∧ Blk wx (N + 1 + 1) [.int .i64 (n : Int), .int .i64 (n : Int)] 33 ∧ Blk wx (N + 1 + 1 + 1) [.int .u64 (x' : Int), .string S'] 36 ∧ Below w.heap.size w wx)
      case first =>
        rcases HST.out with ⟨hE, hL5, _, _⟩ | ⟨hE, _, hr5, hC⟩ | ⟨hE, hD⟩
        · subst hE
          have xf := kf.cell
          have xm := km.cell
          have fm := km.free
          have Bq := Be.img hL5 km (Ne.symm hME) (.int .u64 (q : Int)) (.string p)
          have bq := bN.far2 (Ne.symm hMN) (.int .u64 (q : Int)) (.string p)
          have kaq := ka.far2 (by omega : (N + 1) ≠ (N + 1 + 1 + 1)) (.int .u64 (q : Int)) (.string p)
          have kbq := kb.far2 (by omega : (N + 1 + 1) ≠ (N + 1 + 1 + 1)) (.int .u64 (q : Int)) (.string p)
          have kmq := km.set2 (.int .u64 (q : Int)) (.string p)
          have hbq := below2 hb (by omega : w.heap.size ≤ (N + 1 + 1 + 1)) (.int .u64 (q : Int)) (.string p)
          have HL5 := hide hL5
          clear hL5 HST HL4 Be bN ka kb km kf hb
          go_wp2
          go_meet
          case rel => exact ⟨D5, q, 1 - j, p, A5, c5, B5, e5, by rw [HQ.out]; omega, HL5.out, Bq, bq, kaq, kbq, kmq, hbq⟩
        · subst hE
          have hcr := fun W (B : Box W E A5 c5 B5 e5 D5) (hbW : Below w.heap.size w W) => crash_w _ Ak ck D5 keep W B.is (Lies.below hk hbW)
          obtain ⟨E6, HE6⟩ := named (checkE D5)
          obtain ⟨D6, HD6⟩ := named (crashD D5 keep)
          rw [← HD6.out] at hC
          simp only [← HD6.out, ← HE6.out] at hcr
          have HC := hide hC
          clear HE6 HD6 hC hr5 HST
          have xe := Be.blk.cell
          go_wp2_with fail
          clear xe
          refine (hcr _ Be hb).mono ?_
          rintro e w6 ⟨v6, rfl, ⟨A6, c6, B6, e6, rfl, g1, g2, g3, g4, g5, g6⟩, hb6⟩
          have By := Be.below hb6
          have Bz := Box.set (d' := D6) (e1 := c6) (e2 := e6) By g1 g2 g3 g4 g5 g6
          have bz := (bN.below hb6).far4 hNE (.slice A6 D6.secs.length c6) (.slice B6 D6.pend.length e6) (.bool D6.off) (.int .i64 D6.fuse)
          have kaz := (ka.below hb6).far4 hAE (.slice A6 D6.secs.length c6) (.slice B6 D6.pend.length e6) (.bool D6.off) (.int .i64 D6.fuse)
          have kbz := (kb.below hb6).far4 hBE (.slice A6 D6.secs.length c6) (.slice B6 D6.pend.length e6) (.bool D6.off) (.int .i64 D6.fuse)
          have kmz := (km.below hb6).far4 hME (.slice A6 D6.secs.length c6) (.slice B6 D6.pend.length e6) (.bool D6.off) (.int .i64 D6.fuse)
          have kfz := (kf.below hb6).far4 hFE (.slice A6 D6.secs.length c6) (.slice B6 D6.pend.length e6) (.bool D6.off) (.int .i64 D6.fuse)
          have hbz := below4 (bt hb hb6) hE9 (.slice A6 D6.secs.length c6) (.slice B6 D6.pend.length e6) (.bool D6.off) (.int .i64 D6.fuse)
          have xe := By.blk.cell
          have fe := By.blk.free
          clear hcr g1 g2 g3 g4 g5 g6 Be bN ka kb km kf hb
          go_upto_region 18 with fail
          obtain ⟨W7, HW7⟩ := named (set4 w6 E (.slice A6 D6.secs.length c6) (.slice B6 D6.pend.length e6) (.bool D6.off) (.int .i64 D6.fuse))
          rw [← HW7.out] at Bz bz kaz kbz kmz kfz hbz
          rw [show ((((w6.setCell ⟨E, 0, none⟩ (.slice A6 D6.secs.length c6)).setCell ⟨E, 1, none⟩ (.slice B6 D6.pend.length e6)).setCell ⟨E, 2, none⟩ (.bool D6.off)).setCell ⟨E, 3, none⟩ (.int .i64 D6.fuse)) = W7 from HW7.out.symm]
          clear HW7 By xe fe hb6
          rcases HC.out with hL6 | hL6
          · obtain ⟨J, E7, hJE, hld⟩ := slLoad_w hL6
            have HL6 := hide hL6
            have HJ := hide hJE
            clear hL6 hJE HC
            have xe := Bz.blk.cell
            have xa := kaz.cell
            have xb := kbz.cell
            go_wp2_with fail
            clear xe xa xb
            refine (hld _ _ Bz.is).mono ?_
            rintro e w8 ⟨rfl, hb8⟩
            have kx := Blk.new w8 [.int .u64 (x : Int), .string S] 36
            replace Bz := (Bz.below hb8).alloc (.cells #[.int .u64 (x : Int), .string S] 36)
            replace bz := (bz.below hb8).alloc (.cells #[.int .u64 (x : Int), .string S] 36)
            replace kaz := (kaz.below hb8).alloc (.cells #[.int .u64 (x : Int), .string S] 36)
            replace kbz := (kbz.below hb8).alloc (.cells #[.int .u64 (x : Int), .string S] 36)
            replace kmz := (kmz.below hb8).alloc (.cells #[.int .u64 (x : Int), .string S] 36)
            replace kfz := (kfz.below hb8).alloc (.cells #[.int .u64 (x : Int), .string S] 36)
            replace hbz := bt (bt hbz hb8) (below_alloc w8 (.cells #[.int .u64 (x : Int), .string S] 36))
            have hxq : x ≠ q := by rw [HQ.out]; omega
            have tq1 : ((x : Int) == (q : Int)) = false := by simp; omega
            have tq2 : decide ((x : Int) = (q : Int)) = false := by simp; omega
            have xx := kx.cell
            have xf := kfz.cell
            clear hld hb8 hxq
            rcases HJ.out with ⟨h0, rfl⟩ | ⟨h0, rfl, rfl⟩
            · clear h0 HJ tq1 tq2 xx xf
              go_wp2
              go_meet
              case rel => exact ⟨D6, x, j, S, A6, c6, B6, e6, by omega, HL6.out, Bz, bz, kaz, kbz, kmz, hbz⟩
            · clear h0 HJ
              go_wp2
              go_meet
              case rel => exact ⟨D6, x, J, S, A6, c6, B6, e6, by omega, HL6.out, Bz, bz, kaz, kbz, kmz, hbz⟩
          · obtain ⟨J, E7, hJE, hld⟩ := slLoad_w hL6
            have HL6 := hide hL6
            obtain ⟨_, rfl, rfl⟩ : 1 ≤ q ∧ E7 = 0 ∧ J = 1 - j := by
              rcases hJE with ⟨h, _⟩ | h
              · rw [HQ.out] at h; omega
              · exact h
            clear hJE HC
            have xe := Bz.blk.cell
            have xa := kaz.cell
            have xb := kbz.cell
            go_wp2_with fail
            clear xe xa xb
            refine (hld _ _ Bz.is).mono ?_
            rintro e w8 ⟨rfl, hb8⟩
            have kx := Blk.new w8 [.int .u64 (q : Int), .string p] 36
            replace Bz := (Bz.below hb8).alloc (.cells #[.int .u64 (q : Int), .string p] 36)
            replace bz := (bz.below hb8).alloc (.cells #[.int .u64 (q : Int), .string p] 36)
            replace kaz := (kaz.below hb8).alloc (.cells #[.int .u64 (q : Int), .string p] 36)
            replace kbz := (kbz.below hb8).alloc (.cells #[.int .u64 (q : Int), .string p] 36)
            replace kmz := (kmz.below hb8).alloc (.cells #[.int .u64 (q : Int), .string p] 36)
            replace kfz := (kfz.below hb8).alloc (.cells #[.int .u64 (q : Int), .string p] 36)
            replace hbz := bt (bt hbz hb8) (below_alloc w8 (.cells #[.int .u64 (q : Int), .string p] 36))
            have xx := kx.cell
            have xf := kfz.cell
            have xm := kmz.cell
            have fm := kmz.free
            have Bq := Bz.img hL6 kmz (Ne.symm hME) (.int .u64 (q : Int)) (.string p)
            have bq := bz.far2 (Ne.symm hMN) (.int .u64 (q : Int)) (.string p)
            have kaq := kaz.far2 (by omega : (N + 1) ≠ (N + 1 + 1 + 1)) (.int .u64 (q : Int)) (.string p)
            have kbq := kbz.far2 (by omega : (N + 1 + 1) ≠ (N + 1 + 1 + 1)) (.int .u64 (q : Int)) (.string p)
            have kmq := kmz.set2 (.int .u64 (q : Int)) (.string p)
            have hbq := below2 hbz (by omega : w.heap.size ≤ (N + 1 + 1 + 1)) (.int .u64 (q : Int)) (.string p)
            clear hld hb8 hL6 Bz bz kaz kbz kmz kfz hbz
            go_wp2
            go_meet
            case rel => exact ⟨D6, q, 1 - j, p, A6, c6, B6, e6, by rw [HQ.out]; omega, HL6.out, Bq, bq, kaq, kbq, kmq, hbq⟩
        · subst hD
          rcases hE with rfl | rfl
          · clear HST
            go_wp2
            go_meet
            case rel => exact ⟨D5, x, j, S, A5, c5, B5, e5, by omega, HL4.out, Be, bN, ka, kb, km, hb⟩
          · clear HST
            go_wp2
            go_meet
            case rel => exact ⟨D5, x, j, S, A5, c5, B5, e5, by omega, HL4.out, Be, bN, ka, kb, km, hb⟩
      case rest =>
        clear Be bN ka kb km kf hb HST HL4
        obtain ⟨D', x', j', S', A6, c6, B6, e6, hx', hL, Be, bN, ka, kb, km, hb⟩ := hcut
        obtain ⟨J, E7, hJE, hld⟩ := slLoad_w (hL.fuse (-1))
        have HL := hide (hL.fuse (-1))
        have HJ := hide hJE
        have Bz := Be.over bN
        have kaz := ka.far4 hAN (.slice A6 D'.secs.length c6) (.slice B6 D'.pend.length e6) (.bool D'.off) (.int .i64 D'.fuse)
        have kbz := kb.far4 hBN (.slice A6 D'.secs.length c6) (.slice B6 D'.pend.length e6) (.bool D'.off) (.int .i64 D'.fuse)
        have kmz := km.far4 hMN (.slice A6 D'.secs.length c6) (.slice B6 D'.pend.length e6) (.bool D'.off) (.int .i64 D'.fuse)
        have hbz := below4 hb hN (.slice A6 D'.secs.length c6) (.slice B6 D'.pend.length e6) (.bool D'.off) (.int .i64 D'.fuse)
        have xe := Be.blk.cell
        have xd := bN.cell
        have fd := bN.free
        clear hL hJE
        go_upto_region 26 with fail
        obtain ⟨W9, HW9⟩ := named (set4 wc N (.slice A6 D'.secs.length c6) (.slice B6 D'.pend.length e6) (.bool D'.off) (.int .i64 D'.fuse))
        rw [← HW9.out] at Bz kaz kbz kmz hbz
        rw [show ((((wc.setCell ⟨N, 0, none⟩ (.slice A6 D'.secs.length c6)).setCell ⟨N, 1, none⟩ (.slice B6 D'.pend.length e6)).setCell ⟨N, 2, none⟩ (.bool D'.off)).setCell ⟨N, 3, none⟩ (.int .i64 D'.fuse)) = W9 from HW9.out.symm]
        clear HW9 xe xd fd Be bN ka kb km hb
        have By := Bz.setFuse (-1) (by omega) (by omega)
        have kay := kaz.far (p := ⟨N, 3, none⟩) hAN (.int .i64 (-1))
        have kby := kbz.far (p := ⟨N, 3, none⟩) hBN (.int .i64 (-1))
        have kmy := kmz.far (p := ⟨N, 3, none⟩) hMN (.int .i64 (-1))
        have hby := hbz.setCell (p := ⟨N, 3, none⟩) hN (.int .i64 (-1))
        have xd := Bz.blk.cell
        have fd := Bz.blk.free
        go_upto_region 27 with fail
        obtain ⟨D7, HD7⟩ := named (⟨D'.secs, D'.pend, D'.off, -1⟩ : Dk)
        obtain ⟨W10, HW10⟩ := named (W9.setCell ⟨N, 3, none⟩ (.int .i64 (-1)))
        rw [← HW10.out] at By kay kby kmy hby ⊢
        have HL' : Hid (SlOn D7 n ⟨x', S'.data.toList⟩ j') := by rw [HD7.out]; exact HL
        have hld' : ∀ (W : World) (v : Value), DkIs W v D7 → _ := fun W v hv => hld W v (by rw [HD7.out] at hv; exact hv)
        rw [← HD7.out] at By
        clear HD7 HW10 HL hld xd fd Bz kaz kbz kmz hbz
        have xd := By.blk.cell
        have xa := kay.cell
        have xb := kby.cell
        go_wp2_with fail
        clear xd xa xb
        refine (hld' _ _ By.is).mono ?_
        rintro e w11 ⟨rfl, hb11⟩
        have kx := Blk.new w11 [.int .u64 (x' : Int), .string S'] 36
        replace By := (By.below hb11).alloc (.cells #[.int .u64 (x' : Int), .string S'] 36)
        replace kay := (kay.below hb11).alloc (.cells #[.int .u64 (x' : Int), .string S'] 36)
        replace kby := (kby.below hb11).alloc (.cells #[.int .u64 (x' : Int), .string S'] 36)
        replace kmy := (kmy.below hb11).alloc (.cells #[.int .u64 (x' : Int), .string S'] 36)
        replace hby := bt (bt hby hb11) (below_alloc w11 (.cells #[.int .u64 (x' : Int), .string S'] 36))
        have xx := kx.cell
        have xm := kmy.cell
        clear hld' hb11
        rcases HJ.out with ⟨h0, rfl⟩ | ⟨h0, rfl, _⟩
        · have t1 : ¬ (0 : Int) < (x' : Int) := by omega
          have t2 : decide (0 < x') = false := by simp; omega
          clear h0 HJ
          go_wp2
          go_roundw
          case rel => exact ⟨k + 1, D7, x', j', S', A6, c6, B6, e6, by omega, by first | rfl | go_num, hx', HL'.out, By, kay, kby, kmy, hby⟩
          case measure => simp [intOf]; omega
        · have t1 : (0 : Int) < (x' : Int) := by omega
          have t2 : decide (0 < x') = true := by simp; omega
          clear h0 HJ
          go_wp2
          go_roundw
          case rel => exact ⟨k + 1, D7, x', j', S', A6, c6, B6, e6, by omega, by first | rfl | go_num, hx', HL'.out, By, kay, kby, kmy, hby⟩
          case measure => simp [intOf]; omega
end Go.Proofs.Ytpfbmmeipojodaa
