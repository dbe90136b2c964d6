/- The walk of TopSums. -/
import Derived.Test.YtcnhdmchoiiceaaTopSmall
import Derived.Test.YtcnhdmchoiiceaaSecDoPut
import Derived.Test.YtcnhdmchoiiceaaSecReadAll
namespace Go.Proofs.Ytcnhdmchoiiceaa
open Go.RowKit
open Crc
set_option maxRecDepth 100000 in
set_option maxHeartbeats 16000000 in
theorem topsums_w (A : Option Addr) (c : Nat) (l : List ByteArray) (As : Option Addr) (cs : Nat) (syncs : List Bool) (Ak : Option Addr) (ck : Nat) (keep : List Bool) (bit : Int) (w : World) (ht : Texts w A l) (hl : l.length ≤ 140737488351232) (hs : Bools w As syncs) (_hsl : syncs.length ≤ 140737488351232) (hk : Bools w Ak keep) (_hkl : keep.length ≤ 140737488351232) (hbit : -9223372036854775808 ≤ bit ∧ bit ≤ 9223372036854775807) :
    Calls Try.prog 7 #[.slice A l.length c, .slice As syncs.length cs, .slice Ak keep.length ck, .int .i64 bit] w fun e w' => e = .returned (.bool true) ∧ Below w.heap.size w w' := by
  have hx0 : goodB (sumS ⟨#[]⟩) = true := goodB_sum (by decide)
  have hsum := summed_w ⟨#[]⟩
  rw [show sumOk ⟨#[]⟩ = true from rfl] at hsum
  obtain ⟨x, Hx⟩ := named (sumS ⟨#[]⟩)
  rw [← Hx.out] at hx0 hsum
  have Hgx := hide hx0
  have Hx64 := hide (goodB_size hx0)
  clear hx0
  obtain ⟨D0, H0⟩ := named (newD 4)
  have K0 : Hid (D0 = start4 x 0) := H0.out.trans (start_new x).1
  have q0 := (start_new x).2
  go_enter Try.func7, Try.ntmps7
  go_wp2_with fail
  refine (begins_w _).mono ?_
  rintro e w0 ⟨rfl, hb0⟩
  go_wp2_with fail
  refine (new_w 4 _ (by decide)).mono ?_
  rw [← H0.out, q0]
  rintro e w1 ⟨v1, rfl, ⟨P1, p1, R1, r1, rfl, t1, u1, l1, m1, f1, g1⟩, hb1⟩
  have Bs := Box.new w1 ⟨P1, p1, R1, r1, rfl, t1, u1, l1, m1, f1, g1⟩
  have hws := bt (bt hb0 hb1) (below_alloc w1 (.cells #[.slice P1 D0.secs.length p1, .slice R1 D0.pend.length r1, .bool D0.off, .int .i64 D0.fuse] 25))
  have hNw : w.heap.size ≤ w1.heap.size := Nat.le_trans hb0.size hb1.size
  obtain ⟨Ws, HWs⟩ := named (w1.alloc (.cells #[.slice P1 D0.secs.length p1, .slice R1 D0.pend.length r1, .bool D0.off, .int .i64 D0.fuse] 25))
  obtain ⟨N, HN⟩ := named w1.heap.size
  by_cases hbig : 1000 < l.length
  · have hbig' : (1000 : Int) < (l.length : Int) := by omega
    go_wp2
    go_ret
    exact ⟨by simp, hws⟩
  · have hsmall : (l.length : Int) ≤ 1000 := by omega
    have hsmall' : l.length ≤ 1000 := by omega
    clear hbig
    go_wp2
    rw [← HWs.out] at Bs hws ⊢
    simp only [← HN.out] at Bs hNw ⊢
    rw [K0.out] at Bs
    clear HWs HN K0 H0 q0 t1 u1 hb0 hb1 l1 m1 f1 g1
    go_loopw [11] (fun i wr => ∃ (k : Nat) (B : Option Addr) (b : Nat) (B' : Option Addr) (b' : Nat), k ≤ 4 ∧ i = .int .i64 k ∧ Box wr N B b B' b' (start4 x k) ∧ Below w.heap.size w wr) (fun i _ => 4 - (intOf i).toNat)
    case atStart => exact ⟨0, _, _, _, _, by omega, rfl, Bs, hws⟩
    case round =>
      obtain ⟨k, B, b, B', b', hk4, rfl, Bx, hbw⟩ := hrel
      clear Bs hws
      by_cases hlt : k < 4
      · have hlt' : (k : Int) < 4 := by omega
        have Q := hide (start_put Hx64.out hlt)
        obtain ⟨E, HE⟩ := named (putE (start4 x k) k x)
        go_wp2_with fail
        refine (hsum _).mono ?_
        rintro e w3 ⟨rfl, hb3⟩
        replace Bx := Bx.below hb3
        replace hbw := bt hbw hb3
        have x0 := Bx.blk.cell 0
        have x1 := Bx.blk.cell 1
        have x2 := Bx.blk.cell 2
        have x3 := Bx.blk.cell 3
        go_wp2_with fail
        refine (put_w _ (start4 x k) k x _ Bx.is).mono ?_
        rw [Q.out, ← HE.out]
        rintro e w4 ⟨v4, rfl, ⟨P4, p4, R4, r4, rfl, t4, u4, l4, m4, f4, g4⟩, hb4⟩
        have By := Bx.below hb4
        have Bz := Box.set (d' := (start4 x (k + 1))) (e1 := p4) (e2 := r4) By t4 u4 l4 m4 f4 g4
        have hwz := below4 (bt hbw hb4) hNw (.slice P4 (start4 x (k + 1)).secs.length p4) (.slice R4 (start4 x (k + 1)).pend.length r4) (.bool (start4 x (k + 1)).off) (.int .i64 (start4 x (k + 1)).fuse)
        clear x0 x1 x2 x3
        clear t4 u4
        have y0 := By.blk.cell 0
        have y1 := By.blk.cell 1
        have y2 := By.blk.cell 2
        have y3 := By.blk.cell 3
        have z0 := By.blk.free 0
        have z1 := By.blk.free 1
        have z2 := By.blk.free 2
        have z3 := By.blk.free 3
        go_wp2
        go_roundw
        case rel => exact ⟨k + 1, _, _, _, _, by omega, by go_num, Bz, hwz⟩
        case measure => simp [intOf]; omega
      · have hke : k = 4 := by omega
        subst hke
        obtain ⟨D1, H1⟩ := named (syncD (start4 x 4))
        obtain ⟨E1, L1⟩ := named (syncE (start4 x 4))
        have hI : Inv D1 0 := by rw [H1.out]; exact start_sync Hgx.out
        have x0 := Bx.blk.cell 0
        have x1 := Bx.blk.cell 1
        have x2 := Bx.blk.cell 2
        have x3 := Bx.blk.cell 3
        go_wp2_with fail
        refine (sync_w _ (start4 x 4) _ Bx.is).mono ?_
        rw [← H1.out, ← L1.out]
        rintro e w4 ⟨v4, rfl, ⟨P4, p4, R4, r4, rfl, t4, u4, l4, m4, f4, g4⟩, hb4⟩
        have By := Bx.below hb4
        have Bz := Box.set (d' := D1) (e1 := p4) (e2 := r4) By t4 u4 l4 m4 f4 g4
        have hwz := below4 (bt hbw hb4) hNw (.slice P4 D1.secs.length p4) (.slice R4 D1.pend.length r4) (.bool D1.off) (.int .i64 D1.fuse)
        clear x0 x1 x2 x3
        clear t4 u4
        have y0 := By.blk.cell 0
        have y1 := By.blk.cell 1
        have y2 := By.blk.cell 2
        have y3 := By.blk.cell 3
        have z0 := By.blk.free 0
        have z1 := By.blk.free 1
        have z2 := By.blk.free 2
        have z3 := By.blk.free 3
        go_wp2
        clear y0 y1 y2 y3 z0 z1 z2 z3 By Bx
        have hlen0 : (0 : Nat) ≤ l.length := Nat.zero_le _
        go_loopw [60] (fun i wr => ∃ (k : Nat) (D : Dk) (B : Option Addr) (b : Nat) (B' : Option Addr) (b' : Nat), k ≤ l.length ∧ i = .int .i64 k ∧ Inv D k ∧ Box wr N B b B' b' D ∧ Below w.heap.size w wr) (fun i _ => l.length - (intOf i).toNat)
        case atStart => exact ⟨0, D1, _, _, _, _, by omega, rfl, hI, Bz, hwz⟩
        case round =>
          obtain ⟨k, D, B, b, B', b', hkl, rfl, hInv, Bx, hbw2⟩ := hrel
          clear Bz hwz hI hbw
          by_cases hlt : k < l.length
          · obtain ⟨b1, o1, rfl, hc1⟩ := Texts.at_ (Lies.below ht hbw2) hlt
            obtain ⟨sx, HS⟩ := named (sumS l[k])
            obtain ⟨ok, HO⟩ := named (sumOk l[k])
            have hsx : Hid (ok = true → goodB sx = true) := by
              intro h
              rw [HO.out] at h
              rw [HS.out]
              exact goodB_sum (by simpa [sumOk] using h)
            go_wp2_with fail
            refine (summed_w l[k] _).mono ?_
            rw [← HS.out, ← HO.out]
            rintro e w3 ⟨rfl, hb3⟩
            replace Bx := Bx.below hb3
            replace hbw2 := bt hbw2 hb3
            clear hc1
            cases ok
            · have hI2 : Inv D (k + 1) := ⟨hInv.rt, hInv.off, hInv.fu, hInv.four, hInv.g1, hInv.g2, by have := hInv.many; omega⟩
              by_cases hkk : k < syncs.length
              · obtain ⟨b3, o3, rfl, hc3⟩ := Bools.at_ (Lies.below hs hbw2) hkk
                cases hkv : syncs[k]
                · rw [hkv] at hc3
                  clear hkv
                  have hI9 := hI2
                  go_wp2
                  go_roundw
                  case rel => exact ⟨k + 1, _, _, _, _, _, by omega, by go_num, hI9, Bx, hbw2⟩
                  case measure => simp [intOf]; omega
                · rw [hkv] at hc3
                  clear hkv
                  obtain ⟨D9, H9⟩ := named (syncD D)
                  obtain ⟨E9, L9⟩ := named (syncE D)
                  have hI9 : Inv D9 (k + 1) := by rw [H9.out]; exact hI2.sync
                  have x0 := Bx.blk.cell 0
                  have x1 := Bx.blk.cell 1
                  have x2 := Bx.blk.cell 2
                  have x3 := Bx.blk.cell 3
                  go_wp2_with fail
                  refine (sync_w _ D _ Bx.is).mono ?_
                  rw [← H9.out, ← L9.out]
                  rintro e w4 ⟨v4, rfl, ⟨P4, p4, R4, r4, rfl, t4, u4, l4, m4, f4, g4⟩, hb4⟩
                  have By := Bx.below hb4
                  have Bn := Box.set (d' := D9) (e1 := p4) (e2 := r4) By t4 u4 l4 m4 f4 g4
                  have hwn := below4 (bt hbw2 hb4) hNw (.slice P4 D9.secs.length p4) (.slice R4 D9.pend.length r4) (.bool D9.off) (.int .i64 D9.fuse)
                  clear x0 x1 x2 x3
                  clear t4 u4
                  have y0 := By.blk.cell 0
                  have y1 := By.blk.cell 1
                  have y2 := By.blk.cell 2
                  have y3 := By.blk.cell 3
                  have z0 := By.blk.free 0
                  have z1 := By.blk.free 1
                  have z2 := By.blk.free 2
                  have z3 := By.blk.free 3
                  go_wp2
                  go_roundw
                  case rel => exact ⟨k + 1, _, _, _, _, _, by omega, by go_num, hI9, Bn, hwn⟩
                  case measure => simp [intOf]; omega
              · have hkk2 : (syncs.length : Int) ≤ (k : Int) := by omega
                have hI9 := hI2
                go_wp2
                go_roundw
                case rel => exact ⟨k + 1, _, _, _, _, _, by omega, by go_num, hI9, Bx, hbw2⟩
                case measure => simp [intOf]; omega
            · have hmod : Int.tmod (k : Int) 4 = ((k % 4 : Nat) : Int) := by rw [Int.tmod_eq_emod_of_nonneg (by omega)]; omega
              have hmod2 : (k : Int) % 4 = ((k % 4 : Nat) : Int) := by omega
              obtain ⟨q, Hq⟩ := named (k % 4)
              have hq4 : q < 4 := by rw [Hq.out]; omega
              rw [← Hq.out] at hmod hmod2
              obtain ⟨D2, H2⟩ := named (putD D q sx)
              obtain ⟨E2, L2⟩ := named (putE D q sx)
              have hI2 : Inv D2 (k + 1) := by rw [H2.out]; exact hInv.put (by omega) hq4 (hsx.out rfl)
              have x0 := Bx.blk.cell 0
              have x1 := Bx.blk.cell 1
              have x2 := Bx.blk.cell 2
              have x3 := Bx.blk.cell 3
              go_wp2_with fail
              refine (put_w _ D q sx _ Bx.is).mono ?_
              rw [← H2.out, ← L2.out]
              rintro e w4 ⟨v4, rfl, ⟨P4, p4, R4, r4, rfl, t4, u4, l4, m4, f4, g4⟩, hb4⟩
              have By := Bx.below hb4
              have Bz := Box.set (d' := D2) (e1 := p4) (e2 := r4) By t4 u4 l4 m4 f4 g4
              have hwz := below4 (bt hbw2 hb4) hNw (.slice P4 D2.secs.length p4) (.slice R4 D2.pend.length r4) (.bool D2.off) (.int .i64 D2.fuse)
              clear x0 x1 x2 x3
              clear t4 u4
              have y0 := By.blk.cell 0
              have y1 := By.blk.cell 1
              have y2 := By.blk.cell 2
              have y3 := By.blk.cell 3
              have z0 := By.blk.free 0
              have z1 := By.blk.free 1
              have z2 := By.blk.free 2
              have z3 := By.blk.free 3
              by_cases hkk : k < syncs.length
              · obtain ⟨b3, o3, rfl, hc3⟩ := Bools.at_ (Lies.below hs hwz) hkk
                simp only [set4] at hc3
                cases hkv : syncs[k]
                · rw [hkv] at hc3
                  clear hkv
                  have hI9 := hI2
                  go_wp2
                  go_roundw
                  case rel => exact ⟨k + 1, _, _, _, _, _, by omega, by go_num, hI9, Bz, hwz⟩
                  case measure => simp [intOf]; omega
                · rw [hkv] at hc3
                  clear hkv
                  obtain ⟨D9, H9⟩ := named (syncD D2)
                  obtain ⟨E9, L9⟩ := named (syncE D2)
                  have hI9 : Inv D9 (k + 1) := by rw [H9.out]; exact hI2.sync
                  go_wp2_with fail
                  refine (sync_w _ D2 _ Bz.is).mono ?_
                  rw [← H9.out, ← L9.out]
                  rintro e w4b ⟨v4, rfl, ⟨P4, p4, R4, r4, rfl, t4, u4, l4, m4, f4, g4⟩, hb4b⟩
                  have By := Bz.below hb4b
                  have Bn := Box.set (d' := D9) (e1 := p4) (e2 := r4) By t4 u4 l4 m4 f4 g4
                  have hwn := below4 (bt hwz hb4b) hNw (.slice P4 D9.secs.length p4) (.slice R4 D9.pend.length r4) (.bool D9.off) (.int .i64 D9.fuse)
                  clear t4 u4
                  have y0 := By.blk.cell 0
                  have y1 := By.blk.cell 1
                  have y2 := By.blk.cell 2
                  have y3 := By.blk.cell 3
                  have z0 := By.blk.free 0
                  have z1 := By.blk.free 1
                  have z2 := By.blk.free 2
                  have z3 := By.blk.free 3
                  go_wp2
                  go_roundw
                  case rel => exact ⟨k + 1, _, _, _, _, _, by omega, by go_num, hI9, Bn, hwn⟩
                  case measure => simp [intOf]; omega
              · have hkk2 : (syncs.length : Int) ≤ (k : Int) := by omega
                have hI9 := hI2
                go_wp2
                go_roundw
                case rel => exact ⟨k + 1, _, _, _, _, _, by omega, by go_num, hI9, Bz, hwz⟩
                case measure => simp [intOf]; omega
          · have hke : k = l.length := by omega
            subst hke
            have hcrash := hide (fun (i : Nat) (hi : i < 4) => hInv.crash keep (i := i) hi)
            obtain ⟨D3, H3⟩ := named (crashD D keep)
            obtain ⟨E3, L3⟩ := named (checkE D)
            rw [← H3.out] at hcrash
            have x0 := Bx.blk.cell 0
            have x1 := Bx.blk.cell 1
            have x2 := Bx.blk.cell 2
            have x3 := Bx.blk.cell 3
            go_wp2_with fail
            refine (crash_w _ Ak ck D keep _ Bx.is (Lies.below hk hbw2)).mono ?_
            rw [← H3.out, ← L3.out]
            rintro e w4 ⟨v4, rfl, ⟨P4, p4, R4, r4, rfl, t4, u4, l4, m4, f4, g4⟩, hb4⟩
            have By := Bx.below hb4
            have Bz := Box.set (d' := D3) (e1 := p4) (e2 := r4) By t4 u4 l4 m4 f4 g4
            have hwz := below4 (bt hbw2 hb4) hNw (.slice P4 D3.secs.length p4) (.slice R4 D3.pend.length r4) (.bool D3.off) (.int .i64 D3.fuse)
            clear x0 x1 x2 x3
            clear t4 u4
            have y0 := By.blk.cell 0
            have y1 := By.blk.cell 1
            have y2 := By.blk.cell 2
            have y3 := By.blk.cell 3
            have z0 := By.blk.free 0
            have z1 := By.blk.free 1
            have z2 := By.blk.free 2
            have z3 := By.blk.free 3
            go_wp2
            clear y0 y1 y2 y3 z0 z1 z2 z3 By Bx
            go_loopw [18] (fun i wr => ∃ (k : Nat) (B : Option Addr) (b : Nat) (B' : Option Addr) (b' : Nat), k ≤ 4 ∧ i = .int .i64 k ∧ Box wr N B b B' b' D3 ∧ Below w.heap.size w wr) (fun i _ => 4 - (intOf i).toNat)
            case atStart => exact ⟨0, _, _, _, _, by omega, rfl, Bz, hwz⟩
            case round =>
              obtain ⟨k, B, b, B', b', hk4, rfl, Bx, hbw3⟩ := hrel
              clear Bz hwz
              by_cases hlt : k < 4
              · have hlt' : (k : Int) < 4 := by omega
                obtain ⟨s, HS⟩ := named (readS D3 k)
                have R1 : Hid (readE D3 k = 0) := (hcrash.out k hlt).1
                have R2 : goodB s = true := by rw [HS.out]; exact (hcrash.out k hlt).2
                have R3 := goodB_size R2
                have R4 := hide R2
                have R5 := hide R3
                clear R2 R3
                have x0 := Bx.blk.cell 0
                have x1 := Bx.blk.cell 1
                have x2 := Bx.blk.cell 2
                have x3 := Bx.blk.cell 3
                go_wp2_with fail
                refine (read_w _ D3 k _ Bx.is).mono ?_
                rw [← HS.out, R1.out]
                rintro e w5 ⟨rfl, hb5⟩
                clear x0 x1 x2 x3
                go_wp2_with fail
                refine (good_w s _ R5.out).mono ?_
                rw [R4.out]
                rintro e w6 ⟨rfl, hb6⟩
                have Bq := (Bx.below hb5).below hb6
                have hbq := bt (bt hbw3 hb5) hb6
                by_cases hin : 0 ≤ bit ∧ bit < 512
                · obtain ⟨n, rfl⟩ : ∃ n : Nat, bit = (n : Int) := ⟨bit.toNat, by omega⟩
                  have hn : n / 8 < 64 := by omega
                  go_wp2_with fail
                  refine (flip_yes s n _ (by rw [R5.out]; omega) (by rw [R5.out]; exact hn)).mono ?_
                  have F1 := hide (goodB_flip R4.out hn)
                  have F2 : Hid ((str (flipL s.data.toList n)).size = 64) := by show _ = _; rw [str_size, flipL_length, data_length, R5.out]
                  obtain ⟨fs, HF⟩ := named (str (flipL s.data.toList n))
                  rw [← HF.out] at F1 F2 ⊢
                  rintro e w7 ⟨rfl, hb7⟩
                  go_wp2_with fail
                  refine (good_w fs _ F2.out).mono ?_
                  rw [F1.out]
                  rintro e w8 ⟨rfl, hb8⟩
                  go_wp2
                  go_roundw
                  case rel => exact ⟨k + 1, _, _, _, _, by omega, by go_num, (Bq.below hb7).below hb8, bt (bt hbq hb7) hb8⟩
                  case measure => simp [intOf]; omega
                · go_wp2_with fail
                  refine (flip_no s bit _ (by rw [R5.out]; omega) hbit (by rw [R5.out]; omega)).mono ?_
                  rintro e w7 ⟨rfl, rfl⟩
                  go_wp2
                  go_roundw
                  case rel => exact ⟨k + 1, _, _, _, _, by omega, by go_num, Bq, hbq⟩
                  case measure => simp [intOf]; omega
              · have hke : k = 4 := by omega
                subst hke
                go_wp2
                go_ret
                exact ⟨rfl, hbw3⟩
end Go.Proofs.Ytcnhdmchoiiceaa
