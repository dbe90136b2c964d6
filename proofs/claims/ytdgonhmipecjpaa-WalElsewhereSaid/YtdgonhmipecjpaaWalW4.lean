/- The walk of WalElsewhere. -/
import Derived.Test.YtdgonhmipecjpaaWalLives
import Derived.Test.YtdgonhmipecjpaaGL
import Derived.Test.YtdgonhmipecjpaaGK
namespace Go.Proofs.Ytdgonhmipecjpaa
set_option linter.unusedSimpArgs false
set_option linter.unusedVariables false
open Go.RowKit Go.Shelf
open Crc
theorem lay_off {d : Dk} {a : Nat} {l : List ByteArray} (h : layE d a l = 0) : d.off = false := by
  have hne : laySt a l ≠ [] := by simp [laySt, lastSt]
  cases hl : laySt a l with
  | nil => exact absurd hl hne
  | cons x rest =>
    have h0 : stE d x = 0 := by
      rcases Classical.em (stE d x = 0) with e | e
      · exact e
      · have := (run_no (l := rest) e).2
        rw [← hl, show runE d (laySt a l) = 0 from h] at this
        exact absurd this.symm e
    cases x with
    | put n y => exact (put_holds h0).2.1
    | sync => exact (sync_holds h0).2.1
theorem elsewhere_ok {d : Dk} {f s a : Int} {fr : Fr} (h : appE d f s a fr = 0) : ∃ f' s' a' q : Nat, f = f' ∧ s = s' ∧ a = a' ∧ right d = true ∧ d.off = false ∧ f' + s' ≤ d.secs.length ∧ a' < q ∧ q ≤ s' ∧ appN d f s a fr = (q : Int) ∧
    right (appD d f s a fr) = true ∧ (appD d f s a fr).off = false ∧ (appD d f s a fr).pend = [] ∧ (appD d f s a fr).secs.length = d.secs.length ∧
    ∀ i : Nat, i < d.secs.length → ¬ (f' + a' ≤ i ∧ i < f' + q) → holdsOf (appD d f s a fr) i = holdsOf d i := by
  have hW : appW d f s a fr = 0 := by
    rcases Classical.em (appW d f s a fr = 0) with e | e
    · exact e
    · rw [appE, if_pos e] at h; exact absurd h e
  have hw : walE d f s = 0 := by
    rcases Classical.em (walE d f s = 0) with e | e
    · exact e
    · rw [appW, if_pos e] at hW; exact absurd hW e
  have hc : frCheck fr = 0 := by
    rcases Classical.em (frCheck fr = 0) with e | e
    · exact e
    · rw [appW_frame hw e] at hW; exact absurd hW e
  have ha : 0 ≤ a ∧ a ≤ s := by
    rcases Classical.em (a < 0 ∨ s < a) with e | e
    · rw [appW_place hw hc e] at hW; cases hW
    · omega
  have hn : ((piecesN fr.pay.length + 1 : Nat) : Int) ≤ s - a := by
    rcases (show s - a < ((piecesN fr.pay.length + 1 : Nat) : Int) ∨ ((piecesN fr.pay.length + 1 : Nat) : Int) ≤ s - a by omega) with e | e
    · rw [appW_full hw hc ha e] at hW; cases hW
    · exact e
  obtain ⟨g1, g2⟩ := app_yes (a := a) hw hW
  obtain ⟨hr, h3, h4, h5, h6⟩ := wal_zero hw
  have h0 : layE d (f + a).toNat ((sectorsL fr).map str) = 0 := by rw [← g2]; exact h
  have ho := lay_off h0
  have hll : ((sectorsL fr).map str).length = piecesN fr.pay.length + 1 := by rw [List.length_map, sectorsL_length]
  obtain ⟨k1, k2, k3, k4, k5⟩ := lay_holds hr ho (by rw [hll]; omega) h0
  obtain ⟨f', rfl⟩ := Int.eq_ofNat_of_zero_le h3
  obtain ⟨s', rfl⟩ := Int.eq_ofNat_of_zero_le (show 0 ≤ s by omega)
  obtain ⟨a', rfl⟩ := Int.eq_ofNat_of_zero_le ha.1
  have hM : appN d f' s' a' fr = ((a' + (piecesN fr.pay.length + 1) : Nat) : Int) := by rw [appN, if_pos h]; omega
  rw [g1]
  rw [show ((f' : Int) + (a' : Int)).toNat = f' + a' by omega, hll] at k5
  refine ⟨f', s', a', a' + (piecesN fr.pay.length + 1), rfl, rfl, rfl, hr, ho, by omega, by omega, by omega, hM, k1, k2, k3, k4, fun i hi hni => ?_⟩
  rw [show ((f' : Int) + (a' : Int)).toNat = f' + a' by omega, k5 i hi, if_neg (by omega)]
set_option maxRecDepth 100000 in
set_option maxHeartbeats 4000000 in
theorem walelsewhere_w (A1 A2 : Option Addr) (c1 c2 : Nat) (d : Dk) (f s a : Int) (kind : UInt8) (epoch seq : Nat) (p : ByteArray) (w : World) (h1 : Texts w A1 d.secs) (h2 : Writes w A2 d.pend) (hl1 : d.secs.length * 16 ≤ 140737488351232) (hl2 : d.pend.length * 24 ≤ 140737488351232) (hf1 : -9223372036854775808 ≤ d.fuse) (hf2 : d.fuse ≤ 9223372036854775807)
    (hf : -9223372036854775808 ≤ f ∧ f ≤ 9223372036854775807) (hs : -9223372036854775808 ≤ s ∧ s ≤ 9223372036854775807) (ha : -9223372036854775808 ≤ a ∧ a ≤ 9223372036854775807) (he : epoch < 18446744073709551616) (hq : seq < 18446744073709551616) :
    Calls Try.prog 11 #[.agg #[.slice A1 d.secs.length c1, .slice A2 d.pend.length c2, .bool d.off, .int .i64 d.fuse], .agg #[.int .i64 f, .int .i64 s], .int .i64 a, .agg #[.int .u8 (kind.toNat : Int), .int .u64 (epoch : Int), .int .u64 (seq : Int), .string p]] w fun e w' => e = .returned (.bool true) ∧ Below w.heap.size w w' := by
  obtain ⟨W, HW, Bd, kr, kf, hb, hz⟩ := three_in w ⟨A1, c1, A2, c2, rfl, h1, h2, by omega, by omega, hf1, hf2⟩ f s kind epoch seq p
  have happ := fun W v hv => append_w v d f s a ⟨kind, epoch, seq, p.data.toList⟩ W hv hf hs ha
  have hM0 : appE d f s a ⟨kind, epoch, seq, p.data.toList⟩ ≠ 0 → appN d f s a ⟨kind, epoch, seq, p.data.toList⟩ = 0 := fun h => by rw [appN, if_neg h]
  have hok := @elsewhere_ok d f s a ⟨kind, epoch, seq, p.data.toList⟩
  rw [frVal_mk] at happ
  obtain ⟨D, HD⟩ := named (appD d f s a ⟨kind, epoch, seq, p.data.toList⟩)
  obtain ⟨M, HM⟩ := named (appN d f s a ⟨kind, epoch, seq, p.data.toList⟩)
  obtain ⟨E, HE⟩ := named (appE d f s a ⟨kind, epoch, seq, p.data.toList⟩)
  rw [← HD.out, ← HM.out, ← HE.out] at happ
  rw [← HM.out, ← HE.out] at hM0
  rw [← HD.out, ← HM.out, ← HE.out] at hok
  have Hok := hide hok
  have HM0 := hide hM0
  clear HD HM HE hok hM0
  go_enter Try.func11, Try.ntmps11
  go_wp2_with fail
  rw [← HW.out]
  clear HW hz h1 h2
  refine (lives4_w _).mono ?_
  rintro e w1 ⟨rfl, hb1⟩
  replace Bd := Bd.below hb1
  replace kr := kr.below hb1
  replace kf := kf.below hb1
  replace hb := bt hb hb1
  clear hb1
  have xd := Bd.blk.cell
  have xr := kr.cell
  have xf := kf.cell
  go_wp2_with fail
  clear xd xr xf
  refine (happ _ _ Bd.is).mono ?_
  rintro e w2 ⟨v2, rfl, ⟨A4, c4, B4, e4, rfl, g1, g2, g3, g4, g5, g6⟩, hb2⟩
  have Be := Box.new w2 ⟨A4, c4, B4, e4, rfl, g1, g2, g3, g4, g5, g6⟩
  replace Bd := (Bd.below hb2).alloc (.cells #[.slice A4 D.secs.length c4, .slice B4 D.pend.length e4, .bool D.off, .int .i64 D.fuse] 49)
  replace kr := (kr.below hb2).alloc (.cells #[.slice A4 D.secs.length c4, .slice B4 D.pend.length e4, .bool D.off, .int .i64 D.fuse] 49)
  replace hb := bt (bt hb hb2) (below_alloc w2 (.cells #[.slice A4 D.secs.length c4, .slice B4 D.pend.length e4, .bool D.off, .int .i64 D.fuse] 49))
  clear happ hb2 g1 g2 g3 g4 g5 g6 kf
  by_cases hE : E = 0
  case neg =>
    have hM := HM0.out hE
    subst hM
    have hz1 : (E == 0) = false := by simp [hE]
    have hz2 : (E != 0) = true := by simp [hE]
    clear Hok HM0 hE
    go_wp2
    go_ret
    exact ⟨by simp, hb⟩
  obtain ⟨f', s', a', q, rfl, rfl, rfl, hr, ho, hfs, hn1, hn2, rfl, k1, k2, k3, k4, k5⟩ := Hok.out hE
  subst hE
  clear Hok HM0
  have hlen := right_len hr
  obtain ⟨N1, HN1⟩ := named w2.heap.size
  have Hp := hide k3
  have Hk := hide k5
  obtain ⟨m, Hm⟩ := named d.secs.length
  rw [← Hm.out] at hfs hlen
  have hrd := fun W (B : Box W w.heap.size A1 c1 A2 c2 d) (i : Nat) (hi : i < m) => read_ok A1 A2 c1 c2 d (i : Int) W B.tx B.wr B.l1 B.l2 hr ho (there_of (by rw [← Hm.out]; exact hi))
  have hre := fun W (B : Box W N1 A4 c4 B4 e4 D) (i : Nat) (hi : i < m) => read_ok A4 B4 c4 e4 D (i : Int) W B.tx B.wr B.l1 B.l2 k1 k2 (there_of (by rw [k4, ← Hm.out]; exact hi))
  have Hk5 : ∀ i : Nat, i < m → ¬ (f' + a' ≤ i ∧ i < f' + q) → holdsOf D i = holdsOf d i := by rw [Hm.out]; exact k5
  have HK := hide Hk5
  have HRD := hide hrd
  have HRE := hide hre
  obtain ⟨g, Hg⟩ := named (f' + a')
  obtain ⟨h, Hh⟩ := named (f' + q)
  have hsg : (f' : Int) + (a' : Int) = (g : Int) := by rw [Hg.out]; omega
  have hsh : (f' : Int) + (q : Int) = (h : Int) := by rw [Hh.out]; omega
  have hwg : IntKind.i64.wrap (g : Int) = (g : Int) := wrap_i64_nat' g (by rw [Hg.out]; omega)
  have hwh : IntKind.i64.wrap (h : Int) = (h : Int) := wrap_i64_nat' h (by rw [Hh.out]; omega)
  have t1 : (a' : Int) < (q : Int) := by omega
  have t2 : (q : Int) ≤ (s' : Int) := by omega
  have hm9 : m ≤ 1024 := hlen.2
  clear k1 k2 k3 k4 k5 ho hr Hk Hk5 hrd hre hfs hlen hn1 hn2 ha hf hs hl1 hl2 hf1 hf2
  have xd : ∀ i, (w2.alloc (.cells #[.slice A4 D.secs.length c4, .slice B4 D.pend.length e4, .bool D.off, .int .i64 D.fuse] 49)).cell? ⟨w.heap.size, i, none⟩ = [.slice A1 m c1, .slice A2 d.pend.length c2, .bool d.off, .int .i64 d.fuse][i]? := by rw [Hm.out]; exact Bd.blk.cell
  go_wp2_with fail
  clear xd
  obtain ⟨W2, HW2⟩ := named (w2.alloc (.cells #[.slice A4 D.secs.length c4, .slice B4 D.pend.length e4, .bool D.off, .int .i64 D.fuse] 49))
  rw [← HN1.out] at Be ⊢
  rw [← HW2.out] at Bd Be kr hb ⊢
  clear HN1 HW2
  go_loopw [35] (fun i wr => ∃ k : Nat, k ≤ m ∧ i = .int .i64 k ∧ Box wr w.heap.size A1 c1 A2 c2 d ∧ Box wr N1 A4 c4 B4 e4 D ∧ Blk wr (w.heap.size + 1) [.int .i64 f', .int .i64 s'] 53 ∧ Below w.heap.size w wr) (fun i _ => m - (intOf i).toNat)
  case atStart => exact ⟨0, by omega, rfl, Bd, Be, kr, hb⟩
  case round =>
    clear Bd Be kr hb
    obtain ⟨k, hk, rfl, Bd, Be, kr, hb⟩ := hrel
    have xr := kr.cell
    by_cases hlt : k < m
    · have hlt' : (k : Int) < (m : Int) := by omega
      by_cases hin : g ≤ k ∧ k < h
      · have g1 : (g : Int) ≤ (k : Int) := by omega
        have g2 : (k : Int) < (h : Int) := by omega
        clear hin
        go_wp2
        go_roundw
        case rel => exact ⟨k + 1, by omega, by go_num, Bd, Be, kr, hb⟩
        case measure => simp [intOf]; omega
      · have hx := HK.out k hlt (by rw [← Hg.out, ← Hh.out]; exact hin)
        have hd := fun W B => HRD.out W B k hlt
        have he := fun W B => HRE.out W B k hlt
        simp only [hx] at he
        obtain ⟨x, Hx⟩ := named (holdsOf d (k : Int))
        simp only [← Hx.out] at hd he
        clear hx Hx
        have xd := Bd.blk.cell
        rcases (show k < g ∨ (g ≤ k ∧ h ≤ k) by omega) with hc | ⟨hc, hc2⟩
        · have g1 : (k : Int) < (g : Int) := by omega
          clear hin hc
          go_wp2_with fail
          refine (hd _ Bd).mono ?_
          rintro e w4 ⟨rfl, hb4⟩
          replace Bd := Bd.below hb4
          replace Be := Be.below hb4
          replace kr := kr.below hb4
          replace hb := bt hb hb4
          clear hb4 xd hd xr
          have xe := Be.blk.cell
          go_wp2_with fail
          refine (he _ Be).mono ?_
          rintro e w5 ⟨rfl, hb5⟩
          replace Bd := Bd.below hb5
          replace Be := Be.below hb5
          replace kr := kr.below hb5
          replace hb := bt hb hb5
          clear hb5 xe he
          go_wp2
          go_roundw
          case rel => exact ⟨k + 1, by omega, by go_num, Bd, Be, kr, hb⟩
          case measure => simp [intOf]; omega
        · have g1 : (g : Int) ≤ (k : Int) := by omega
          have g2 : (h : Int) ≤ (k : Int) := by omega
          clear hin hc hc2
          go_wp2_with fail
          refine (hd _ Bd).mono ?_
          rintro e w4 ⟨rfl, hb4⟩
          replace Bd := Bd.below hb4
          replace Be := Be.below hb4
          replace kr := kr.below hb4
          replace hb := bt hb hb4
          clear hb4 xd hd xr
          have xe := Be.blk.cell
          go_wp2_with fail
          refine (he _ Be).mono ?_
          rintro e w5 ⟨rfl, hb5⟩
          replace Bd := Bd.below hb5
          replace Be := Be.below hb5
          replace kr := kr.below hb5
          replace hb := bt hb hb5
          clear hb5 xe he
          go_wp2
          go_roundw
          case rel => exact ⟨k + 1, by omega, by go_num, Bd, Be, kr, hb⟩
          case measure => simp [intOf]; omega
    · obtain rfl : k = m := by omega
      have xe : ∀ i, wr.cell? ⟨N1, i, none⟩ = [.slice A4 D.secs.length c4, .slice B4 0 e4, .bool D.off, .int .i64 D.fuse][i]? := by
        have := Be.blk.cell
        rw [Hp.out] at this
        exact this
      go_wp2
      go_ret
      exact ⟨by simp, hb⟩
end Go.Proofs.Ytdgonhmipecjpaa
