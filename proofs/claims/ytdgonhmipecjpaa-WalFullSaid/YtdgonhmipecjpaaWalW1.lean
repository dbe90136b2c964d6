/- The walk of WalFull. -/
import Derived.Test.YtdgonhmipecjpaaWalLives
import Derived.Test.YtdgonhmipecjpaaGL
namespace Go.Proofs.Ytdgonhmipecjpaa
set_option linter.unusedSimpArgs false
set_option linter.unusedVariables false
open Go.RowKit Go.Shelf
open Crc
theorem full_cases (d : Dk) (f s : Int) (kind : UInt8) (epoch seq : Nat) (p : ByteArray) (h : walE d f s = 0) : appD d f s s ⟨kind, epoch, seq, p.data.toList⟩ = d ∧ appN d f s s ⟨kind, epoch, seq, p.data.toList⟩ = 0 ∧
    ((appE d f s s ⟨kind, epoch, seq, p.data.toList⟩ = 1 ∧ kind = 0) ∨ (appE d f s s ⟨kind, epoch, seq, p.data.toList⟩ = 3 ∧ kind ≠ 0 ∧ 16384 < p.size) ∨ appE d f s s ⟨kind, epoch, seq, p.data.toList⟩ = 16) := by
  have hl : p.data.toList.length = p.size := Array.length_toList
  by_cases hk : kind = 0
  · have hc : frCheck ⟨kind, epoch, seq, p.data.toList⟩ = 1 := by simp [frCheck, hk]
    have h1 := app_no (fr := ⟨kind, epoch, seq, p.data.toList⟩) (a := s) h ((appW_frame h (by rw [hc]; decide)).trans hc) (by decide)
    exact ⟨h1.1, h1.2.1, .inl ⟨h1.2.2, hk⟩⟩
  · by_cases hp : 16384 < p.size
    · have hc : frCheck ⟨kind, epoch, seq, p.data.toList⟩ = 3 := by simp [frCheck, hk, hl, hp]
      have h1 := app_no (fr := ⟨kind, epoch, seq, p.data.toList⟩) (a := s) h ((appW_frame h (by rw [hc]; decide)).trans hc) (by decide)
      exact ⟨h1.1, h1.2.1, .inr (.inl ⟨h1.2.2, hk, hp⟩)⟩
    · have hc : frCheck ⟨kind, epoch, seq, p.data.toList⟩ = 0 := by simp [frCheck, hk, hl, hp]
      have hz := wal_zero h
      have h1 := app_no (fr := ⟨kind, epoch, seq, p.data.toList⟩) (a := s) h (appW_full h hc ⟨by omega, by omega⟩ (by omega)) (by decide)
      exact ⟨h1.1, h1.2.1, .inr (.inr h1.2.2)⟩
set_option maxRecDepth 100000 in
set_option maxHeartbeats 4000000 in
theorem walfull_w (A1 A2 : Option Addr) (c1 c2 : Nat) (d : Dk) (f s : Int) (kind : UInt8) (epoch seq : Nat) (p : ByteArray) (w : World) (h1 : Texts w A1 d.secs) (h2 : Writes w A2 d.pend) (hl1 : d.secs.length * 16 ≤ 140737488351232) (hl2 : d.pend.length * 24 ≤ 140737488351232) (hf1 : -9223372036854775808 ≤ d.fuse) (hf2 : d.fuse ≤ 9223372036854775807)
    (hf : -9223372036854775808 ≤ f ∧ f ≤ 9223372036854775807) (hs : -9223372036854775808 ≤ s ∧ s ≤ 9223372036854775807) (he : epoch < 18446744073709551616) (hq : seq < 18446744073709551616) :
    Calls Try.prog 12 #[.agg #[.slice A1 d.secs.length c1, .slice A2 d.pend.length c2, .bool d.off, .int .i64 d.fuse], .agg #[.int .i64 f, .int .i64 s], .agg #[.int .u8 (kind.toNat : Int), .int .u64 (epoch : Int), .int .u64 (seq : Int), .string p]] w fun e w' => e = .returned (.bool true) ∧ Below w.heap.size w w' := by
  obtain ⟨W, HW, Bd, kr, kf, hb, hz⟩ := three_in w ⟨A1, c1, A2, c2, rfl, h1, h2, by omega, by omega, hf1, hf2⟩ f s kind epoch seq p
  go_enter Try.func12, Try.ntmps12
  go_wp2_with fail
  rw [← HW.out]
  clear HW hz
  refine (lives4_w _).mono ?_
  rintro e w1 ⟨rfl, hb1⟩
  replace Bd := Bd.below hb1
  replace kr := kr.below hb1
  replace kf := kf.below hb1
  replace hb := bt hb hb1
  clear hb1
  have xd := Bd.blk.cell
  have xr := kr.cell
  go_wp2_with fail
  clear xd xr
  have hck := walCheck_w _ d f s _ Bd.is hf hs
  refine hck.mono ?_
  rintro e w2 ⟨rfl, hb2⟩
  replace Bd := Bd.below hb2
  replace kr := kr.below hb2
  replace kf := kf.below hb2
  replace hb := bt hb hb2
  clear hck hb2
  by_cases hw : walE d f s = 0
  case neg =>
    have hz1 : (walE d f s == 0) = false := by simp [hw]
    have hz2 : (walE d f s != 0) = true := by simp [hw]
    go_wp2
    go_ret
    exact ⟨by simp, hb⟩
  obtain ⟨hD, hM, hE⟩ := full_cases d f s kind epoch seq p hw
  rw [hw]
  have happ := fun W hv => append_w (.agg #[.slice A1 d.secs.length c1, .slice A2 d.pend.length c2, .bool d.off, .int .i64 d.fuse]) d f s s ⟨kind, epoch, seq, p.data.toList⟩ W hv hf hs hs
  rw [frVal_mk, hD, hM] at happ
  obtain ⟨E, HE⟩ := named (appE d f s s ⟨kind, epoch, seq, p.data.toList⟩)
  rw [← HE.out] at hE happ
  clear HE hD hM hw
  have xd := Bd.blk.cell
  have xr := kr.cell
  have xf := kf.cell
  go_wp2_with fail
  clear xd xr xf
  refine (happ _ Bd.is).mono ?_
  rintro e w3 ⟨v3, rfl, ⟨A3, c3, B3, e3, rfl, g1, g2, g3, g4, g5, g6⟩, hb3⟩
  have Be := Box.new w3 ⟨A3, c3, B3, e3, rfl, g1, g2, g3, g4, g5, g6⟩
  replace kf := (kf.below hb3).alloc (.cells #[.slice A3 d.secs.length c3, .slice B3 d.pend.length e3, .bool d.off, .int .i64 d.fuse] 49)
  replace Bd := (Bd.below hb3).alloc (.cells #[.slice A3 d.secs.length c3, .slice B3 d.pend.length e3, .bool d.off, .int .i64 d.fuse] 49)
  replace hb := bt (bt hb hb3) (below_alloc w3 (.cells #[.slice A3 d.secs.length c3, .slice B3 d.pend.length e3, .bool d.off, .int .i64 d.fuse] 49))
  clear happ g1 g2 g3 g4 g5 g6 hb3 kr
  have xd := Bd.blk.cell
  have xe := Be.blk.cell
  have xf := kf.cell
  rcases hE with ⟨rfl, hk⟩ | ⟨rfl, hk, hp⟩ | rfl
  · subst hk
    go_wp2_with fail
    refine (refSame_w _ _ d _ Bd.is Be.is).mono ?_
    rintro e w4 ⟨rfl, hb4⟩
    replace kf := kf.below hb4
    replace hb := bt hb hb4
    clear xd xe xf hb4
    have xf := kf.cell
    go_wp2
    go_ret
    exact ⟨by simp, hb⟩
  · have hk1 : ((kind.toNat : Int) == 0) = false := by
      have : kind.toNat ≠ 0 := fun h => hk (UInt8.toNat_inj.1 (by simpa using h))
      simp; omega
    have hp1 : decide ((16384 : Int) < (p.size : Int)) = true := decide_eq_true (by omega)
    have hp2 : (16384 : Int) < (p.size : Int) := by omega
    go_wp2_with fail
    refine (refSame_w _ _ d _ Bd.is Be.is).mono ?_
    rintro e w4 ⟨rfl, hb4⟩
    replace kf := kf.below hb4
    replace hb := bt hb hb4
    clear xd xe xf hb4
    have xf := kf.cell
    go_wp2
    go_ret
    exact ⟨by simp, hb⟩
  · go_wp2_with fail
    refine (refSame_w _ _ d _ Bd.is Be.is).mono ?_
    rintro e w4 ⟨rfl, hb4⟩
    replace hb := bt hb hb4
    clear xd xe xf hb4
    go_wp2
    go_ret
    exact ⟨by simp, hb⟩
end Go.Proofs.Ytdgonhmipecjpaa
