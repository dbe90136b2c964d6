/- The walk of WalAppends. -/
import Derived.Test.YtdgonhmipecjpaaWalLives
import Derived.Test.YtdgonhmipecjpaaGL
import Derived.Test.YtdgonhmipecjpaaWalRefApp
import Derived.Test.YtdgonhmipecjpaaOwnIs
namespace Go.Proofs.Ytdgonhmipecjpaa
set_option linter.unusedSimpArgs false
set_option linter.unusedVariables false
open Go.RowKit Go.Shelf
open Crc
set_option maxRecDepth 100000 in
set_option maxHeartbeats 4000000 in
theorem walappends_w (A1 A2 : Option Addr) (c1 c2 : Nat) (d : Dk) (f s a : Int) (kind : UInt8) (epoch seq : Nat) (p : ByteArray) (w : World) (h1 : Texts w A1 d.secs) (h2 : Writes w A2 d.pend) (hl1 : d.secs.length * 16 ≤ 140737488351232) (hl2 : d.pend.length * 24 ≤ 140737488351232) (hf1 : -9223372036854775808 ≤ d.fuse) (hf2 : d.fuse ≤ 9223372036854775807)
    (hf : -9223372036854775808 ≤ f ∧ f ≤ 9223372036854775807) (hs : -9223372036854775808 ≤ s ∧ s ≤ 9223372036854775807) (ha : -9223372036854775808 ≤ a ∧ a ≤ 9223372036854775807) (he : epoch < 18446744073709551616) (hq : seq < 18446744073709551616) :
    Calls Try.prog 10 #[.agg #[.slice A1 d.secs.length c1, .slice A2 d.pend.length c2, .bool d.off, .int .i64 d.fuse], .agg #[.int .i64 f, .int .i64 s], .int .i64 a, .agg #[.int .u8 (kind.toNat : Int), .int .u64 (epoch : Int), .int .u64 (seq : Int), .string p]] w fun e w' => e = .returned (.bool true) ∧ Below w.heap.size w w' := by
  obtain ⟨W, HW, Bd, kr, kf, hb, hz⟩ := three_in w ⟨A1, c1, A2, c2, rfl, h1, h2, by omega, by omega, hf1, hf2⟩ f s kind epoch seq p
  have happ := fun W v hv => append_w v d f s a ⟨kind, epoch, seq, p.data.toList⟩ W hv hf hs ha
  have href := fun W v hv => refAppend_w v d f s a ⟨kind, epoch, seq, p.data.toList⟩ W hv hf hs ha he hq
  rw [frVal_mk] at happ href
  obtain ⟨D, HD⟩ := named (appD d f s a ⟨kind, epoch, seq, p.data.toList⟩)
  obtain ⟨M, HM⟩ := named (appN d f s a ⟨kind, epoch, seq, p.data.toList⟩)
  obtain ⟨E, HE⟩ := named (appE d f s a ⟨kind, epoch, seq, p.data.toList⟩)
  rw [← HD.out, ← HM.out, ← HE.out] at happ href
  clear HD HM HE
  have xd := Bd.blk.cell
  rw [HW.out] at xd
  go_enter Try.func10, Try.ntmps10
  go_wp2_with fail
  rw [← HW.out]
  clear HW hz xd
  refine (refCopy_w A1 A2 c1 c2 d W Bd.tx Bd.wr hl1 hl2 hf1 hf2).mono ?_
  rintro e w1 ⟨v1, rfl, ho, hb1⟩
  obtain ⟨A3, c3, B3, e3, rfl, g1, g2, g3, g4, g5, g6⟩ := ownDk_is ho
  have Bg := Box.new w1 ⟨A3, c3, B3, e3, rfl, g1, g2, g3, g4, g5, g6⟩
  replace Bd := (Bd.below hb1).alloc (.cells #[.slice A3 d.secs.length c3, .slice B3 d.pend.length e3, .bool d.off, .int .i64 d.fuse] 49)
  replace kr := (kr.below hb1).alloc (.cells #[.slice A3 d.secs.length c3, .slice B3 d.pend.length e3, .bool d.off, .int .i64 d.fuse] 49)
  replace kf := (kf.below hb1).alloc (.cells #[.slice A3 d.secs.length c3, .slice B3 d.pend.length e3, .bool d.off, .int .i64 d.fuse] 49)
  replace hb := bt (bt hb hb1) (below_alloc w1 (.cells #[.slice A3 d.secs.length c3, .slice B3 d.pend.length e3, .bool d.off, .int .i64 d.fuse] 49))
  clear ho hb1 g1 g2 g3 g4 g5 g6 h1 h2
  have xg := Bg.blk.cell
  have xr := kr.cell
  have xf := kf.cell
  go_wp2_with fail
  obtain ⟨W1, HW1⟩ := named (w1.alloc (.cells #[.slice A3 d.secs.length c3, .slice B3 d.pend.length e3, .bool d.off, .int .i64 d.fuse] 49))
  obtain ⟨N1, HN1⟩ := named w1.heap.size
  rw [← HN1.out] at Bg ⊢
  rw [← HW1.out] at Bd Bg kr kf hb ⊢
  clear xg xr xf HN1 HW1
  refine (happ _ _ Bg.is).mono ?_
  rintro e w2 ⟨v2, rfl, ⟨A4, c4, B4, e4, rfl, g1, g2, g3, g4, g5, g6⟩, hb2⟩
  have Be := Box.new w2 ⟨A4, c4, B4, e4, rfl, g1, g2, g3, g4, g5, g6⟩
  replace Bd := (Bd.below hb2).alloc (.cells #[.slice A4 D.secs.length c4, .slice B4 D.pend.length e4, .bool D.off, .int .i64 D.fuse] 49)
  replace Bg := (Bg.below hb2).alloc (.cells #[.slice A4 D.secs.length c4, .slice B4 D.pend.length e4, .bool D.off, .int .i64 D.fuse] 49)
  replace kr := (kr.below hb2).alloc (.cells #[.slice A4 D.secs.length c4, .slice B4 D.pend.length e4, .bool D.off, .int .i64 D.fuse] 49)
  replace kf := (kf.below hb2).alloc (.cells #[.slice A4 D.secs.length c4, .slice B4 D.pend.length e4, .bool D.off, .int .i64 D.fuse] 49)
  replace hb := bt (bt hb hb2) (below_alloc w2 (.cells #[.slice A4 D.secs.length c4, .slice B4 D.pend.length e4, .bool D.off, .int .i64 D.fuse] 49))
  clear happ hb2 g1 g2 g3 g4 g5 g6
  have xd := Bd.blk.cell
  have xr := kr.cell
  have xf := kf.cell
  go_wp2_with fail
  obtain ⟨W2, HW2⟩ := named (w2.alloc (.cells #[.slice A4 D.secs.length c4, .slice B4 D.pend.length e4, .bool D.off, .int .i64 D.fuse] 49))
  obtain ⟨N2, HN2⟩ := named w2.heap.size
  rw [← HN2.out] at Be ⊢
  rw [← HW2.out] at Bd Bg Be kr kf hb ⊢
  clear xd xr xf HN2 HW2
  refine (href _ _ Bd.is).mono ?_
  rintro e w3 ⟨v3, rfl, ⟨A5, c5, B5, e5, rfl, g1, g2, g3, g4, g5, g6⟩, hb3⟩
  have Bb := Box.new w3 ⟨A5, c5, B5, e5, rfl, g1, g2, g3, g4, g5, g6⟩
  replace Bd := (Bd.below hb3).alloc (.cells #[.slice A5 D.secs.length c5, .slice B5 D.pend.length e5, .bool D.off, .int .i64 D.fuse] 49)
  replace Bg := (Bg.below hb3).alloc (.cells #[.slice A5 D.secs.length c5, .slice B5 D.pend.length e5, .bool D.off, .int .i64 D.fuse] 49)
  replace Be := (Be.below hb3).alloc (.cells #[.slice A5 D.secs.length c5, .slice B5 D.pend.length e5, .bool D.off, .int .i64 D.fuse] 49)
  replace hb := bt (bt hb hb3) (below_alloc w3 (.cells #[.slice A5 D.secs.length c5, .slice B5 D.pend.length e5, .bool D.off, .int .i64 D.fuse] 49))
  clear href hb3 g1 g2 g3 g4 g5 g6 kr kf
  go_wp2_with fail
  obtain ⟨W3, HW3⟩ := named (w3.alloc (.cells #[.slice A5 D.secs.length c5, .slice B5 D.pend.length e5, .bool D.off, .int .i64 D.fuse] 49))
  obtain ⟨N3, HN3⟩ := named w3.heap.size
  rw [← HN3.out] at Bb ⊢
  rw [← HW3.out] at Bd Bg Be Bb hb ⊢
  clear HN3 HW3
  refine (lives4_w _).mono ?_
  rintro e w4 ⟨rfl, hb4⟩
  replace Bd := Bd.below hb4
  replace Bg := Bg.below hb4
  replace Be := Be.below hb4
  replace Bb := Bb.below hb4
  replace hb := bt hb hb4
  clear hb4
  have xe := Be.blk.cell
  have xb := Bb.blk.cell
  go_wp2_with fail
  refine (refSame_w _ _ D _ Be.is Bb.is).mono ?_
  rintro e w5 ⟨rfl, hb5⟩
  replace Bd := Bd.below hb5
  replace Bg := Bg.below hb5
  replace hb := bt hb hb5
  clear hb5 xe xb Be Bb
  have xg := Bg.blk.cell
  have xd := Bd.blk.cell
  go_wp2_with fail
  refine (refSame_w _ _ d _ Bg.is Bd.is).mono ?_
  rintro e w6 ⟨rfl, hb6⟩
  replace hb := bt hb hb6
  clear hb6 xg xd
  go_wp2
  go_ret
  exact ⟨by simp, hb⟩
end Go.Proofs.Ytdgonhmipecjpaa
