/- The walk of TopLogs. -/
import Derived.Test.YtdgonhmipecjpaaRowFr
import Derived.Test.YtdgonhmipecjpaaTopBegins
import Derived.Test.YtdgonhmipecjpaaWalAppend
import Derived.Test.YtdgonhmipecjpaaGL
import Derived.Test.YtdgonhmipecjpaaLawInts
import Derived.Deep.DeepCutAuto
import Derived.Deep.CutBlock
import Derived.Test.YtdgonhmipecjpaaWalSame
import Derived.Test.YtdgonhmipecjpaaFlat
namespace Go.Proofs.Ytdgonhmipecjpaa
set_option linter.unusedSimpArgs false
set_option linter.unusedVariables false
open Go.RowKit Go.Shelf
open Crc
theorem frame_zero : ∀ u ∈ (Value.agg #[.int .u8 0, .int .u64 0, .int .u64 0, .string ⟨#[]⟩]).cells, ∀ s, u = Value.string s → s.size = 0 := by
  intro u hu s e
  subst e
  simp [Value.cells] at hu
  subst hu
  rfl
theorem Box.setFuse {w : World} {N : Nat} {A1 A2 : Option Addr} {c1 c2 : Nat} {d : Dk} (h : Box w N A1 c1 A2 c2 d) (g : Int) (h1 : -9223372036854775808 ≤ g) (h2 : g ≤ 9223372036854775807) : Box (w.setCell ⟨N, 3, none⟩ (.int .i64 g)) N A1 c1 A2 c2 ⟨d.secs, d.pend, d.off, g⟩ :=
  ⟨h.blk.set 3 _, lies_off h.tx (p := ⟨N, 3, none⟩) (strs_off h.tx h.blk) _, lies_off h.wr (p := ⟨N, 3, none⟩) (wrs_off h.wr h.blk) _, h.l1, h.l2, h1, h2⟩
theorem frs_more (want : List Fr) (ep : Nat) (p : ByteArray) : frs want ++ [.int .u8 1, .int .u64 (ep : Int), .int .u64 (want.length : Int), .string p] = frs (want ++ [⟨1, ep, want.length, p.data.toList⟩]) := by
  rw [frs_append]
  simp [frs, frCells, str_of]

set_option maxRecDepth 100000 in
set_option maxHeartbeats 3000000 in
theorem toplogs_w (size : Int) (A : Option Addr) (ca : Nat) (l : List ByteArray) (Af : Option Addr) (cf : Nat) (fs : List Int) (Ak : Option Addr) (ck : Nat) (keep : List Bool) (w : World) (hsz : -9223372036854775808 ≤ size ∧ size ≤ 9223372036854775807) (hl : Texts w A l) (hll : l.length ≤ 140737488351232)
    (hfs : Ints w Af fs ∧ (∀ x ∈ fs, -9223372036854775808 ≤ x ∧ x ≤ 9223372036854775807)) (hfl : fs.length ≤ 140737488351232) (hk : Bools w Ak keep) :
    Calls Try.prog 6 #[.int .i64 size, .slice A l.length ca, .slice Af fs.length cf, .slice Ak keep.length ck] w fun e w' => e = .returned (.bool true) ∧ Below w.heap.size w w' := by
  have hnew := fun W => new_w size W hsz
  obtain ⟨hfs, hfb⟩ := hfs
  by_cases hn : 1 ≤ size ∧ size ≤ 1024
  case neg =>
    have e1 : newE size = 1 := by simp [newE, hn]
    obtain ⟨D0, H0⟩ := named (newD size)
    simp only [e1, ← H0.out] at hnew
    clear H0 e1
    go_enter Try.func6, Try.ntmps6
    go_wp2_with fail
    refine (begins_w _).mono ?_
    rintro e w0 ⟨rfl, hb0⟩
    go_wp2_with fail
    refine (hnew _).mono ?_
    rintro e w1 ⟨v1, rfl, ⟨A1, c1, B1, e1, rfl, g1, g2, g3, g4, g5, g6⟩, hb1⟩
    have hb := bt (bt hb0 hb1) (below_alloc w1 (.cells #[.slice A1 D0.secs.length c1, .slice B1 D0.pend.length e1, .bool D0.off, .int .i64 D0.fuse] 49))
    clear g1 g2 g3 g4 g5 g6 hnew
    go_wp2
    go_ret
    exact ⟨by simp, hb⟩
  obtain ⟨n, rfl⟩ := Int.eq_ofNat_of_zero_le (show 0 ≤ size by omega)
  have hn1 : 1 ≤ n ∧ n ≤ 1024 := by omega
  have e1 : newE (n : Int) = 0 := by simp [newE, hn]
  have hL0 := new_log n 3 hn1.1 hn1.2
  obtain ⟨D0, H0⟩ := named (newD (n : Int))
  rw [← H0.out] at hL0
  simp only [e1, ← H0.out] at hnew
  clear H0 e1 hn hsz
  by_cases h40 : 40 < l.length
  case pos =>
    have h40' : (40 : Int) < (l.length : Int) := by omega
    clear hL0
    go_enter Try.func6, Try.ntmps6
    go_wp2_with fail
    refine (begins_w _).mono ?_
    rintro e w0 ⟨rfl, hb0⟩
    go_wp2_with fail
    refine (hnew _).mono ?_
    rintro e w1 ⟨v1, rfl, ⟨A1, c1, B1, e1, rfl, g1, g2, g3, g4, g5, g6⟩, hb1⟩
    have hb := bt (bt hb0 hb1) (below_alloc w1 (.cells #[.slice A1 D0.secs.length c1, .slice B1 D0.pend.length e1, .bool D0.off, .int .i64 D0.fuse] 49))
    clear g1 g2 g3 g4 g5 g6 hnew
    go_wp2
    go_ret
    exact ⟨by simp, hb⟩
  have h40' : (l.length : Int) ≤ 40 := by omega
  have h41 : l.length ≤ 40 := by omega
  clear h40
  have hscan : ∀ (W : World) (v : Value) (D : Dk) (want : List Fr) (b : Nat), LogOn D n 3 want b → want.length ≤ 1024 → DkIs W v D → Calls Try.prog 30 #[v, .agg #[.int .i64 0, .int .i64 (n : Int)], .int .u64 3] W fun e w' => (∃ A c, e = .returned (.tuple #[.slice A want.length c, .int .i64 (b : Int), .int .i64 0]) ∧ Frames w' A want) ∧ Below W.heap.size W w' := fun W v D want b hL hw hv => by
    have h := scan_yes v D 0 n 3 W hv hL.rt hL.on hn1.1 (by rw [hL.size]; omega) (by omega)
    rw [hL.log hw] at h
    exact h
  have HS := hide hscan
  have HL0 := hide hL0
  clear hscan hL0
  obtain ⟨j0, hj, hy0, hy1, hy2⟩ := info_parts Try.info24
  go_enter Try.func6, Try.ntmps6
  go_wp2_with fail
  refine (begins_w _).mono ?_
  rintro e w0 ⟨rfl, hb0⟩
  go_wp2_with fail
  refine (hnew _).mono ?_
  rintro e w1 ⟨v1, rfl, ⟨A1, c1, B1, e1, rfl, g1, g2, g3, g4, g5, g6⟩, hb1⟩
  have Bd := Box.new w1 ⟨A1, c1, B1, e1, rfl, g1, g2, g3, g4, g5, g6⟩
  have hN : w.heap.size ≤ w1.heap.size := Nat.le_trans hb0.size hb1.size
  have hb := bt (bt hb0 hb1) (below_alloc w1 (.cells #[.slice A1 D0.secs.length c1, .slice B1 D0.pend.length e1, .bool D0.off, .int .i64 D0.fuse] 49))
  have kr := Blk.new (w1.alloc (.cells #[.slice A1 D0.secs.length c1, .slice B1 D0.pend.length e1, .bool D0.off, .int .i64 D0.fuse] 49)) [.int .i64 0, .int .i64 (n : Int)] 53
  rw [show (w1.alloc (.cells #[.slice A1 D0.secs.length c1, .slice B1 D0.pend.length e1, .bool D0.off, .int .i64 D0.fuse] 49)).heap.size = w1.heap.size + 1 by simp] at kr
  replace Bd := Bd.alloc (.cells #[.int .i64 0, .int .i64 (n : Int)] 53)
  replace hb := bt hb (below_alloc _ (.cells #[.int .i64 0, .int .i64 (n : Int)] 53))
  clear hnew hb0 hb1 g1 g2 g3 g4 g5 g6
  go_wp2_with fail
  obtain ⟨N, HN⟩ := named w1.heap.size
  obtain ⟨W1, HW1⟩ := named ((w1.alloc (.cells #[.slice A1 D0.secs.length c1, .slice B1 D0.pend.length e1, .bool D0.off, .int .i64 D0.fuse] 49)).alloc (.cells #[.int .i64 0, .int .i64 (n : Int)] 53))
  rw [← HN.out] at Bd hN kr ⊢
  rw [← HW1.out] at Bd hb kr ⊢
  clear HN HW1
  go_loopw [12, 13, 52] (fun x a i wr => ∃ (k : Nat) (D : Dk) (want : List Fr) (b : Nat) (A1 : Option Addr) (c1 : Nat) (B1 : Option Addr) (e1 : Nat), k ≤ l.length ∧ i = .int .i64 (k : Int) ∧ a = .int .i64 (b : Int) ∧ want.length ≤ k ∧ Row0 wr w.heap.size 24 4 x want.length (frs want) ∧ Box wr N A1 c1 B1 e1 D ∧ LogOn D n 3 want b ∧ Blk wr (N + 1) [.int .i64 0, .int .i64 (n : Int)] 53 ∧ Below w.heap.size w wr) (fun _ _ i _ => l.length - (intOf i).toNat)
  case atStart => exact ⟨0, D0, [], 0, A1, c1, B1, e1, by omega, rfl, rfl, by simp, Row0.nil _ _ _ _, Bd, HL0.out, kr, hb⟩
  case round =>
    clear Bd kr hb HL0
    obtain ⟨k, D, want, b, A1, c1, B1, e1, hkl, rfl, rfl, hwk, hrow, Bd, hL, kr, hb⟩ := hrel
    by_cases hlt : k < l.length
    case neg =>
      obtain rfl : k = l.length := by omega
      go_wp2
      go_ret
      exact ⟨by simp, hb⟩
    obtain ⟨pb, po, rfl, hp⟩ := Texts.at_ (Lies.below hl hb) hlt
    obtain ⟨p, HP⟩ := named l[k]
    rw [← HP.out] at hp
    obtain ⟨WA, wc, rfl, hwc, _, hwl, _⟩ := Lies.of_own hrow.1
    have hlt' : (k : Int) < (l.length : Int) := by omega
    have hk0 : (0 : Int) ≤ (k : Int) := by omega
    have hwl9 : IntKind.u64.wrap (want.length : Int) = (want.length : Int) := wrap_u64_nat _ (by omega)
    have kf := Blk.new wr [.int .u8 1, .int .u64 3, .int .u64 (want.length : Int), .string p] 24
    replace Bd := Bd.alloc (.cells #[.int .u8 1, .int .u64 3, .int .u64 (want.length : Int), .string p] 24)
    replace kr := kr.alloc (.cells #[.int .u8 1, .int .u64 3, .int .u64 (want.length : Int), .string p] 24)
    replace hrow := hrow.alloc (.cells #[.int .u8 1, .int .u64 3, .int .u64 (want.length : Int), .string p] 24)
    have hF : w.heap.size ≤ wr.heap.size := hb.size
    replace hb := bt hb (below_alloc _ (.cells #[.int .u8 1, .int .u64 3, .int .u64 (want.length : Int), .string p] 24))
    have hNF : N ≠ wr.heap.size := by have := kr.lt; simp at this; omega
    have hRN : N + 1 ≠ N := by omega
    clear HP hwl hwc
    go_upto_region 13 with fail
    obtain ⟨F, HF⟩ := named wr.heap.size
    obtain ⟨W2, HW2⟩ := named (wr.alloc (.cells #[.int .u8 1, .int .u64 3, .int .u64 (want.length : Int), .string p] 24))
    rw [← HF.out] at kf hNF hF ⊢
    rw [← HW2.out] at kf Bd kr hrow hb ⊢
    clear HF HW2 hp
    have xd := Bd.blk.cell
    have fd := Bd.blk.free
    have Bm := Bd.setFuse (-1) (by omega) (by omega)
    have kfm := kf.far (p := ⟨N, 3, none⟩) (fun e => hNF e.symm) (.int .i64 (-1))
    have Bm' : Box (W2.setCell ⟨N, 3, none⟩ (.int .i64 (-1))) N A1 c1 B1 e1 ⟨D.secs, D.pend, D.off, -1⟩ := Bm
    have krm := kr.far (p := ⟨N, 3, none⟩) hRN (.int .i64 (-1))
    have hrm := hrow.far3 Bd.blk (.int .i64 (-1))
    have hbm := hb.setCell (p := ⟨N, 3, none⟩) hN (.int .i64 (-1))
    go_upto_region 14 with fail
    obtain ⟨W3, HW3⟩ := named (W2.setCell ⟨N, 3, none⟩ (.int .i64 (-1)))
    rw [← HW3.out] at Bm' krm hrm hbm kfm ⊢
    clear HW3 xd fd Bm Bd kr hrow hb kf
    by_cases hfk : k < fs.length
    · have hfk' : (k : Int) < (fs.length : Int) := by omega
      obtain ⟨fb, fo, rfl, hfc⟩ := Ints.at_ (Lies.below hfs hbm) hfk
      have hxb := hfb fs[k] (List.getElem_mem hfk)
      obtain ⟨x, HX⟩ := named fs[k]
      rw [← HX.out] at hfc hxb
      obtain ⟨g, HG⟩ := named (max x (-1))
      have hg1 : -9223372036854775808 ≤ g := by rw [HG.out]; omega
      have hg2 : g ≤ 9223372036854775807 := by rw [HG.out]; omega
      have xd := Bm'.blk.cell
      have fd := Bm'.blk.free
      clear HX hfb
      go_upto_region 16 with fail
      have Bd : Box (W3.setCell ⟨N, 3, none⟩ (.int .i64 g)) N A1 c1 B1 e1 ⟨D.secs, D.pend, D.off, g⟩ := Bm'.setFuse g hg1 hg2
      have kr := krm.far (p := ⟨N, 3, none⟩) hRN (.int .i64 g)
      have kf := kfm.far (p := ⟨N, 3, none⟩) (fun e => hNF e.symm) (.int .i64 g)
      have hrow := hrm.far3 Bm'.blk (.int .i64 g)
      have hb := hbm.setCell (p := ⟨N, 3, none⟩) hN (.int .i64 g)
      have hL4 : LogOn ⟨D.secs, D.pend, D.off, g⟩ n 3 want b := hL.fuse g
      rw [← HG.out]
      obtain ⟨W4, HW4⟩ := named (W3.setCell ⟨N, 3, none⟩ (.int .i64 g))
      obtain ⟨D4, HD4⟩ := named (⟨D.secs, D.pend, D.off, g⟩ : Dk)
      rw [← HD4.out] at Bd hL4
      rw [← HW4.out] at Bd kr kf hrow hb ⊢
      clear HD4 HW4 HG hg1 hg2 hfk hfk' hfc hxb xd fd Bm' krm kfm hrm hbm hL
      have hfv : frVal ⟨1, 3, want.length, p.data.toList⟩ = .agg #[.int .u8 1, .int .u64 3, .int .u64 (want.length : Int), .string p] := by rw [frVal_mk]; rfl
      have happ := append_w _ D4 0 (n : Int) (b : Int) ⟨1, 3, want.length, p.data.toList⟩ W4 Bd.is (by omega) (by omega) (by have := hL4.room; omega)
      have hst := hL4.step p keep (by omega) (by omega)
      rw [hfv] at happ
      obtain ⟨D5, HD5⟩ := named (appD D4 0 n b ⟨1, 3, want.length, p.data.toList⟩)
      obtain ⟨M5, HM5⟩ := named (appN D4 0 n b ⟨1, 3, want.length, p.data.toList⟩)
      obtain ⟨E5, HE5⟩ := named (appE D4 0 n b ⟨1, 3, want.length, p.data.toList⟩)
      rw [← HD5.out, ← HM5.out, ← HE5.out] at happ hst
      have HST := hide hst
      have xd := Bd.blk.cell
      have xr := kr.cell
      have xf := kf.cell
      clear HD5 HM5 HE5 hst hfv
      go_wp2_with fail
      clear xd xr xf
      refine happ.mono ?_
      rintro e w5 ⟨v5, rfl, ⟨A5, c5, B5, e5, rfl, g1, g2, g3, g4, g5, g6⟩, hb5⟩
      have Be := Box.new w5 ⟨A5, c5, B5, e5, rfl, g1, g2, g3, g4, g5, g6⟩
      have hNE : N ≠ w5.heap.size := by have h1 := hb5.size; have h2 := Bd.lt; omega
      have hRE : N + 1 ≠ w5.heap.size := by have h1 := hb5.size; have h2 := kr.lt; omega
      have hFE : F ≠ w5.heap.size := by have h1 := hb5.size; have h2 := kf.lt; omega
      replace Bd := (Bd.below hb5).alloc (.cells #[.slice A5 D5.secs.length c5, .slice B5 D5.pend.length e5, .bool D5.off, .int .i64 D5.fuse] 49)
      replace kr := (kr.below hb5).alloc (.cells #[.slice A5 D5.secs.length c5, .slice B5 D5.pend.length e5, .bool D5.off, .int .i64 D5.fuse] 49)
      replace kf := (kf.below hb5).alloc (.cells #[.slice A5 D5.secs.length c5, .slice B5 D5.pend.length e5, .bool D5.off, .int .i64 D5.fuse] 49)
      replace hrow := (hrow.below hb5).alloc (.cells #[.slice A5 D5.secs.length c5, .slice B5 D5.pend.length e5, .bool D5.off, .int .i64 D5.fuse] 49)
      have hE9 : w.heap.size ≤ w5.heap.size := Nat.le_trans hb.size hb5.size
      replace hb := bt (bt hb hb5) (below_alloc w5 (.cells #[.slice A5 D5.secs.length c5, .slice B5 D5.pend.length e5, .bool D5.off, .int .i64 D5.fuse] 49))
      clear happ hb5 g1 g2 g3 g4 g5 g6
      go_upto_region 17 with fail
      obtain ⟨E, HEb⟩ := named w5.heap.size
      obtain ⟨W5, HW5⟩ := named (w5.alloc (.cells #[.slice A5 D5.secs.length c5, .slice B5 D5.pend.length e5, .bool D5.off, .int .i64 D5.fuse] 49))
      rw [← HEb.out] at Be hNE hRE hFE hE9 ⊢
      rw [← HW5.out] at Bd Be kr kf hrow hb ⊢
      clear HEb HW5
      go_upto_block 2 with fail
      go_cut [12, 13] (fun x a wx => ∃ (W' : List Fr) (b' : Nat) (D' : Dk) (A6 : Option Addr) (c6 : Nat) (B6 : Option Addr) (e6 : Nat), a = .int .i64 (b' : Int) ∧ W'.length ≤ k + 1 ∧ Row0 wx w.heap.size 24 4 x W'.length (frs W') ∧ Box wx E A6 c6 B6 e6 D' ∧ LogOn D' n 3 W' b' ∧ Box wx N A1 c1 B1 e1 D4 ∧ Blk wx (N + 1) [.int .i64 0, .int .i64 (n : Int)] 53 ∧ Below w.heap.size w wx)
      case first =>
        rcases HST.out with ⟨q, hE, hM, hL5⟩ | ⟨hE, hM, _, W, q, hWw, hL5⟩ | ⟨hE, hD, hM⟩
        · subst hE
          subst hM
          clear HST
          have xf := kf.cell
          have hrowA := hrow.alloc (.cells #[.int .u8 1, .int .u64 3, .int .u64 (want.length : Int), .string p] 24)
          clear HS
          go_wp2_with (at_builtin; refine wpList_append_row0 _ rfl (.tmp 85) (.tmp 87) _ rfl w.heap.size 24 j0 _ 4 40 Try.underlying54 hj hy0 hy1 hy2 rfl (by omega) frame_zero (.slice WA want.length wc) want.length (frs want) rfl hrowA ⟨W5.heap.size, 0, none⟩ 1 1 [.int .u8 1, .int .u64 3, .int .u64 (want.length : Int), .string p] rfl rfl (World.news_of_block (cs := #[.int .u8 1, .int .u64 3, .int .u64 (want.length : Int), .string p]) (t := 24) (fr := (0, 0)) (heap_alloc_new W5 _)) (by intro u hu; simp at hu; rcases hu with rfl | rfl | rfl | rfl <;> rfl) (by omega) (by simp only [maxLen]; omega) (by omega) (by have := hb.size; simp; omega) ?_; intro gg cap w6 hrow6 hgrow6 hst6)
          have Bd6 := (Bd.alloc (.cells #[.int .u8 1, .int .u64 3, .int .u64 (want.length : Int), .string p] 24)).stays hL4.rt hL4.none hrowA hgrow6 hst6
          have Be6 := (Be.alloc (.cells #[.int .u8 1, .int .u64 3, .int .u64 (want.length : Int), .string p] 24)).stays hL5.rt hL5.none hrowA hgrow6 hst6
          have kr6 := blk_grown (kr.alloc (.cells #[.int .u8 1, .int .u64 3, .int .u64 (want.length : Int), .string p] 24)) hrowA.1 hgrow6 (by decide)
          have hb6 := (bt hb (below_alloc W5 (.cells #[.int .u8 1, .int .u64 3, .int .u64 (want.length : Int), .string p] 24))).grown hgrow6 (by have := hb.size; simp; omega) (fun k' e => (hrowA.1.lt k' e).1)
          clear xf
          go_wp2
          go_meet
          case rel => exact ⟨want ++ [⟨1, 3, want.length, p.data.toList⟩], q, D5, A5, c5, B5, e5, rfl, by rw [List.length_append, List.length_singleton]; omega, by rw [List.length_append, List.length_singleton, ← frs_more]; exact hrow6, Be6, hL5, Bd6, kr6, hb6⟩
        · subst hE
          subst hM
          clear HST
          rcases hWw with hWw | hWw
          · rw [hWw] at hL5
            clear hWw
            have xe := Be.blk.cell
            have hcr := crash_w _ Ak ck D5 keep W5 Be.is (Lies.below hk hb)
            obtain ⟨D6, HD6⟩ := named (crashD D5 keep)
            obtain ⟨E6, HE6⟩ := named (checkE D5)
            rw [← HD6.out, ← HE6.out] at hcr
            rw [← HD6.out] at hL5
            have hrow5 := hrow
            have hsc := fun W v hv => HS.out W v D6 want q hL5 (by omega) hv
            skip
            clear HD6 HE6
            go_wp2_with fail
            clear xe
            refine hcr.mono ?_
            rintro e w6 ⟨v6, rfl, ⟨A6, c6, B6, e6, rfl, t1, t2, l1, l2, f1, f2⟩, hb6⟩
            have By := Be.below hb6
            have Bz := Box.set (d' := D6) (e1 := c6) (e2 := e6) By t1 t2 l1 l2 f1 f2
            have Bdz := (Bd.below hb6).far4 By.blk hNE (.slice A6 D6.secs.length c6) (.slice B6 D6.pend.length e6) (.bool D6.off) (.int .i64 D6.fuse)
            have krz := (kr.below hb6).far4 hRE (.slice A6 D6.secs.length c6) (.slice B6 D6.pend.length e6) (.bool D6.off) (.int .i64 D6.fuse)
            have kfz := (kf.below hb6).far4 hFE (.slice A6 D6.secs.length c6) (.slice B6 D6.pend.length e6) (.bool D6.off) (.int .i64 D6.fuse)
            have hrz := (hrow.below hb6).far4 By.blk (.slice A6 D6.secs.length c6) (.slice B6 D6.pend.length e6) (.bool D6.off) (.int .i64 D6.fuse)
            have hbz := below4 (bt hb hb6) hE9 (.slice A6 D6.secs.length c6) (.slice B6 D6.pend.length e6) (.bool D6.off) (.int .i64 D6.fuse)
            have xe := By.blk.cell
            have fe := By.blk.free
            clear hcr t1 t2 l1 l2 f1 f2
            go_upto_region 24 with fail
            obtain ⟨W7, HW7⟩ := named ((((w6.setCell ⟨E, 0, none⟩ (.slice A6 D6.secs.length c6)).setCell ⟨E, 1, none⟩ (.slice B6 D6.pend.length e6)).setCell ⟨E, 2, none⟩ (.bool D6.off)).setCell ⟨E, 3, none⟩ (.int .i64 D6.fuse))
            have Be7 : Box W7 E A6 c6 B6 e6 D6 := by rw [HW7.out]; exact Bz
            have Bd7 : Box W7 N A1 c1 B1 e1 D4 := by rw [HW7.out]; exact Bdz
            have kr7 : Blk W7 (N + 1) [.int .i64 0, .int .i64 (n : Int)] 53 := by rw [HW7.out]; exact krz
            have kf7 : Blk W7 F [.int .u8 1, .int .u64 3, .int .u64 (want.length : Int), .string p] 24 := by rw [HW7.out]; exact kfz
            have hr7 : Row0 W7 w.heap.size 24 4 (.slice WA want.length wc) want.length (frs want) := by rw [HW7.out]; exact hrz
            have hb7 : Below w.heap.size w W7 := by rw [HW7.out]; exact hbz
            rw [← HW7.out]
            clear HW7 Bz Bdz krz kfz hrz hbz By xe fe hb6 Be Bd kr kf hrow hb hrow5
            have xe := Be7.blk.cell
            have xr := kr7.cell
            go_wp2_with fail
            clear xe xr
            refine (hsc _ _ Be7.is).mono ?_
            rintro e w8 ⟨⟨SA, sc, rfl, hSF⟩, hb8⟩
            have Be := Be7.below hb8
            have Bd := Bd7.below hb8
            have kr := kr7.below hb8
            have kf := kf7.below hb8
            have hrow := hr7.below hb8
            have hb := bt hb7 hb8
            clear hsc hb8 Be7 Bd7 kr7 kf7 hr7 hb7 hSF
            go_wp2
            go_meet
            case rel => exact ⟨want, q, D6, A6, c6, B6, e6, rfl, by omega, hrow, Be, hL5, Bd, kr, hb⟩
          · rw [hWw] at hL5
            clear hWw
            have xe := Be.blk.cell
            have hcr := crash_w _ Ak ck D5 keep W5 Be.is (Lies.below hk hb)
            obtain ⟨D6, HD6⟩ := named (crashD D5 keep)
            obtain ⟨E6, HE6⟩ := named (checkE D5)
            rw [← HD6.out, ← HE6.out] at hcr
            rw [← HD6.out] at hL5
            have hrow5 := hrow
            have hsc := fun W v hv => HS.out W v D6 (want ++ [⟨1, 3, want.length, p.data.toList⟩]) q hL5 (by rw [List.length_append, List.length_singleton]; omega) hv
            rw [show (want ++ [(⟨1, 3, want.length, p.data.toList⟩ : Fr)]).length = want.length + 1 by simp] at hsc
            clear HD6 HE6
            go_wp2_with fail
            clear xe
            refine hcr.mono ?_
            rintro e w6 ⟨v6, rfl, ⟨A6, c6, B6, e6, rfl, t1, t2, l1, l2, f1, f2⟩, hb6⟩
            have By := Be.below hb6
            have Bz := Box.set (d' := D6) (e1 := c6) (e2 := e6) By t1 t2 l1 l2 f1 f2
            have Bdz := (Bd.below hb6).far4 By.blk hNE (.slice A6 D6.secs.length c6) (.slice B6 D6.pend.length e6) (.bool D6.off) (.int .i64 D6.fuse)
            have krz := (kr.below hb6).far4 hRE (.slice A6 D6.secs.length c6) (.slice B6 D6.pend.length e6) (.bool D6.off) (.int .i64 D6.fuse)
            have kfz := (kf.below hb6).far4 hFE (.slice A6 D6.secs.length c6) (.slice B6 D6.pend.length e6) (.bool D6.off) (.int .i64 D6.fuse)
            have hrz := (hrow.below hb6).far4 By.blk (.slice A6 D6.secs.length c6) (.slice B6 D6.pend.length e6) (.bool D6.off) (.int .i64 D6.fuse)
            have hbz := below4 (bt hb hb6) hE9 (.slice A6 D6.secs.length c6) (.slice B6 D6.pend.length e6) (.bool D6.off) (.int .i64 D6.fuse)
            have xe := By.blk.cell
            have fe := By.blk.free
            clear hcr t1 t2 l1 l2 f1 f2
            go_upto_region 24 with fail
            obtain ⟨W7, HW7⟩ := named ((((w6.setCell ⟨E, 0, none⟩ (.slice A6 D6.secs.length c6)).setCell ⟨E, 1, none⟩ (.slice B6 D6.pend.length e6)).setCell ⟨E, 2, none⟩ (.bool D6.off)).setCell ⟨E, 3, none⟩ (.int .i64 D6.fuse))
            have Be7 : Box W7 E A6 c6 B6 e6 D6 := by rw [HW7.out]; exact Bz
            have Bd7 : Box W7 N A1 c1 B1 e1 D4 := by rw [HW7.out]; exact Bdz
            have kr7 : Blk W7 (N + 1) [.int .i64 0, .int .i64 (n : Int)] 53 := by rw [HW7.out]; exact krz
            have kf7 : Blk W7 F [.int .u8 1, .int .u64 3, .int .u64 (want.length : Int), .string p] 24 := by rw [HW7.out]; exact kfz
            have hr7 : Row0 W7 w.heap.size 24 4 (.slice WA want.length wc) want.length (frs want) := by rw [HW7.out]; exact hrz
            have hb7 : Below w.heap.size w W7 := by rw [HW7.out]; exact hbz
            rw [← HW7.out]
            clear HW7 Bz Bdz krz kfz hrz hbz By xe fe hb6 Be Bd kr kf hrow hb hrow5
            have xe := Be7.blk.cell
            have xr := kr7.cell
            go_wp2_with fail
            clear xe xr
            refine (hsc _ _ Be7.is).mono ?_
            rintro e w8 ⟨⟨SA, sc, rfl, hSF⟩, hb8⟩
            have Be := Be7.below hb8
            have Bd := Bd7.below hb8
            have kr := kr7.below hb8
            have kf := kf7.below hb8
            have hrow := hr7.below hb8
            have hb := bt hb7 hb8
            clear hsc hb8 Be7 Bd7 kr7 kf7 hr7 hb7 hSF
            have xf := kf.cell
            have hrowA := hrow.alloc (.cells #[.int .u8 1, .int .u64 3, .int .u64 (want.length : Int), .string p] 24)
            clear HS
            have hlq1 : ¬ ((want.length : Int) + 1 < (want.length : Int)) := by omega
            have hlq2 : (want.length : Int) < (want.length : Int) + 1 := by omega
            go_wp2_with (at_builtin; refine wpList_append_row0 _ rfl (.tmp 127) (.tmp 129) _ rfl w.heap.size 24 j0 _ 4 40 Try.underlying54 hj hy0 hy1 hy2 rfl (by omega) frame_zero (.slice WA want.length wc) want.length (frs want) rfl hrowA ⟨w8.heap.size, 0, none⟩ 1 1 [.int .u8 1, .int .u64 3, .int .u64 (want.length : Int), .string p] rfl rfl (World.news_of_block (cs := #[.int .u8 1, .int .u64 3, .int .u64 (want.length : Int), .string p]) (t := 24) (fr := (0, 0)) (heap_alloc_new w8 _)) (by intro u hu; simp at hu; rcases hu with rfl | rfl | rfl | rfl <;> rfl) (by omega) (by simp only [maxLen]; omega) (by omega) (by have := hb.size; simp; omega) ?_; intro gg cap w6 hrow6 hgrow6 hst6)
            have Bd6 := (Bd.alloc (.cells #[.int .u8 1, .int .u64 3, .int .u64 (want.length : Int), .string p] 24)).stays hL4.rt hL4.none hrowA hgrow6 hst6
            have Be6 := (Be.alloc (.cells #[.int .u8 1, .int .u64 3, .int .u64 (want.length : Int), .string p] 24)).stays hL5.rt hL5.none hrowA hgrow6 hst6
            have kr6 := blk_grown (kr.alloc (.cells #[.int .u8 1, .int .u64 3, .int .u64 (want.length : Int), .string p] 24)) hrowA.1 hgrow6 (by decide)
            have hb6 := (bt hb (below_alloc w8 (.cells #[.int .u8 1, .int .u64 3, .int .u64 (want.length : Int), .string p] 24))).grown hgrow6 (by have := hb.size; simp; omega) (fun k' e => (hrowA.1.lt k' e).1)
            clear xf
            go_wp2
            go_meet
            case rel => exact ⟨want ++ [⟨1, 3, want.length, p.data.toList⟩], q, D6, A6, c6, B6, e6, rfl, by rw [List.length_append, List.length_singleton]; omega, by rw [List.length_append, List.length_singleton, ← frs_more]; exact hrow6, Be6, hL5, Bd6, kr6, hb6⟩
        · subst hD
          subst hM
          clear HST HS
          rcases hE with rfl | rfl
          · go_wp2
            go_meet
            case rel => exact ⟨want, b, D5, A5, c5, B5, e5, rfl, by omega, hrow, Be, hL4, Bd, kr, hb⟩
          · go_wp2
            go_meet
            case rel => exact ⟨want, b, D5, A5, c5, B5, e5, rfl, by omega, hrow, Be, hL4, Bd, kr, hb⟩
      case rest =>
        clear Bd Be kr kf hrow hb HST hL4
        obtain ⟨W', b', D', A6, c6, B6, e6, rfl, hW', hrow, Be, hL', Bd, kr, hb⟩ := hcut
        obtain ⟨WA2, wc2, rfl, hwc2, _, hwl2, _⟩ := Lies.of_own hrow.1
        have hW40 : W'.length ≤ 41 := by omega
        have hsc := fun W v hv => HS.out W v D' W' b' hL' (by omega) hv
        have Bz := Box.set (d' := D') (e1 := c6) (e2 := e6) Bd Be.tx Be.wr Be.l1 Be.l2 Be.f1 Be.f2
        have krz := kr.far4 hRN (.slice A6 D'.secs.length c6) (.slice B6 D'.pend.length e6) (.bool D'.off) (.int .i64 D'.fuse)
        have hrz := hrow.far4 Bd.blk (.slice A6 D'.secs.length c6) (.slice B6 D'.pend.length e6) (.bool D'.off) (.int .i64 D'.fuse)
        have hbz := below4 hb hN (.slice A6 D'.secs.length c6) (.slice B6 D'.pend.length e6) (.bool D'.off) (.int .i64 D'.fuse)
        have xe := Be.blk.cell
        have xd := Bd.blk.cell
        have fd := Bd.blk.free
        clear hwl2
        go_upto_region 33 with fail
        obtain ⟨W9, HW9⟩ := named ((((wc.setCell ⟨N, 0, none⟩ (.slice A6 D'.secs.length c6)).setCell ⟨N, 1, none⟩ (.slice B6 D'.pend.length e6)).setCell ⟨N, 2, none⟩ (.bool D'.off)).setCell ⟨N, 3, none⟩ (.int .i64 D'.fuse))
        have Bd9 : Box W9 N A6 c6 B6 e6 D' := by rw [HW9.out]; exact Bz
        have kr9 : Blk W9 (N + 1) [.int .i64 0, .int .i64 (n : Int)] 53 := by rw [HW9.out]; exact krz
        have hr9 : Row0 W9 w.heap.size 24 4 (.slice WA2 W'.length wc2) W'.length (frs W') := by rw [HW9.out]; exact hrz
        have hb9 : Below w.heap.size w W9 := by rw [HW9.out]; exact hbz
        rw [← HW9.out]
        clear HW9 Bz krz hrz hbz xe xd fd Bd Be kr hrow hb
        have xd := Bd9.blk.cell
        have xr := kr9.cell
        go_wp2_with fail
        clear xd xr
        refine (hsc _ _ Bd9.is).mono ?_
        rintro e w10 ⟨⟨SA, sc, rfl, hSF⟩, hb10⟩
        have Bd := Bd9.below hb10
        have kr := kr9.below hb10
        have hrow := hr9.below hb10
        have hb := bt hb9 hb10
        have hWF : Frames w10 (WA2) W' := by
          obtain ⟨A9, c9, e9, _, _, h9, _⟩ := Lies.of_own hrow.1
          injection e9 with e9
          rw [e9]
          exact h9
        clear hsc hb10 Bd9 kr9 hr9 hb9
        go_wp2_with fail
        go_loopw [154] (fun i wr2 => ∃ m : Nat, m ≤ W'.length ∧ i = .int .i64 (m : Int) ∧ Below w10.heap.size w10 wr2) (fun i _ => W'.length - (intOf i).toNat)
        case atStart => exact ⟨0, by omega, rfl, Below.refl _ _⟩
        case round =>
          obtain ⟨m, hm, rfl, hbm⟩ := hrel
          by_cases hlt2 : m < W'.length
          · obtain ⟨b1, o1, rfl, b1c⟩ := Frames.at_ (Frames.below hSF hbm) hlt2
            obtain ⟨b2, o2, rfl, b2c⟩ := Frames.at_ (Frames.below hWF hbm) hlt2
            obtain ⟨x, Hx⟩ := named W'[m]
            rw [← Hx.out] at b1c b2c
            clear hSF hWF
            have hm0 : (0 : Int) ≤ (m : Int) := by omega
            have hm1 : (m : Int) < (W'.length : Int) := by omega
            go_wp2_with fail
            refine region_flat _ (fun u => Below wr.heap.size wr u) (fun u u' => Below u.heap.size u u')
              (rel [fun v _ => v = .slice (some ⟨b1, o1, none⟩) W'.length sc,
                fun v _ => v = .int .i64 (m : Int),
                fun v _ => v = .pointer (some ⟨b1, o1 + m * 4, none⟩),
                fun v _ => v = .agg #[.int .u8 (x.kind.toNat : Int), .int .u64 (x.epoch : Int), .int .u64 (x.seq : Int), .string (str x.pay)],
                fun v _ => v = .slice (some ⟨b2, o2, none⟩) W'.length wc2,
                fun v _ => v = .int .i64 (m : Int),
                fun v _ => v = .pointer (some ⟨b2, o2 + m * 4, none⟩),
                fun v _ => v = .agg #[.int .u8 (x.kind.toNat : Int), .int .u64 (x.epoch : Int), .int .u64 (x.seq : Int), .string (str x.pay)],
                fun v _ => v = .bool false])
              (by kernel_rfl) (by kernel_rfl) (fun v => by simp only [putsV, Act.put, List.toList_toArray, List.setIfInBounds_toArray, List.set_cons_zero, List.set_cons_succ, Nat.reduceAdd, Nat.zero_add]; rfl) ?_ (Below.refl _ _).drew ?_ ?_
            · intro j x u u' hb h
              match j with
              | 0 => exact h
              | 1 => exact h
              | 2 => exact h
              | 3 => exact h
              | 4 => exact h
              | 5 => exact h
              | 6 => exact h
              | 7 => exact h
              | 8 => exact h
              | _ + 9 => trivial
            · refine ⟨?_, ?_, ?_, ?_, ?_, ?_, ?_, ?_, ?_, trivial⟩
              · intro v u hS hd K' hK
                simp only [waited, List.toList_toArray, Region.binds, rel, List.getD_cons_zero, List.getD_cons_succ, true_imp_iff, and_true] at hd
                simp only [rel, List.getD_cons_zero, List.getD_cons_succ, Act.put, List.setIfInBounds_toArray, List.set_cons_zero, List.set_cons_succ] at hK
                try simp only [hd] at hK
                have hS1 := hS
                go_simp
                exact hK.out _ _ ⟨hS1, Below.refl _ _, rfl⟩
              · intro v u hS hd K' hK
                simp only [waited, List.toList_toArray, Region.binds, rel, List.getD_cons_zero, List.getD_cons_succ, true_imp_iff, and_true] at hd
                simp only [rel, List.getD_cons_zero, List.getD_cons_succ, Act.put, List.setIfInBounds_toArray, List.set_cons_zero, List.set_cons_succ] at hK
                try simp only [hd] at hK
                have hS1 := hS
                go_simp
                exact hK.out _ _ ⟨hS1, Below.refl _ _, rfl⟩
              · intro v u hS hd K' hK
                simp only [waited, List.toList_toArray, Region.binds, rel, List.getD_cons_zero, List.getD_cons_succ, true_imp_iff, and_true] at hd
                simp only [rel, List.getD_cons_zero, List.getD_cons_succ, Act.put, List.setIfInBounds_toArray, List.set_cons_zero, List.set_cons_succ] at hK
                try simp only [hd] at hK
                have hS1 := hS
                go_simp
                exact hK.out _ _ ⟨hS1, Below.refl _ _, rfl⟩
              · intro v u hS hd K' hK
                simp only [waited, List.toList_toArray, Region.binds, rel, List.getD_cons_zero, List.getD_cons_succ, true_imp_iff, and_true] at hd
                simp only [rel, List.getD_cons_zero, List.getD_cons_succ, Act.put, List.setIfInBounds_toArray, List.set_cons_zero, List.set_cons_succ] at hK
                try simp only [hd] at hK
                have hS1 := hS
                have q0 := (hS1.cell (p := ⟨b1, o1 + m * 4, none⟩) (World.block_lt_of_cell? wr _ b1c.1)).trans b1c.1
                have q1 := (hS1.cell (p := ⟨b1, o1 + m * 4 + 1, none⟩) (World.block_lt_of_cell? wr _ b1c.2.1)).trans b1c.2.1
                have q2 := (hS1.cell (p := ⟨b1, o1 + m * 4 + 2, none⟩) (World.block_lt_of_cell? wr _ b1c.2.2.1)).trans b1c.2.2.1
                have q3 := (hS1.cell (p := ⟨b1, o1 + m * 4 + 3, none⟩) (World.block_lt_of_cell? wr _ b1c.2.2.2)).trans b1c.2.2.2
                go_simp
                exact hK.out _ _ ⟨hS1, Below.refl _ _, rfl⟩
              · intro v u hS hd K' hK
                simp only [waited, List.toList_toArray, Region.binds, rel, List.getD_cons_zero, List.getD_cons_succ, true_imp_iff, and_true] at hd
                simp only [rel, List.getD_cons_zero, List.getD_cons_succ, Act.put, List.setIfInBounds_toArray, List.set_cons_zero, List.set_cons_succ] at hK
                try simp only [hd] at hK
                have hS1 := hS
                go_simp
                exact hK.out _ _ ⟨hS1, Below.refl _ _, rfl⟩
              · intro v u hS hd K' hK
                simp only [waited, List.toList_toArray, Region.binds, rel, List.getD_cons_zero, List.getD_cons_succ, true_imp_iff, and_true] at hd
                simp only [rel, List.getD_cons_zero, List.getD_cons_succ, Act.put, List.setIfInBounds_toArray, List.set_cons_zero, List.set_cons_succ] at hK
                try simp only [hd] at hK
                have hS1 := hS
                go_simp
                exact hK.out _ _ ⟨hS1, Below.refl _ _, rfl⟩
              · intro v u hS hd K' hK
                simp only [waited, List.toList_toArray, Region.binds, rel, List.getD_cons_zero, List.getD_cons_succ, true_imp_iff, and_true] at hd
                simp only [rel, List.getD_cons_zero, List.getD_cons_succ, Act.put, List.setIfInBounds_toArray, List.set_cons_zero, List.set_cons_succ] at hK
                try simp only [hd] at hK
                have hS1 := hS
                go_simp
                exact hK.out _ _ ⟨hS1, Below.refl _ _, rfl⟩
              · intro v u hS hd K' hK
                simp only [waited, List.toList_toArray, Region.binds, rel, List.getD_cons_zero, List.getD_cons_succ, true_imp_iff, and_true] at hd
                simp only [rel, List.getD_cons_zero, List.getD_cons_succ, Act.put, List.setIfInBounds_toArray, List.set_cons_zero, List.set_cons_succ] at hK
                try simp only [hd] at hK
                have hS1 := hS
                have q0 := (hS1.cell (p := ⟨b2, o2 + m * 4, none⟩) (World.block_lt_of_cell? wr _ b2c.1)).trans b2c.1
                have q1 := (hS1.cell (p := ⟨b2, o2 + m * 4 + 1, none⟩) (World.block_lt_of_cell? wr _ b2c.2.1)).trans b2c.2.1
                have q2 := (hS1.cell (p := ⟨b2, o2 + m * 4 + 2, none⟩) (World.block_lt_of_cell? wr _ b2c.2.2.1)).trans b2c.2.2.1
                have q3 := (hS1.cell (p := ⟨b2, o2 + m * 4 + 3, none⟩) (World.block_lt_of_cell? wr _ b2c.2.2.2)).trans b2c.2.2.2
                go_simp
                exact hK.out _ _ ⟨hS1, Below.refl _ _, rfl⟩
              · intro v u hS hd K' hK
                simp only [waited, List.toList_toArray, Region.binds, rel, List.getD_cons_zero, List.getD_cons_succ, true_imp_iff, and_true] at hd
                simp only [rel, List.getD_cons_zero, List.getD_cons_succ, Act.put, List.setIfInBounds_toArray, List.set_cons_zero, List.set_cons_succ] at hK
                try simp only [hd] at hK
                have hS1 := hS
                go_simp
                exact hK.out _ _ ⟨hS1, Below.refl _ _, rfl⟩
            · rintro v u hS1 hR
              simp only [holdAll, List.size_toArray, List.length_cons, List.length_nil, Nat.reduceAdd, rel, List.getD_cons_zero, List.getD_cons_succ] at hR
              obtain ⟨_, h8⟩ := hR
              simp only [h8]
              clear h8
              go_wp2
              go_roundw
              case rel => exact ⟨m + 1, by omega, by go_num, bt hbm hS1⟩
              case measure => simp [intOf]; omega
          · obtain rfl : m = W'.length := by omega
            go_wp2
            go_roundw
            case rel =>
              exact ⟨k + 1, D', W', b', A6, c6, B6, e6, by omega, by go_num, rfl, by omega, hrow.below hbm, Bd.below hbm, hL', kr.below hbm, bt hb hbm⟩
            case measure => simp [intOf]; omega
    · have hfk' : ¬ (k : Int) < (fs.length : Int) := by omega
      go_upto_region 16 with fail
      have hL4 : LogOn ⟨D.secs, D.pend, D.off, -1⟩ n 3 want b := hL.fuse (-1)
      have Bd := Bm'
      have kr := krm
      have kf := kfm
      have hrow := hrm
      have hb := hbm
      obtain ⟨D4, HD4⟩ := named (⟨D.secs, D.pend, D.off, -1⟩ : Dk)
      rw [← HD4.out] at Bd hL4
      clear HD4 hfk hfk' hfb Bm' krm kfm hrm hbm hL
      have hfv : frVal ⟨1, 3, want.length, p.data.toList⟩ = .agg #[.int .u8 1, .int .u64 3, .int .u64 (want.length : Int), .string p] := by rw [frVal_mk]; rfl
      have happ := append_w _ D4 0 (n : Int) (b : Int) ⟨1, 3, want.length, p.data.toList⟩ W3 Bd.is (by omega) (by omega) (by have := hL4.room; omega)
      have hst := hL4.step p keep (by omega) (by omega)
      rw [hfv] at happ
      obtain ⟨D5, HD5⟩ := named (appD D4 0 n b ⟨1, 3, want.length, p.data.toList⟩)
      obtain ⟨M5, HM5⟩ := named (appN D4 0 n b ⟨1, 3, want.length, p.data.toList⟩)
      obtain ⟨E5, HE5⟩ := named (appE D4 0 n b ⟨1, 3, want.length, p.data.toList⟩)
      rw [← HD5.out, ← HM5.out, ← HE5.out] at happ hst
      have HST := hide hst
      have xd := Bd.blk.cell
      have xr := kr.cell
      have xf := kf.cell
      clear HD5 HM5 HE5 hst hfv
      go_wp2_with fail
      clear xd xr xf
      refine happ.mono ?_
      rintro e w5 ⟨v5, rfl, ⟨A5, c5, B5, e5, rfl, g1, g2, g3, g4, g5, g6⟩, hb5⟩
      have Be := Box.new w5 ⟨A5, c5, B5, e5, rfl, g1, g2, g3, g4, g5, g6⟩
      have hNE : N ≠ w5.heap.size := by have h1 := hb5.size; have h2 := Bd.lt; omega
      have hRE : N + 1 ≠ w5.heap.size := by have h1 := hb5.size; have h2 := kr.lt; omega
      have hFE : F ≠ w5.heap.size := by have h1 := hb5.size; have h2 := kf.lt; omega
      replace Bd := (Bd.below hb5).alloc (.cells #[.slice A5 D5.secs.length c5, .slice B5 D5.pend.length e5, .bool D5.off, .int .i64 D5.fuse] 49)
      replace kr := (kr.below hb5).alloc (.cells #[.slice A5 D5.secs.length c5, .slice B5 D5.pend.length e5, .bool D5.off, .int .i64 D5.fuse] 49)
      replace kf := (kf.below hb5).alloc (.cells #[.slice A5 D5.secs.length c5, .slice B5 D5.pend.length e5, .bool D5.off, .int .i64 D5.fuse] 49)
      replace hrow := (hrow.below hb5).alloc (.cells #[.slice A5 D5.secs.length c5, .slice B5 D5.pend.length e5, .bool D5.off, .int .i64 D5.fuse] 49)
      have hE9 : w.heap.size ≤ w5.heap.size := Nat.le_trans hb.size hb5.size
      replace hb := bt (bt hb hb5) (below_alloc w5 (.cells #[.slice A5 D5.secs.length c5, .slice B5 D5.pend.length e5, .bool D5.off, .int .i64 D5.fuse] 49))
      clear happ hb5 g1 g2 g3 g4 g5 g6
      go_upto_region 17 with fail
      obtain ⟨E, HEb⟩ := named w5.heap.size
      obtain ⟨W5, HW5⟩ := named (w5.alloc (.cells #[.slice A5 D5.secs.length c5, .slice B5 D5.pend.length e5, .bool D5.off, .int .i64 D5.fuse] 49))
      rw [← HEb.out] at Be hNE hRE hFE hE9 ⊢
      rw [← HW5.out] at Bd Be kr kf hrow hb ⊢
      clear HEb HW5
      go_upto_block 2 with fail
      go_cut [12, 13] (fun x a wx => ∃ (W' : List Fr) (b' : Nat) (D' : Dk) (A6 : Option Addr) (c6 : Nat) (B6 : Option Addr) (e6 : Nat), a = .int .i64 (b' : Int) ∧ W'.length ≤ k + 1 ∧ Row0 wx w.heap.size 24 4 x W'.length (frs W') ∧ Box wx E A6 c6 B6 e6 D' ∧ LogOn D' n 3 W' b' ∧ Box wx N A1 c1 B1 e1 D4 ∧ Blk wx (N + 1) [.int .i64 0, .int .i64 (n : Int)] 53 ∧ Below w.heap.size w wx)
      case first =>
        rcases HST.out with ⟨q, hE, hM, hL5⟩ | ⟨hE, hM, _, W, q, hWw, hL5⟩ | ⟨hE, hD, hM⟩
        · subst hE
          subst hM
          clear HST
          have xf := kf.cell
          have hrowA := hrow.alloc (.cells #[.int .u8 1, .int .u64 3, .int .u64 (want.length : Int), .string p] 24)
          clear HS
          go_wp2_with (at_builtin; refine wpList_append_row0 _ rfl (.tmp 85) (.tmp 87) _ rfl w.heap.size 24 j0 _ 4 40 Try.underlying54 hj hy0 hy1 hy2 rfl (by omega) frame_zero (.slice WA want.length wc) want.length (frs want) rfl hrowA ⟨W5.heap.size, 0, none⟩ 1 1 [.int .u8 1, .int .u64 3, .int .u64 (want.length : Int), .string p] rfl rfl (World.news_of_block (cs := #[.int .u8 1, .int .u64 3, .int .u64 (want.length : Int), .string p]) (t := 24) (fr := (0, 0)) (heap_alloc_new W5 _)) (by intro u hu; simp at hu; rcases hu with rfl | rfl | rfl | rfl <;> rfl) (by omega) (by simp only [maxLen]; omega) (by omega) (by have := hb.size; simp; omega) ?_; intro gg cap w6 hrow6 hgrow6 hst6)
          have Bd6 := (Bd.alloc (.cells #[.int .u8 1, .int .u64 3, .int .u64 (want.length : Int), .string p] 24)).stays hL4.rt hL4.none hrowA hgrow6 hst6
          have Be6 := (Be.alloc (.cells #[.int .u8 1, .int .u64 3, .int .u64 (want.length : Int), .string p] 24)).stays hL5.rt hL5.none hrowA hgrow6 hst6
          have kr6 := blk_grown (kr.alloc (.cells #[.int .u8 1, .int .u64 3, .int .u64 (want.length : Int), .string p] 24)) hrowA.1 hgrow6 (by decide)
          have hb6 := (bt hb (below_alloc W5 (.cells #[.int .u8 1, .int .u64 3, .int .u64 (want.length : Int), .string p] 24))).grown hgrow6 (by have := hb.size; simp; omega) (fun k' e => (hrowA.1.lt k' e).1)
          clear xf
          go_wp2
          go_meet
          case rel => exact ⟨want ++ [⟨1, 3, want.length, p.data.toList⟩], q, D5, A5, c5, B5, e5, rfl, by rw [List.length_append, List.length_singleton]; omega, by rw [List.length_append, List.length_singleton, ← frs_more]; exact hrow6, Be6, hL5, Bd6, kr6, hb6⟩
        · subst hE
          subst hM
          clear HST
          rcases hWw with hWw | hWw
          · rw [hWw] at hL5
            clear hWw
            have xe := Be.blk.cell
            have hcr := crash_w _ Ak ck D5 keep W5 Be.is (Lies.below hk hb)
            obtain ⟨D6, HD6⟩ := named (crashD D5 keep)
            obtain ⟨E6, HE6⟩ := named (checkE D5)
            rw [← HD6.out, ← HE6.out] at hcr
            rw [← HD6.out] at hL5
            have hrow5 := hrow
            have hsc := fun W v hv => HS.out W v D6 want q hL5 (by omega) hv
            skip
            clear HD6 HE6
            go_wp2_with fail
            clear xe
            refine hcr.mono ?_
            rintro e w6 ⟨v6, rfl, ⟨A6, c6, B6, e6, rfl, t1, t2, l1, l2, f1, f2⟩, hb6⟩
            have By := Be.below hb6
            have Bz := Box.set (d' := D6) (e1 := c6) (e2 := e6) By t1 t2 l1 l2 f1 f2
            have Bdz := (Bd.below hb6).far4 By.blk hNE (.slice A6 D6.secs.length c6) (.slice B6 D6.pend.length e6) (.bool D6.off) (.int .i64 D6.fuse)
            have krz := (kr.below hb6).far4 hRE (.slice A6 D6.secs.length c6) (.slice B6 D6.pend.length e6) (.bool D6.off) (.int .i64 D6.fuse)
            have kfz := (kf.below hb6).far4 hFE (.slice A6 D6.secs.length c6) (.slice B6 D6.pend.length e6) (.bool D6.off) (.int .i64 D6.fuse)
            have hrz := (hrow.below hb6).far4 By.blk (.slice A6 D6.secs.length c6) (.slice B6 D6.pend.length e6) (.bool D6.off) (.int .i64 D6.fuse)
            have hbz := below4 (bt hb hb6) hE9 (.slice A6 D6.secs.length c6) (.slice B6 D6.pend.length e6) (.bool D6.off) (.int .i64 D6.fuse)
            have xe := By.blk.cell
            have fe := By.blk.free
            clear hcr t1 t2 l1 l2 f1 f2
            go_upto_region 24 with fail
            obtain ⟨W7, HW7⟩ := named ((((w6.setCell ⟨E, 0, none⟩ (.slice A6 D6.secs.length c6)).setCell ⟨E, 1, none⟩ (.slice B6 D6.pend.length e6)).setCell ⟨E, 2, none⟩ (.bool D6.off)).setCell ⟨E, 3, none⟩ (.int .i64 D6.fuse))
            have Be7 : Box W7 E A6 c6 B6 e6 D6 := by rw [HW7.out]; exact Bz
            have Bd7 : Box W7 N A1 c1 B1 e1 D4 := by rw [HW7.out]; exact Bdz
            have kr7 : Blk W7 (N + 1) [.int .i64 0, .int .i64 (n : Int)] 53 := by rw [HW7.out]; exact krz
            have kf7 : Blk W7 F [.int .u8 1, .int .u64 3, .int .u64 (want.length : Int), .string p] 24 := by rw [HW7.out]; exact kfz
            have hr7 : Row0 W7 w.heap.size 24 4 (.slice WA want.length wc) want.length (frs want) := by rw [HW7.out]; exact hrz
            have hb7 : Below w.heap.size w W7 := by rw [HW7.out]; exact hbz
            rw [← HW7.out]
            clear HW7 Bz Bdz krz kfz hrz hbz By xe fe hb6 Be Bd kr kf hrow hb hrow5
            have xe := Be7.blk.cell
            have xr := kr7.cell
            go_wp2_with fail
            clear xe xr
            refine (hsc _ _ Be7.is).mono ?_
            rintro e w8 ⟨⟨SA, sc, rfl, hSF⟩, hb8⟩
            have Be := Be7.below hb8
            have Bd := Bd7.below hb8
            have kr := kr7.below hb8
            have kf := kf7.below hb8
            have hrow := hr7.below hb8
            have hb := bt hb7 hb8
            clear hsc hb8 Be7 Bd7 kr7 kf7 hr7 hb7 hSF
            go_wp2
            go_meet
            case rel => exact ⟨want, q, D6, A6, c6, B6, e6, rfl, by omega, hrow, Be, hL5, Bd, kr, hb⟩
          · rw [hWw] at hL5
            clear hWw
            have xe := Be.blk.cell
            have hcr := crash_w _ Ak ck D5 keep W5 Be.is (Lies.below hk hb)
            obtain ⟨D6, HD6⟩ := named (crashD D5 keep)
            obtain ⟨E6, HE6⟩ := named (checkE D5)
            rw [← HD6.out, ← HE6.out] at hcr
            rw [← HD6.out] at hL5
            have hrow5 := hrow
            have hsc := fun W v hv => HS.out W v D6 (want ++ [⟨1, 3, want.length, p.data.toList⟩]) q hL5 (by rw [List.length_append, List.length_singleton]; omega) hv
            rw [show (want ++ [(⟨1, 3, want.length, p.data.toList⟩ : Fr)]).length = want.length + 1 by simp] at hsc
            clear HD6 HE6
            go_wp2_with fail
            clear xe
            refine hcr.mono ?_
            rintro e w6 ⟨v6, rfl, ⟨A6, c6, B6, e6, rfl, t1, t2, l1, l2, f1, f2⟩, hb6⟩
            have By := Be.below hb6
            have Bz := Box.set (d' := D6) (e1 := c6) (e2 := e6) By t1 t2 l1 l2 f1 f2
            have Bdz := (Bd.below hb6).far4 By.blk hNE (.slice A6 D6.secs.length c6) (.slice B6 D6.pend.length e6) (.bool D6.off) (.int .i64 D6.fuse)
            have krz := (kr.below hb6).far4 hRE (.slice A6 D6.secs.length c6) (.slice B6 D6.pend.length e6) (.bool D6.off) (.int .i64 D6.fuse)
            have kfz := (kf.below hb6).far4 hFE (.slice A6 D6.secs.length c6) (.slice B6 D6.pend.length e6) (.bool D6.off) (.int .i64 D6.fuse)
            have hrz := (hrow.below hb6).far4 By.blk (.slice A6 D6.secs.length c6) (.slice B6 D6.pend.length e6) (.bool D6.off) (.int .i64 D6.fuse)
            have hbz := below4 (bt hb hb6) hE9 (.slice A6 D6.secs.length c6) (.slice B6 D6.pend.length e6) (.bool D6.off) (.int .i64 D6.fuse)
            have xe := By.blk.cell
            have fe := By.blk.free
            clear hcr t1 t2 l1 l2 f1 f2
            go_upto_region 24 with fail
            obtain ⟨W7, HW7⟩ := named ((((w6.setCell ⟨E, 0, none⟩ (.slice A6 D6.secs.length c6)).setCell ⟨E, 1, none⟩ (.slice B6 D6.pend.length e6)).setCell ⟨E, 2, none⟩ (.bool D6.off)).setCell ⟨E, 3, none⟩ (.int .i64 D6.fuse))
            have Be7 : Box W7 E A6 c6 B6 e6 D6 := by rw [HW7.out]; exact Bz
            have Bd7 : Box W7 N A1 c1 B1 e1 D4 := by rw [HW7.out]; exact Bdz
            have kr7 : Blk W7 (N + 1) [.int .i64 0, .int .i64 (n : Int)] 53 := by rw [HW7.out]; exact krz
            have kf7 : Blk W7 F [.int .u8 1, .int .u64 3, .int .u64 (want.length : Int), .string p] 24 := by rw [HW7.out]; exact kfz
            have hr7 : Row0 W7 w.heap.size 24 4 (.slice WA want.length wc) want.length (frs want) := by rw [HW7.out]; exact hrz
            have hb7 : Below w.heap.size w W7 := by rw [HW7.out]; exact hbz
            rw [← HW7.out]
            clear HW7 Bz Bdz krz kfz hrz hbz By xe fe hb6 Be Bd kr kf hrow hb hrow5
            have xe := Be7.blk.cell
            have xr := kr7.cell
            go_wp2_with fail
            clear xe xr
            refine (hsc _ _ Be7.is).mono ?_
            rintro e w8 ⟨⟨SA, sc, rfl, hSF⟩, hb8⟩
            have Be := Be7.below hb8
            have Bd := Bd7.below hb8
            have kr := kr7.below hb8
            have kf := kf7.below hb8
            have hrow := hr7.below hb8
            have hb := bt hb7 hb8
            clear hsc hb8 Be7 Bd7 kr7 kf7 hr7 hb7 hSF
            have xf := kf.cell
            have hrowA := hrow.alloc (.cells #[.int .u8 1, .int .u64 3, .int .u64 (want.length : Int), .string p] 24)
            clear HS
            have hlq1 : ¬ ((want.length : Int) + 1 < (want.length : Int)) := by omega
            have hlq2 : (want.length : Int) < (want.length : Int) + 1 := by omega
            go_wp2_with (at_builtin; refine wpList_append_row0 _ rfl (.tmp 127) (.tmp 129) _ rfl w.heap.size 24 j0 _ 4 40 Try.underlying54 hj hy0 hy1 hy2 rfl (by omega) frame_zero (.slice WA want.length wc) want.length (frs want) rfl hrowA ⟨w8.heap.size, 0, none⟩ 1 1 [.int .u8 1, .int .u64 3, .int .u64 (want.length : Int), .string p] rfl rfl (World.news_of_block (cs := #[.int .u8 1, .int .u64 3, .int .u64 (want.length : Int), .string p]) (t := 24) (fr := (0, 0)) (heap_alloc_new w8 _)) (by intro u hu; simp at hu; rcases hu with rfl | rfl | rfl | rfl <;> rfl) (by omega) (by simp only [maxLen]; omega) (by omega) (by have := hb.size; simp; omega) ?_; intro gg cap w6 hrow6 hgrow6 hst6)
            have Bd6 := (Bd.alloc (.cells #[.int .u8 1, .int .u64 3, .int .u64 (want.length : Int), .string p] 24)).stays hL4.rt hL4.none hrowA hgrow6 hst6
            have Be6 := (Be.alloc (.cells #[.int .u8 1, .int .u64 3, .int .u64 (want.length : Int), .string p] 24)).stays hL5.rt hL5.none hrowA hgrow6 hst6
            have kr6 := blk_grown (kr.alloc (.cells #[.int .u8 1, .int .u64 3, .int .u64 (want.length : Int), .string p] 24)) hrowA.1 hgrow6 (by decide)
            have hb6 := (bt hb (below_alloc w8 (.cells #[.int .u8 1, .int .u64 3, .int .u64 (want.length : Int), .string p] 24))).grown hgrow6 (by have := hb.size; simp; omega) (fun k' e => (hrowA.1.lt k' e).1)
            clear xf
            go_wp2
            go_meet
            case rel => exact ⟨want ++ [⟨1, 3, want.length, p.data.toList⟩], q, D6, A6, c6, B6, e6, rfl, by rw [List.length_append, List.length_singleton]; omega, by rw [List.length_append, List.length_singleton, ← frs_more]; exact hrow6, Be6, hL5, Bd6, kr6, hb6⟩
        · subst hD
          subst hM
          clear HST HS
          rcases hE with rfl | rfl
          · go_wp2
            go_meet
            case rel => exact ⟨want, b, D5, A5, c5, B5, e5, rfl, by omega, hrow, Be, hL4, Bd, kr, hb⟩
          · go_wp2
            go_meet
            case rel => exact ⟨want, b, D5, A5, c5, B5, e5, rfl, by omega, hrow, Be, hL4, Bd, kr, hb⟩
      case rest =>
        clear Bd Be kr kf hrow hb HST hL4
        obtain ⟨W', b', D', A6, c6, B6, e6, rfl, hW', hrow, Be, hL', Bd, kr, hb⟩ := hcut
        obtain ⟨WA2, wc2, rfl, hwc2, _, hwl2, _⟩ := Lies.of_own hrow.1
        have hW40 : W'.length ≤ 41 := by omega
        have hsc := fun W v hv => HS.out W v D' W' b' hL' (by omega) hv
        have Bz := Box.set (d' := D') (e1 := c6) (e2 := e6) Bd Be.tx Be.wr Be.l1 Be.l2 Be.f1 Be.f2
        have krz := kr.far4 hRN (.slice A6 D'.secs.length c6) (.slice B6 D'.pend.length e6) (.bool D'.off) (.int .i64 D'.fuse)
        have hrz := hrow.far4 Bd.blk (.slice A6 D'.secs.length c6) (.slice B6 D'.pend.length e6) (.bool D'.off) (.int .i64 D'.fuse)
        have hbz := below4 hb hN (.slice A6 D'.secs.length c6) (.slice B6 D'.pend.length e6) (.bool D'.off) (.int .i64 D'.fuse)
        have xe := Be.blk.cell
        have xd := Bd.blk.cell
        have fd := Bd.blk.free
        clear hwl2
        go_upto_region 33 with fail
        obtain ⟨W9, HW9⟩ := named ((((wc.setCell ⟨N, 0, none⟩ (.slice A6 D'.secs.length c6)).setCell ⟨N, 1, none⟩ (.slice B6 D'.pend.length e6)).setCell ⟨N, 2, none⟩ (.bool D'.off)).setCell ⟨N, 3, none⟩ (.int .i64 D'.fuse))
        have Bd9 : Box W9 N A6 c6 B6 e6 D' := by rw [HW9.out]; exact Bz
        have kr9 : Blk W9 (N + 1) [.int .i64 0, .int .i64 (n : Int)] 53 := by rw [HW9.out]; exact krz
        have hr9 : Row0 W9 w.heap.size 24 4 (.slice WA2 W'.length wc2) W'.length (frs W') := by rw [HW9.out]; exact hrz
        have hb9 : Below w.heap.size w W9 := by rw [HW9.out]; exact hbz
        rw [← HW9.out]
        clear HW9 Bz krz hrz hbz xe xd fd Bd Be kr hrow hb
        have xd := Bd9.blk.cell
        have xr := kr9.cell
        go_wp2_with fail
        clear xd xr
        refine (hsc _ _ Bd9.is).mono ?_
        rintro e w10 ⟨⟨SA, sc, rfl, hSF⟩, hb10⟩
        have Bd := Bd9.below hb10
        have kr := kr9.below hb10
        have hrow := hr9.below hb10
        have hb := bt hb9 hb10
        have hWF : Frames w10 (WA2) W' := by
          obtain ⟨A9, c9, e9, _, _, h9, _⟩ := Lies.of_own hrow.1
          injection e9 with e9
          rw [e9]
          exact h9
        clear hsc hb10 Bd9 kr9 hr9 hb9
        go_wp2_with fail
        go_loopw [154] (fun i wr2 => ∃ m : Nat, m ≤ W'.length ∧ i = .int .i64 (m : Int) ∧ Below w10.heap.size w10 wr2) (fun i _ => W'.length - (intOf i).toNat)
        case atStart => exact ⟨0, by omega, rfl, Below.refl _ _⟩
        case round =>
          obtain ⟨m, hm, rfl, hbm⟩ := hrel
          by_cases hlt2 : m < W'.length
          · obtain ⟨b1, o1, rfl, b1c⟩ := Frames.at_ (Frames.below hSF hbm) hlt2
            obtain ⟨b2, o2, rfl, b2c⟩ := Frames.at_ (Frames.below hWF hbm) hlt2
            obtain ⟨x, Hx⟩ := named W'[m]
            rw [← Hx.out] at b1c b2c
            clear hSF hWF
            have hm0 : (0 : Int) ≤ (m : Int) := by omega
            have hm1 : (m : Int) < (W'.length : Int) := by omega
            go_wp2_with fail
            refine region_flat _ (fun u => Below wr.heap.size wr u) (fun u u' => Below u.heap.size u u')
              (rel [fun v _ => v = .slice (some ⟨b1, o1, none⟩) W'.length sc,
                fun v _ => v = .int .i64 (m : Int),
                fun v _ => v = .pointer (some ⟨b1, o1 + m * 4, none⟩),
                fun v _ => v = .agg #[.int .u8 (x.kind.toNat : Int), .int .u64 (x.epoch : Int), .int .u64 (x.seq : Int), .string (str x.pay)],
                fun v _ => v = .slice (some ⟨b2, o2, none⟩) W'.length wc2,
                fun v _ => v = .int .i64 (m : Int),
                fun v _ => v = .pointer (some ⟨b2, o2 + m * 4, none⟩),
                fun v _ => v = .agg #[.int .u8 (x.kind.toNat : Int), .int .u64 (x.epoch : Int), .int .u64 (x.seq : Int), .string (str x.pay)],
                fun v _ => v = .bool false])
              (by kernel_rfl) (by kernel_rfl) (fun v => by simp only [putsV, Act.put, List.toList_toArray, List.setIfInBounds_toArray, List.set_cons_zero, List.set_cons_succ, Nat.reduceAdd, Nat.zero_add]; rfl) ?_ (Below.refl _ _).drew ?_ ?_
            · intro j x u u' hb h
              match j with
              | 0 => exact h
              | 1 => exact h
              | 2 => exact h
              | 3 => exact h
              | 4 => exact h
              | 5 => exact h
              | 6 => exact h
              | 7 => exact h
              | 8 => exact h
              | _ + 9 => trivial
            · refine ⟨?_, ?_, ?_, ?_, ?_, ?_, ?_, ?_, ?_, trivial⟩
              · intro v u hS hd K' hK
                simp only [waited, List.toList_toArray, Region.binds, rel, List.getD_cons_zero, List.getD_cons_succ, true_imp_iff, and_true] at hd
                simp only [rel, List.getD_cons_zero, List.getD_cons_succ, Act.put, List.setIfInBounds_toArray, List.set_cons_zero, List.set_cons_succ] at hK
                try simp only [hd] at hK
                have hS1 := hS
                go_simp
                exact hK.out _ _ ⟨hS1, Below.refl _ _, rfl⟩
              · intro v u hS hd K' hK
                simp only [waited, List.toList_toArray, Region.binds, rel, List.getD_cons_zero, List.getD_cons_succ, true_imp_iff, and_true] at hd
                simp only [rel, List.getD_cons_zero, List.getD_cons_succ, Act.put, List.setIfInBounds_toArray, List.set_cons_zero, List.set_cons_succ] at hK
                try simp only [hd] at hK
                have hS1 := hS
                go_simp
                exact hK.out _ _ ⟨hS1, Below.refl _ _, rfl⟩
              · intro v u hS hd K' hK
                simp only [waited, List.toList_toArray, Region.binds, rel, List.getD_cons_zero, List.getD_cons_succ, true_imp_iff, and_true] at hd
                simp only [rel, List.getD_cons_zero, List.getD_cons_succ, Act.put, List.setIfInBounds_toArray, List.set_cons_zero, List.set_cons_succ] at hK
                try simp only [hd] at hK
                have hS1 := hS
                go_simp
                exact hK.out _ _ ⟨hS1, Below.refl _ _, rfl⟩
              · intro v u hS hd K' hK
                simp only [waited, List.toList_toArray, Region.binds, rel, List.getD_cons_zero, List.getD_cons_succ, true_imp_iff, and_true] at hd
                simp only [rel, List.getD_cons_zero, List.getD_cons_succ, Act.put, List.setIfInBounds_toArray, List.set_cons_zero, List.set_cons_succ] at hK
                try simp only [hd] at hK
                have hS1 := hS
                have q0 := (hS1.cell (p := ⟨b1, o1 + m * 4, none⟩) (World.block_lt_of_cell? wr _ b1c.1)).trans b1c.1
                have q1 := (hS1.cell (p := ⟨b1, o1 + m * 4 + 1, none⟩) (World.block_lt_of_cell? wr _ b1c.2.1)).trans b1c.2.1
                have q2 := (hS1.cell (p := ⟨b1, o1 + m * 4 + 2, none⟩) (World.block_lt_of_cell? wr _ b1c.2.2.1)).trans b1c.2.2.1
                have q3 := (hS1.cell (p := ⟨b1, o1 + m * 4 + 3, none⟩) (World.block_lt_of_cell? wr _ b1c.2.2.2)).trans b1c.2.2.2
                go_simp
                exact hK.out _ _ ⟨hS1, Below.refl _ _, rfl⟩
              · intro v u hS hd K' hK
                simp only [waited, List.toList_toArray, Region.binds, rel, List.getD_cons_zero, List.getD_cons_succ, true_imp_iff, and_true] at hd
                simp only [rel, List.getD_cons_zero, List.getD_cons_succ, Act.put, List.setIfInBounds_toArray, List.set_cons_zero, List.set_cons_succ] at hK
                try simp only [hd] at hK
                have hS1 := hS
                go_simp
                exact hK.out _ _ ⟨hS1, Below.refl _ _, rfl⟩
              · intro v u hS hd K' hK
                simp only [waited, List.toList_toArray, Region.binds, rel, List.getD_cons_zero, List.getD_cons_succ, true_imp_iff, and_true] at hd
                simp only [rel, List.getD_cons_zero, List.getD_cons_succ, Act.put, List.setIfInBounds_toArray, List.set_cons_zero, List.set_cons_succ] at hK
                try simp only [hd] at hK
                have hS1 := hS
                go_simp
                exact hK.out _ _ ⟨hS1, Below.refl _ _, rfl⟩
              · intro v u hS hd K' hK
                simp only [waited, List.toList_toArray, Region.binds, rel, List.getD_cons_zero, List.getD_cons_succ, true_imp_iff, and_true] at hd
                simp only [rel, List.getD_cons_zero, List.getD_cons_succ, Act.put, List.setIfInBounds_toArray, List.set_cons_zero, List.set_cons_succ] at hK
                try simp only [hd] at hK
                have hS1 := hS
                go_simp
                exact hK.out _ _ ⟨hS1, Below.refl _ _, rfl⟩
              · intro v u hS hd K' hK
                simp only [waited, List.toList_toArray, Region.binds, rel, List.getD_cons_zero, List.getD_cons_succ, true_imp_iff, and_true] at hd
                simp only [rel, List.getD_cons_zero, List.getD_cons_succ, Act.put, List.setIfInBounds_toArray, List.set_cons_zero, List.set_cons_succ] at hK
                try simp only [hd] at hK
                have hS1 := hS
                have q0 := (hS1.cell (p := ⟨b2, o2 + m * 4, none⟩) (World.block_lt_of_cell? wr _ b2c.1)).trans b2c.1
                have q1 := (hS1.cell (p := ⟨b2, o2 + m * 4 + 1, none⟩) (World.block_lt_of_cell? wr _ b2c.2.1)).trans b2c.2.1
                have q2 := (hS1.cell (p := ⟨b2, o2 + m * 4 + 2, none⟩) (World.block_lt_of_cell? wr _ b2c.2.2.1)).trans b2c.2.2.1
                have q3 := (hS1.cell (p := ⟨b2, o2 + m * 4 + 3, none⟩) (World.block_lt_of_cell? wr _ b2c.2.2.2)).trans b2c.2.2.2
                go_simp
                exact hK.out _ _ ⟨hS1, Below.refl _ _, rfl⟩
              · intro v u hS hd K' hK
                simp only [waited, List.toList_toArray, Region.binds, rel, List.getD_cons_zero, List.getD_cons_succ, true_imp_iff, and_true] at hd
                simp only [rel, List.getD_cons_zero, List.getD_cons_succ, Act.put, List.setIfInBounds_toArray, List.set_cons_zero, List.set_cons_succ] at hK
                try simp only [hd] at hK
                have hS1 := hS
                go_simp
                exact hK.out _ _ ⟨hS1, Below.refl _ _, rfl⟩
            · rintro v u hS1 hR
              simp only [holdAll, List.size_toArray, List.length_cons, List.length_nil, Nat.reduceAdd, rel, List.getD_cons_zero, List.getD_cons_succ] at hR
              obtain ⟨_, h8⟩ := hR
              simp only [h8]
              clear h8
              go_wp2
              go_roundw
              case rel => exact ⟨m + 1, by omega, by go_num, bt hbm hS1⟩
              case measure => simp [intOf]; omega
          · obtain rfl : m = W'.length := by omega
            go_wp2
            go_roundw
            case rel =>
              exact ⟨k + 1, D', W', b', A6, c6, B6, e6, by omega, by go_num, rfl, by omega, hrow.below hbm, Bd.below hbm, hL', kr.below hbm, bt hb hbm⟩
            case measure => simp [intOf]; omega
end Go.Proofs.Ytdgonhmipecjpaa
