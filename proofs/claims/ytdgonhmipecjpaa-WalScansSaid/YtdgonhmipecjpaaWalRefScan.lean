/- The document's Scan of chapter 04. -/
import Derived.Test.YtdgonhmipecjpaaGI
namespace Go.Proofs.Ytdgonhmipecjpaa
set_option linter.unusedSimpArgs false
set_option linter.unusedVariables false
open Go.RowKit Go.Shelf
open Crc
def lenV : Value → Nat
  | .slice _ n _ => n
  | _ => 0
set_option maxHeartbeats 8000000 in
set_option maxRecDepth 100000 in
theorem refScan_yes (v : Value) (d : Dk) (f s ep : Nat) (w : World) (hv : DkIs w v d) (hr : right d = true) (ho : d.off = false) (hs1 : 1 ≤ s) (hfs : f + s ≤ d.secs.length) (hep : ep < 18446744073709551616) :
    Calls Try.prog 32 #[v, .agg #[.int .i64 (f : Int), .int .i64 (s : Int)], .int .u64 (ep : Int)] w fun e w' =>
      (∃ A c, e = .returned (.tuple #[.slice A (logOf d f s ep).1.length c, .int .i64 ((logOf d f s ep).2 : Int), .int .i64 0]) ∧ Frames w' A (logOf d f s ep).1) ∧ Below w.heap.size w w' := by
  have hlen := right_len hr
  have hck := fun W hb => refWalCheck_w v d (f : Int) (s : Int) W (DkIs.below hv hb) (by omega) (by omega)
  have hwe : walE d (f : Int) (s : Int) = 0 := by
    have : regOk d (f : Int) (s : Int) = true := by simp [regOk]; omega
    simp [walE, hr, this]
  rw [hwe] at hck
  have hv0 := hv
  obtain ⟨A1, c1, A2, c2, rfl, h1, h2, hl1, hl2, _⟩ := hv
  have k1 := (Blk.new w [.slice A1 d.secs.length c1, .slice A2 d.pend.length c2, .bool d.off, .int .i64 d.fuse] 49).alloc (.cells #[.int .i64 (f : Int), .int .i64 (s : Int)] 53)
  have k2 := Blk.new (w.alloc (.cells #[.slice A1 d.secs.length c1, .slice A2 d.pend.length c2, .bool d.off, .int .i64 d.fuse] 49)) [.int .i64 (f : Int), .int .i64 (s : Int)] 53
  have b1 := bt (below_alloc w (.cells #[.slice A1 d.secs.length c1, .slice A2 d.pend.length c2, .bool d.off, .int .i64 d.fuse] 49)) (below_alloc _ (.cells #[.int .i64 (f : Int), .int .i64 (s : Int)] 53))
  rw [show (w.alloc (.cells #[.slice A1 d.secs.length c1, .slice A2 d.pend.length c2, .bool d.off, .int .i64 d.fuse] 49)).heap.size = w.heap.size + 1 by simp] at k2
  have hck0 := hck _ b1
  rw [ho] at hck0 k1 k2 b1 hv0 ⊢
  go_enter Try.func32, Try.ntmps32
  go_wp2_with fail
  refine hck0.mono ?_
  rintro e W ⟨rfl, hb2⟩
  replace k1 := k1.below hb2
  replace k2 := k2.below hb2
  replace b1 := bt b1 hb2
  clear hck0 hck hb2 hwe
  have y1 := k1.cell
  have y2 := k2.cell
  obtain ⟨j0, hj, hy0, hy1, hy2⟩ := info_parts Try.info24
  go_wp2_with fail
  clear y1 y2
  go_loopw [10, 11] (fun x i wr => ∃ (acc : List Fr) (a : Nat), acc.length ≤ 1024 ∧ i = .int .i64 (a : Int) ∧ wr.ownsRow W.heap.size 24 4 x acc.length (frs acc) ∧ Hid (logOf d f s ep = (acc ++ (logL d f s ep (1024 - acc.length) a acc.length).1, (logL d f s ep (1024 - acc.length) a acc.length).2)) ∧ a ≤ s ∧ Below W.heap.size W wr) (fun x _ _ => 1024 - lenV x)
  case atStart => exact ⟨[], 0, by simp, rfl, World.ownsRow_nil _ _ _ _, rfl, by omega, Below.refl _ _⟩
  case round =>
    obtain ⟨acc, a, hacc, rfl, hO, HL, has, hbw⟩ := hrel
    obtain ⟨A, c, rfl, hca, _, hlies, _⟩ := Lies.of_own hO
    have m1 := k1.below hbw
    have m2 := k2.below hbw
    have mb := bt b1 hbw
    have y1 := m1.cell
    have y2 := m2.cell
    by_cases hlt : acc.length < 1024
    case neg =>
      have hge : ¬ ((acc.length : Int) < 1024) := by omega
      have hL0 : logOf d f s ep = (acc, a) := by
        rw [HL.out, show 1024 - acc.length = 0 by omega]
        simp [logL]
      have HL0 := hide hL0
      clear hL0
      go_wp2
      go_ret3
      rw [HL0.out]
      first | exact ⟨⟨A, ⟨c, rfl⟩, hlies⟩, mb⟩ | exact ⟨⟨A, c, rfl, hlies⟩, mb⟩
    have hltI : (acc.length : Int) < 1024 := by omega
    have hfr := refFrame_w _ d f s a wr (DkIs.below hv0 mb) hr hfs (by omega)
    go_wp2_with fail
    refine hfr.mono ?_
    rintro e w3 ⟨hret, hb3⟩
    have mb3 := bt mb hb3
    have hl3 : Frames w3 A acc := Lies.below hlies hb3
    rcases hret with ⟨x, n, hAt, rfl⟩ | ⟨hno, rfl⟩
    · have hn1 : 1 ≤ n := by rw [hAt.len]; omega
      have hroom := hAt.room
      have hn0 : ((n : Int) == 0) = false := by simp; omega
      have hwl : IntKind.u64.wrap (acc.length : Int) = (acc.length : Int) := wrap_u64_nat _ (by omega)
      have kx := Blk.new w3 [.int .u8 (x.kind.toNat : Int), .int .u64 (x.epoch : Int), .int .u64 (x.seq : Int), .string (str x.pay)] 24
      have mbx := mb3.alloc mb3.size (.cells #[.int .u8 (x.kind.toNat : Int), .int .u64 (x.epoch : Int), .int .u64 (x.seq : Int), .string (str x.pay)] 24)
      have hlx : Frames (w3.alloc (.cells #[.int .u8 (x.kind.toNat : Int), .int .u64 (x.epoch : Int), .int .u64 (x.seq : Int), .string (str x.pay)] 24)) A acc := Lies.alloc hl3 _
      have hstop : ¬ (x.epoch = ep ∧ x.seq = acc.length) → logOf d f s ep = (acc, a) := fun hne => by
        rw [HL.out, logL_stop (fun y m hy => by rw [(frame_one hy hAt).1]; exact hne), List.append_nil]
      unfold frVal
      clear y1 y2 hfr
      go_upto_region 10 with fail
      obtain ⟨W5, HW5⟩ := named (w3.alloc (.cells #[.int .u8 (x.kind.toNat : Int), .int .u64 (x.epoch : Int), .int .u64 (x.seq : Int), .string (str x.pay)] 24))
      have hbW5 : Below W.heap.size W W5 := by rw [HW5.out]; exact bt (bt hbw hb3) (below_alloc _ _)
      have hO5 : W5.ownsRow W.heap.size 24 4 (.slice A acc.length c) acc.length (frs acc) := by rw [HW5.out]; exact own_below (own_below hO hb3) (below_alloc _ _)
      obtain ⟨xB, HxB⟩ := named w3.heap.size
      rw [← HxB.out] at kx ⊢
      rw [← HW5.out] at kx mbx hlx ⊢
      clear HW5 HxB
      have y := kx.cell
      by_cases hep1 : x.epoch = ep
      case neg =>
        have ht1 : ((x.epoch : Int) != (ep : Int)) = true := by simp; omega
        have HL0 := hide (hstop fun h => hep1 h.1)
        clear hstop hep1
        go_wp2
        go_ret3
        rw [HL0.out]
        first | exact ⟨⟨A, ⟨c, rfl⟩, hlx⟩, mbx⟩ | exact ⟨⟨A, c, rfl, hlx⟩, mbx⟩
      by_cases hsq1 : x.seq = acc.length
      case neg =>
        have ht1 : ((x.epoch : Int) != (ep : Int)) = false := by simp; omega
        have ht2 : ((x.seq : Int) != (acc.length : Int)) = true := by simp; omega
        have HL0 := hide (hstop fun h => hsq1 h.2)
        clear hstop hep1 hsq1
        go_wp2
        go_ret3
        rw [HL0.out]
        first | exact ⟨⟨A, ⟨c, rfl⟩, hlx⟩, mbx⟩ | exact ⟨⟨A, c, rfl, hlx⟩, mbx⟩
      have ht1 : ((x.epoch : Int) != (ep : Int)) = false := by simp; omega
      have ht2 : ((x.seq : Int) != (acc.length : Int)) = false := by simp; omega
      have Hnx := hide (logL_step (fuel := 1024 - acc.length - 1) hAt hep1 hsq1)
      clear hstop hep1 hsq1
      have hszW := hbW5.size
      obtain ⟨a2, ha2⟩ := named (a + n)
      have hsum : (a : Int) + (n : Int) = (a2 : Int) := by rw [ha2.out]; omega
      have hwa2 : IntKind.i64.wrap (a2 : Int) = (a2 : Int) := wrap_i64_nat' a2 (by rw [ha2.out]; omega)
      have hO6 := own_below hO5 (below_alloc W5 (.cells #[.int .u8 (x.kind.toNat : Int), .int .u64 (x.epoch : Int), .int .u64 (x.seq : Int), .string (str x.pay)] 24))
      go_wp2_with (at_builtin; refine wpList_append_lies _ rfl (.tmp 52) (.tmp 54) _ rfl W.heap.size 24 j0 _ 4 40 Try.underlying54 hj hy0 hy1 hy2 rfl (by omega) (.slice A acc.length c) acc.length _ rfl hO6 ⟨W5.heap.size, 0, none⟩ 1 1 (frCells x) rfl rfl (World.news_of_block (cs := #[.int .u8 (x.kind.toNat : Int), .int .u64 (x.epoch : Int), .int .u64 (x.seq : Int), .string (str x.pay)]) (t := 24) (fr := (0, 0)) (heap_alloc_new W5 _)) (by simpa [frs] using frs_one [x]) (by omega) (by simp only [maxLen]; omega) (by omega) (by simp; omega) (W5.heap.size + 1) (by simp) ?_; intro gg cap w6 hown1 hgrow hat hlt9)
      have hb9 : Below W.heap.size W w6 := (bt hbW5 (below_alloc W5 (.cells #[.int .u8 (x.kind.toNat : Int), .int .u64 (x.epoch : Int), .int .u64 (x.seq : Int), .string (str x.pay)] 24))).grown hgrow (by simp; omega) (fun k' e => (World.ownsRow.lt hO6 k' e).1)
      go_roundw
      case rel => exact ⟨acc ++ [x], a2, by rw [List.length_append]; simp; omega, by first | rfl | go_num, by
        rw [List.length_append, List.length_singleton, frs_append]
        simpa [frs] using hown1, by
        show logOf d f s ep = _
        rw [HL.out, List.length_append, List.length_singleton]
        have e : 1024 - acc.length = 1024 - acc.length - 1 + 1 := by omega
        have e2 : 1024 - (acc.length + 1) = 1024 - acc.length - 1 := by omega
        rw [e2]
        conv => lhs; rw [e]
        rw [Hnx.out, ha2.out]
        simp, by rw [ha2.out]; omega, hb9⟩
      case measure => simp [lenV]; omega
    · have hL0 : logOf d f s ep = (acc, a) := by
        rw [HL.out, logL_stop (fun y m hy => absurd hy (hno y m)), List.append_nil]
      have HL0 := hide hL0
      clear hL0 hfr y1 y2
      unfold zeroFrame
      have mbx := mb3.alloc mb3.size (.cells #[.int .u8 0, .int .u64 0, .int .u64 0, .string ⟨#[]⟩] 24)
      have hlx : Frames (w3.alloc (.cells #[.int .u8 0, .int .u64 0, .int .u64 0, .string ⟨#[]⟩] 24)) A acc := Lies.alloc hl3 _
      go_wp2
      go_ret3
      rw [HL0.out]
      first | exact ⟨⟨A, ⟨c, rfl⟩, hlx⟩, mbx⟩ | exact ⟨⟨A, c, rfl, hlx⟩, mbx⟩
set_option maxHeartbeats 4000000 in
set_option maxRecDepth 100000 in
theorem refScan_no (v : Value) (d : Dk) (f s : Int) (ep : Nat) (w : World) (hv : DkIs w v d) (hf : -9223372036854775808 ≤ f ∧ f ≤ 9223372036854775807) (hs : -9223372036854775808 ≤ s ∧ s ≤ 9223372036854775807) (hno : scanE d f s ≠ 0) :
    Calls Try.prog 32 #[v, .agg #[.int .i64 f, .int .i64 s], .int .u64 (ep : Int)] w fun e w' => e = .returned (.tuple #[.slice none 0 0, .int .i64 0, .int .i64 (scanE d f s)]) ∧ Below w.heap.size w w' := by
  have hck := fun W hb => refWalCheck_w v d f s W (DkIs.below hv hb) hf hs
  obtain ⟨A1, c1, A2, c2, rfl, h1, h2, hl1, hl2, _⟩ := hv
  have k1 := (Blk.new w [.slice A1 d.secs.length c1, .slice A2 d.pend.length c2, .bool d.off, .int .i64 d.fuse] 49).alloc (.cells #[.int .i64 f, .int .i64 s] 53)
  have b1 := bt (below_alloc w (.cells #[.slice A1 d.secs.length c1, .slice A2 d.pend.length c2, .bool d.off, .int .i64 d.fuse] 49)) (below_alloc _ (.cells #[.int .i64 f, .int .i64 s] 53))
  have hck0 := hck _ b1
  obtain ⟨r, Hr⟩ := named (scanE d f s)
  obtain ⟨we, Hwe⟩ := named (walE d f s)
  rw [← Hwe.out] at hck0
  rw [← Hr.out] at hno ⊢
  clear hck
  go_enter Try.func32, Try.ntmps32
  go_wp2_with fail
  refine hck0.mono ?_
  rintro e W ⟨rfl, hb2⟩
  replace k1 := k1.below hb2
  replace b1 := bt b1 hb2
  clear hck0 hb2
  by_cases hz : we = 0
  · have hoff : d.off = true := by
      cases ho : d.off with
      | true => rfl
      | false =>
        exfalso
        apply hno
        rw [Hr.out, scanE, if_neg (by rw [← Hwe.out, hz]; decide)]
        simp [ho]
    have hE := hide (show r = 15 by rw [Hr.out, scanE, if_neg (by rw [← Hwe.out, hz]; decide), hoff]; rfl)
    subst hz
    rw [hoff] at k1
    rw [hoff]
    have y := k1.cell
    clear hno hoff
    go_wp2
    go_ret3
    exact ⟨by rw [hE.out]; rfl, b1⟩
  · have hE := hide (show r = we by rw [Hr.out, scanE, if_pos (by rw [← Hwe.out]; exact hz), ← Hwe.out])
    have hz1 : (we == 0) = false := by simp [hz]
    have hz2 : (we != 0) = true := by simp [hz]
    have y := k1.cell
    clear hno
    go_wp2
    go_ret3
    exact ⟨by rw [hE.out]; rfl, b1⟩
end Go.Proofs.Ytdgonhmipecjpaa
