/- wal.Scan, granted: an epoch's log. -/
import Derived.Test.YtdgonhmipecjpaaWalLies
import Derived.Test.YtdgonhmipecjpaaFlat
import Derived.Test.YtdgonhmipecjpaaRecSectors
namespace Go.Proofs.Ytdgonhmipecjpaa
set_option linter.unusedSimpArgs false
set_option linter.unusedVariables false
open Go.RowKit Go.Shelf
open Crc
attribute [local go_sem] Oper.semAt_some
theorem blk_grown {W W' : World} {g base n size : Nat} {vs xs : List Value} {t e : TypeId} {v : Value} (h : Blk W g vs t) (ho : W.ownsRow base e size v n xs) (hg : W.grownBy W' v.ownBlock) (hne : e ≠ t) : Blk W' g vs t :=
  (hg.block g h.lt (Ne.symm (own_blk_ne ho h hne))).trans h
/-- What stands between the rounds. -/
structure ScanInv (w : World) (o ep : Nat) (dc rc : List Value) (pre : List (Fr × Nat)) (W : World) : Prop where
  row : ∃ A c, Blk W o [.slice A pre.length c] 54 ∧ W.ownsRow w.heap.size 24 4 (.slice A pre.length c) pre.length (frs (pre.map (·.1)))
  fin : Blk W (o + 1) [.int .i64 (endFrom 0 pre : Int)] 3
  dsk : Blk W (o + 1 + 1) dc 49
  reg : Blk W (o + 1 + 1 + 1) rc 53
  epo : Blk W (w.heap.size + 1 + 1) [.int .u64 (ep : Int)] 22
  below : Below w.heap.size w W
  len : pre.length ≤ 1024
  sel : Sel ep 0 pre
  size : o + 4 ≤ W.heap.size
theorem ScanInv.ownG {w : World} {o ep : Nat} {dc rc : List Value} {pre : List (Fr × Nat)} {W W' : World} {row : Option Nat} (h : ScanInv w o ep dc rc pre W) (hg : W.grownBy W' row) (hr : ∀ r, row = some r → o + 4 ≤ r ∧ ∃ x : Obj, W.heap[r]? = some x ∧ x.isCells = false) (hw : w.heap.size ≤ o) : ScanInv w o ep dc rc pre W' := by
  obtain ⟨⟨A, c, h1, h2⟩, h3, h4, h5, h6, h7, h8, h9, h10⟩ := h
  have hc := fun r e => (hr r e).2
  exact ⟨⟨A, c, blk_ownG h1 hg hc, own_ownG h2 hg hc⟩, blk_ownG h3 hg hc, blk_ownG h4 hg hc, blk_ownG h5 hg hc, blk_ownG h6 hg hc, h7.grown hg h7.size (fun k e => by have := (hr k e).1; omega), h8, h9, Nat.le_trans h10 hg.size⟩
theorem ScanInv.alloc {w : World} {o ep : Nat} {dc rc : List Value} {pre : List (Fr × Nat)} {W : World} (h : ScanInv w o ep dc rc pre W) (x : Obj) : ScanInv w o ep dc rc pre (W.alloc x) := by
  obtain ⟨⟨A, c, h1, h2⟩, h3, h4, h5, h6, h7, h8, h9, h10⟩ := h
  exact ⟨⟨A, c, h1.alloc x, h2.alloc x⟩, h3.alloc x, h4.alloc x, h5.alloc x, h6.alloc x, h7.alloc h7.size x, h8, h9, by simp; omega⟩
/-- Why the loop is left. -/
def ScanEnd (w : World) (o ep : Nat) (dc rc : List Value) (c : Code) (pre : List (Fr × Nat)) (W : World) : Prop := c = .exit 0 ∧ ∃ ini x, pre = ini ++ [x] ∧ ScanInv w o ep dc rc ini W ∧ (ini.length < 1024 → ¬ (x.1.epoch = ep ∧ x.1.seq = ini.length))
set_option maxHeartbeats 4000000 in
set_option maxRecDepth 100000 in
theorem scan_cap (v : Value) (d : Dk) (f s ep : Nat) (w : World) (hv : DkIs w v d) (hr : right d = true) (ho : d.off = false) (hs1 : 1 ≤ s) (hfs : f + s ≤ d.secs.length) (hep : ep < 18446744073709551616) :
    Calls Try.prog 30 #[v, .agg #[.int .i64 (f : Int), .int .i64 (s : Int)], .int .u64 (ep : Int)] w fun e w' =>
      (∃ A c, e = .returned (.tuple #[.slice A (logOf d f s ep).1.length c, .int .i64 ((logOf d f s ep).2 : Int), .int .i64 0]) ∧ (logOf d f s ep).1.length ≤ c ∧ (∀ a, A = some a → w.heap.size ≤ a.block) ∧ Frames w' A (logOf d f s ep).1) ∧ Below w.heap.size w w' := by
  have hlen := right_len hr
  have hck := fun W hb => walCheck_w v d (f : Int) (s : Int) W (DkIs.below hv hb) (by omega) (by omega)
  have hwe : walE d (f : Int) (s : Int) = 0 := by
    have : regOk d (f : Int) (s : Int) = true := by simp [regOk]; omega
    simp [walE, hr, this]
  rw [hwe] at hck
  have hv0 := hv
  obtain ⟨A1, c1, A2, c2, rfl, h1, h2, hl1, hl2, _⟩ := hv
  have k1 := ((Blk.new w [.slice A1 d.secs.length c1, .slice A2 d.pend.length c2, .bool d.off, .int .i64 d.fuse] 49).alloc (.cells #[.int .i64 (f : Int), .int .i64 (s : Int)] 53)).alloc (.cells #[.int .u64 (ep : Int)] 22)
  have k2 := (Blk.new (w.alloc (.cells #[.slice A1 d.secs.length c1, .slice A2 d.pend.length c2, .bool d.off, .int .i64 d.fuse] 49)) [.int .i64 (f : Int), .int .i64 (s : Int)] 53).alloc (.cells #[.int .u64 (ep : Int)] 22)
  have k3 := Blk.new ((w.alloc (.cells #[.slice A1 d.secs.length c1, .slice A2 d.pend.length c2, .bool d.off, .int .i64 d.fuse] 49)).alloc (.cells #[.int .i64 (f : Int), .int .i64 (s : Int)] 53)) [.int .u64 (ep : Int)] 22
  have b1 := bt (bt (below_alloc w (.cells #[.slice A1 d.secs.length c1, .slice A2 d.pend.length c2, .bool d.off, .int .i64 d.fuse] 49)) (below_alloc _ (.cells #[.int .i64 (f : Int), .int .i64 (s : Int)] 53))) (below_alloc _ (.cells #[.int .u64 (ep : Int)] 22))
  rw [show (w.alloc (.cells #[.slice A1 d.secs.length c1, .slice A2 d.pend.length c2, .bool d.off, .int .i64 d.fuse] 49)).heap.size = w.heap.size + 1 by simp] at k2
  rw [show ((w.alloc (.cells #[.slice A1 d.secs.length c1, .slice A2 d.pend.length c2, .bool d.off, .int .i64 d.fuse] 49)).alloc (.cells #[.int .i64 (f : Int), .int .i64 (s : Int)] 53)).heap.size = w.heap.size + 1 + 1 by simp] at k3
  have hck0 := hck _ b1
  have Ho := hide ho
  rw [ho] at hck0 k1 k2 k3 b1 hv0 ⊢
  clear ho
  refine (callsIn_wide (n := 5)).1 ?_
  refine callsIn_of_wp_marks Try.func30 rfl trivial ?_ rfl
  simp only [Try.ntmps30, List.size_toArray, List.length_cons, List.length_nil, Nat.reduceAdd, Nat.reduceSub, Array.replicate_succ, Array.replicate_zero, List.push_toArray, List.append_toArray, List.nil_append, List.cons_append]
  gi_wp2_with fail
  refine ⟨trivial, ?_⟩
  refine (callsIn_wide.2 hck0).mono ?_
  rintro e W ⟨rfl, hb2⟩
  replace k1 := k1.below hb2
  replace k2 := k2.below hb2
  replace k3 := k3.below hb2
  replace b1 := bt b1 hb2
  clear hck0 hck hb2 hwe
  have x1 := k1.cell
  have k4 := (Blk.new W [.slice none 0 0] 54).alloc (.cells #[.int .i64 0] 3)
  have k5 := Blk.new (W.alloc (.cells #[.slice none 0 0] 54)) [.int .i64 0] 3
  rw [show (W.alloc (.cells #[.slice none 0 0] 54)).heap.size = W.heap.size + 1 by simp] at k5
  replace k1 := (k1.alloc (.cells #[.slice none 0 0] 54)).alloc (.cells #[.int .i64 0] 3)
  replace k2 := (k2.alloc (.cells #[.slice none 0 0] 54)).alloc (.cells #[.int .i64 0] 3)
  replace k3 := (k3.alloc (.cells #[.slice none 0 0] 54)).alloc (.cells #[.int .i64 0] 3)
  have b3 := bt (bt b1 (below_alloc W (.cells #[.slice none 0 0] 54))) (below_alloc (W.alloc (.cells #[.slice none 0 0] 54)) (.cells #[.int .i64 0] 3))
  have y1 := k1.cell
  have y2 := k2.cell
  gi_wp2_with fail
  refine ⟨trivial, ?_⟩
  refine (callsIn_wide.2 (lies_w _ _ _ _ _ _ _)).mono ?_
  rintro e w3 ⟨rfl, rfl⟩
  obtain ⟨W3, HW3⟩ := named ((W.alloc (.cells #[.slice none 0 0] 54)).alloc (.cells #[.int .i64 0] 3))
  have hsz3 : W3.heap.size = W.heap.size + 1 + 1 := by rw [HW3.out]; simp
  rw [← HW3.out] at k1 k2 k3 k4 k5 b3 ⊢
  have hob : w.heap.size ≤ W.heap.size := b1.size
  clear y1 y2 x1 HW3 b1
  gi_wp2_with fail
  have q1 := (Blk.new W3 [.slice A1 d.secs.length c1, .slice A2 d.pend.length c2, .bool false, .int .i64 d.fuse] 49).alloc (.cells #[.int .i64 (f : Int), .int .i64 (s : Int)] 53)
  have q2 := Blk.new (W3.alloc (.cells #[.slice A1 d.secs.length c1, .slice A2 d.pend.length c2, .bool false, .int .i64 d.fuse] 49)) [.int .i64 (f : Int), .int .i64 (s : Int)] 53
  rw [show (W3.alloc (.cells #[.slice A1 d.secs.length c1, .slice A2 d.pend.length c2, .bool false, .int .i64 d.fuse] 49)).heap.size = W3.heap.size + 1 by simp] at q2
  rw [hsz3] at q1 q2
  have q3 := (k3.alloc (.cells #[.slice A1 d.secs.length c1, .slice A2 d.pend.length c2, .bool false, .int .i64 d.fuse] 49)).alloc (.cells #[.int .i64 (f : Int), .int .i64 (s : Int)] 53)
  have q4 := (k4.alloc (.cells #[.slice A1 d.secs.length c1, .slice A2 d.pend.length c2, .bool false, .int .i64 d.fuse] 49)).alloc (.cells #[.int .i64 (f : Int), .int .i64 (s : Int)] 53)
  have q5 := (k5.alloc (.cells #[.slice A1 d.secs.length c1, .slice A2 d.pend.length c2, .bool false, .int .i64 d.fuse] 49)).alloc (.cells #[.int .i64 (f : Int), .int .i64 (s : Int)] 53)
  have qb := bt (bt b3 (below_alloc W3 (.cells #[.slice A1 d.secs.length c1, .slice A2 d.pend.length c2, .bool false, .int .i64 d.fuse] 49))) (below_alloc _ (.cells #[.int .i64 (f : Int), .int .i64 (s : Int)] 53))
  obtain ⟨W4, HW4⟩ := named ((W3.alloc (.cells #[.slice A1 d.secs.length c1, .slice A2 d.pend.length c2, .bool false, .int .i64 d.fuse] 49)).alloc (.cells #[.int .i64 (f : Int), .int .i64 (s : Int)] 53))
  have hsz4 : W4.heap.size = W.heap.size + 4 := by rw [HW4.out]; simp [hsz3]
  rw [← HW4.out] at q1 q2 q3 q4 q5 qb ⊢
  obtain ⟨o, Hoo⟩ := named W.heap.size
  rw [← Hoo.out] at q1 q2 q4 q5 hob hsz4 ⊢
  have Hs4 := hide hsz4
  have hlt4 : o + 1 + 1 + 1 < W4.heap.size := by omega
  clear k1 k2 k3 k4 k5 b3 HW4 Hoo hsz3 hsz4
  obtain ⟨j0, hj, hy0, hy1, hy2⟩ := info_parts Try.info24
  have hI0 : ScanInv w o ep [.slice A1 d.secs.length c1, .slice A2 d.pend.length c2, .bool false, .int .i64 d.fuse] [.int .i64 (f : Int), .int .i64 (s : Int)] [] W4 :=
    ⟨⟨none, 0, q4, World.ownsRow_nil _ _ _ _⟩, q5, q1, q2, q3, qb, by simp, Sel.nil _ _, by omega⟩
  refine wpIn_rangeFunc_ownH (F := Fence.wide) (n := 5) rfl (by omega) (gf := 90) (lb := #[.pointer (some ⟨o + 1 + 1 + 1, 0, none⟩), .pointer (some ⟨o + 1 + 1, 0, none⟩)]) rfl trivial (enters_of Try.func90 (by kernel_rfl) rfl)
    (lies_stops 4 (by omega) (o + 1 + 1 + 1) (o + 1 + 1) _ d f s w W4 hv0 hr Ho.out hfs qb hlt4 (by omega) (fun i => q2.cell i) (fun B1 e1 B2 e2 e i => by
      simp only [Value.agg.injEq, Array.mk.injEq, List.cons.injEq, Value.slice.injEq, and_true, true_and, Value.bool.injEq] at e
      obtain ⟨⟨rfl, rfl⟩, ⟨rfl, rfl⟩, _⟩ := e
      rw [q1.cell, Ho.out])) KeepL.trans (fun X l x x' hl h hc hwk => ⟨belowK_b (w := W4) qb.size X l x x' hl h hc hwk, Keep2.put (n := W4.heap.size) hlt4 (by omega) X l x x' hl h hc⟩) (Below.refl _ _) (fun _ => rfl)
    (ScanInv w o ep [.slice A1 d.secs.length c1, .slice A2 d.pend.length c2, .bool false, .int .i64 d.fuse] [.int .i64 (f : Int), .int .i64 (s : Int)])
    (ScanEnd w o ep [.slice A1 d.secs.length c1, .slice A2 d.pend.length c2, .bool false, .int .i64 d.fuse] [.int .i64 (f : Int), .int .i64 (s : Int)])
    (fun pre X Y row hs hg hr => hs.ownG hg (fun r e => ⟨by have := (hr r e).1; have := Hs4.out; omega, (hr r e).2⟩) hob)
    (fun c pre X Y row hs hg hr => by
      obtain ⟨e1, ini, x, e2, hs, e3⟩ := hs
      exact ⟨e1, ini, x, e2, hs.ownG hg (fun r e => ⟨by have := (hr r e).1; have := Hs4.out; omega, (hr r e).2⟩) hob, e3⟩)
    hI0
    (fun x a' X => ∃ Bx, Blk X Bx (frCells x.1) 24 ∧ a' = { tmps := #[.agg #[.slice A1 d.secs.length c1, .slice A2 d.pend.length c2, .bool false, .int .i64 d.fuse], .agg #[.int .i64 (f : Int), .int .i64 (s : Int)], .int .u64 (ep : Int), .pointer (some ⟨w.heap.size, 0, none⟩), .pointer (some ⟨w.heap.size + 1, 0, none⟩), .pointer (some ⟨w.heap.size + 1 + 1, 0, none⟩), .slice none 0 0, .int .i64 0, .int .i64 0, .int .i64 0, .pointer (some ⟨o, 0, none⟩), .pointer (some ⟨o + 1, 0, none⟩), .pointer (some ⟨Bx, 0, none⟩), .int .i64 (x.2 : Int),
      .agg #[.slice A1 d.secs.length c1, .slice A2 d.pend.length c2, .bool false, .int .i64 d.fuse], .agg #[.int .i64 (f : Int), .int .i64 (s : Int)], .int .i64 0, .int .i64 0, .bool false, undef, .pointer (some ⟨w.heap.size, 2, none⟩), .bool false, .agg #[.slice A1 d.secs.length c1, .slice A2 d.pend.length c2, .bool false, .int .i64 d.fuse], .agg #[.int .i64 (f : Int), .int .i64 (s : Int)], .func (.func 90) #[] #[.pointer (some ⟨o + 1 + 1 + 1, 0, none⟩), .pointer (some ⟨o + 1 + 1, 0, none⟩)], frVal x.1, .int .i64 (x.2 : Int), undef, undef, undef, undef, undef, undef, undef, undef, undef, undef, undef, undef, undef, undef, undef, undef, undef, undef, undef, undef, undef, undef, undef, undef], defers := [] })
    (fun x a' _ X Y row hs hg hr => by obtain ⟨Bx, e1, e2⟩ := hs; exact ⟨Bx, blk_ownG e1 hg (fun r e => (hr r e).2), e2⟩)
    ?assign ?body ?done ?stop
  case assign =>
    rintro l pre x X K hI hK
    have HK := hide hK
    clear hK
    dsimp only [encF, frVal]
    gi_wp2
    exact HK.out _ _ ((KeepsOthers.alloc _ _).from _) ⟨(Below.refl _ X).alloc hI.below.size _, Keep2.of_below (below_alloc X _) hI.reg.lt hI.dsk.lt⟩ (hI.alloc _) ⟨X.heap.size, Blk.new X (frCells x.1) _, rfl⟩
  case body =>
    rintro l pre x a' X hl ⟨r, hr'⟩ hI ⟨Bx, bX, rfl⟩ hlt
    obtain ⟨⟨A, c, i1, i2⟩, i3, i4, i5, i6, i7, i8, i9, i10⟩ := hI
    have hI : ScanInv w o ep [.slice A1 d.secs.length c1, .slice A2 d.pend.length c2, .bool false, .int .i64 d.fuse] [.int .i64 (f : Int), .int .i64 (s : Int)] pre X := ⟨⟨A, c, i1, i2⟩, i3, i4, i5, i6, i7, i8, i9, i10⟩
    obtain ⟨⟨kd, epo, sq, pay⟩, a2⟩ := x
    dsimp only [frCells] at bX
    obtain ⟨F, HF⟩ := named (str pay)
    rw [← HF.out] at bX
    have yX := bX.cell
    have yE := i6.cell 0
    have yO := i1.cell 0
    have hwl : IntKind.u64.wrap (pre.length : Int) = (pre.length : Int) := wrap_u64_nat _ (by omega)
    by_cases hg : (epo = ep ∧ sq = pre.length) ∧ pre.length < 1024
    case neg =>
      have hend : ∀ Y : World, ScanInv w o ep [.slice A1 d.secs.length c1, .slice A2 d.pend.length c2, .bool false, .int .i64 d.fuse] [.int .i64 (f : Int), .int .i64 (s : Int)] pre Y → ScanEnd w o ep [.slice A1 d.secs.length c1, .slice A2 d.pend.length c2, .bool false, .int .i64 d.fuse] [.int .i64 (f : Int), .int .i64 (s : Int)] (.exit 0) (pre ++ [(⟨kd, epo, sq, pay⟩, a2)]) Y := fun Y hY => ⟨rfl, pre, _, rfl, hY, fun h1 h2 => hg ⟨h2, h1⟩⟩
      by_cases he : epo = ep
      case neg =>
        have ht1 : ((epo : Int) != (ep : Int)) = true := by simp; omega
        clear hg he
        gi_wp2
        exact ⟨KeepsFrom.refl _ _, hend _ hI⟩
      by_cases hq : sq = pre.length
      case neg =>
        have ht1 : ((epo : Int) != (ep : Int)) = false := by simp; omega
        have ht2 : ((sq : Int) != (pre.length : Int)) = true := by simp; omega
        clear hg he hq
        gi_wp2
        exact ⟨KeepsFrom.refl _ _, hend _ hI⟩
      have hge : (1024 : Int) ≤ (pre.length : Int) := by omega
      have ht1 : ((epo : Int) != (ep : Int)) = false := by simp; omega
      have ht2 : ((sq : Int) != (pre.length : Int)) = false := by simp; omega
      clear hg he hq
      gi_wp2
      exact ⟨KeepsFrom.refl _ _, hend _ hI⟩
    obtain ⟨⟨he, hq⟩, hln⟩ := hg
    have hltI : ¬ ((1024 : Int) ≤ (pre.length : Int)) := by omega
    have hltD : decide ((1024 : Int) ≤ (pre.length : Int)) = false := decide_eq_false hltI
    have ht1 : ((epo : Int) != (ep : Int)) = false := by simp; omega
    have ht2 : ((sq : Int) != (pre.length : Int)) = false := by simp; omega
    have hsel : Sel ep 0 (pre ++ [((⟨kd, epo, sq, pay⟩ : Fr), a2)]) := i9.snoc he (by simpa using hq)
    have Hsel := hide hsel
    clear hsel he hq
    have hOx := own_below i2 (below_alloc X (.cells #[.int .u8 (kd.toNat : Int), .int .u64 (epo : Int), .int .u64 (sq : Int), .string F] 24))
    have z1 := i1.alloc (.cells #[.int .u8 (kd.toNat : Int), .int .u64 (epo : Int), .int .u64 (sq : Int), .string F] 24)
    have z3 := i3.alloc (.cells #[.int .u8 (kd.toNat : Int), .int .u64 (epo : Int), .int .u64 (sq : Int), .string F] 24)
    have z4 := i4.alloc (.cells #[.int .u8 (kd.toNat : Int), .int .u64 (epo : Int), .int .u64 (sq : Int), .string F] 24)
    have z5 := i5.alloc (.cells #[.int .u8 (kd.toNat : Int), .int .u64 (epo : Int), .int .u64 (sq : Int), .string F] 24)
    have z6 := i6.alloc (.cells #[.int .u8 (kd.toNat : Int), .int .u64 (epo : Int), .int .u64 (sq : Int), .string F] 24)
    have hszX := i7.size
    gi_wp2_with (gi_at_builtin; refine wpListIn_append_lies _ rfl (.tmp 44) (.tmp 46) _ rfl w.heap.size 24 j0 _ 4 40 Try.underlying54 hj hy0 hy1 hy2 rfl (by omega) (.slice A pre.length c) pre.length _ rfl hOx ⟨X.heap.size, 0, none⟩ 1 1 [.int .u8 (kd.toNat : Int), .int .u64 (epo : Int), .int .u64 (sq : Int), .string F] rfl rfl (World.news_of_block (cs := #[.int .u8 (kd.toNat : Int), .int .u64 (epo : Int), .int .u64 (sq : Int), .string F]) (t := 24) (fr := (0, 0)) (heap_alloc_new X _)) (by simp [Value.oneCell']) (by omega) (by simp only [maxLen]; omega) (by omega) (by simp; omega) (X.heap.size + 1) (by simp) ?_; intro gg cap w6 hown1 hgrow hat hlt9; have n1 := blk_grown z1 hOx hgrow (by decide); have n3 := blk_grown z3 hOx hgrow (by decide); have g1 := n1.cell 0; have g2 := n1.free 0; have g3 := n3.cell 0; have g4 := n3.free 0)
    have n4 := blk_grown z4 hOx hgrow (by decide)
    have n5 := blk_grown z5 hOx hgrow (by decide)
    have n6 := blk_grown z6 hOx hgrow (by decide)
    have hO2 : w6.ownsRow w.heap.size 24 4 (.slice (some ⟨gg, 0, none⟩) (pre.length + 1) cap) (pre.length + 1) (frs ((pre ++ [((⟨kd, epo, sq, pay⟩ : Fr), a2)]).map (·.1))) := by
      rw [show frs ((pre ++ [((⟨kd, epo, sq, pay⟩ : Fr), a2)]).map (·.1)) = frs (pre.map (·.1)) ++ [.int .u8 (kd.toNat : Int), .int .u64 (epo : Int), .int .u64 (sq : Int), .string F] by rw [List.map_append, frs_append, HF.out]; rfl]
      exact hown1
    have hO3 := own_far hO2 (p := ⟨o, 0, none⟩) (own_blk_ne hO2 n1 (by decide)) (.slice (some ⟨gg, 0, none⟩) (pre.length + 1) cap)
    have r1 := (n1.set 0 (.slice (some ⟨gg, 0, none⟩) (pre.length + 1) cap)).far (p := ⟨o + 1, 0, none⟩) (by show o ≠ o + 1; omega) (.int .i64 (a2 : Int))
    have r3' := n3.far (p := ⟨o, 0, none⟩) (by show o + 1 ≠ o; omega) (.slice (some ⟨gg, 0, none⟩) (pre.length + 1) cap)
    have hO4 := own_far hO3 (p := ⟨o + 1, 0, none⟩) (own_blk_ne hO3 r3' (by decide)) (.int .i64 (a2 : Int))
    have r3 := r3'.set 0 (.int .i64 (a2 : Int))
    have r4 := (n4.far (p := ⟨o, 0, none⟩) (by show o + 1 + 1 ≠ o; omega) (.slice (some ⟨gg, 0, none⟩) (pre.length + 1) cap)).far (p := ⟨o + 1, 0, none⟩) (by show o + 1 + 1 ≠ o + 1; omega) (.int .i64 (a2 : Int))
    have r5 := (n5.far (p := ⟨o, 0, none⟩) (by show o + 1 + 1 + 1 ≠ o; omega) (.slice (some ⟨gg, 0, none⟩) (pre.length + 1) cap)).far (p := ⟨o + 1, 0, none⟩) (by show o + 1 + 1 + 1 ≠ o + 1; omega) (.int .i64 (a2 : Int))
    have hne6 : w.heap.size + 1 + 1 ≠ o ∧ w.heap.size + 1 + 1 ≠ o + 1 := by
      constructor
      · intro e
        have h1 := i1
        rw [← e] at h1
        have := h1.symm.trans i6
        simp at this
      · intro e
        have h1 := i3
        rw [← e] at h1
        have := h1.symm.trans i6
        simp at this
    have r6 := (n6.far (p := ⟨o, 0, none⟩) hne6.1 (.slice (some ⟨gg, 0, none⟩) (pre.length + 1) cap)).far (p := ⟨o + 1, 0, none⟩) hne6.2 (.int .i64 (a2 : Int))
    have hb6 : Below w.heap.size w w6 := (i7.alloc i7.size _).grown hgrow (by simp; omega) (fun k' e => (World.ownsRow.lt hOx k' e).1)
    have hb7 := (hb6.setCell (p := ⟨o, 0, none⟩) hob (.slice (some ⟨gg, 0, none⟩) (pre.length + 1) cap)).setCell (p := ⟨o + 1, 0, none⟩) (by show w.heap.size ≤ o + 1; omega) (.int .i64 (a2 : Int))
    have hbX : Below w.heap.size X w6 := ((below_alloc X _).mono hszX).grown hgrow (by simp; omega) (fun k' e => (World.ownsRow.lt hOx k' e).1)
    have hbX7 := (hbX.setCell (p := ⟨o, 0, none⟩) hob (.slice (some ⟨gg, 0, none⟩) (pre.length + 1) cap)).setCell (p := ⟨o + 1, 0, none⟩) (by show w.heap.size ≤ o + 1; omega) (.int .i64 (a2 : Int))
    gi_wp2
    refine ⟨(((KeepsOthers.alloc X _).from _).trans ((KeepsOthers.of_grownBy hgrow (fun j x e hx => by
      rcases hOx.2 with ⟨h, _⟩ | ⟨g', cap', cur', h, _, hh, _⟩
      · rw [h] at e; cases e
      · rw [h] at e
        have : g' = j := by simpa [Value.ownBlock] using e
        subst this
        rw [hh] at hx
        cases hx
        rfl)).from _)).trans (((KeepsOthers.setCell _ _ _).trans (KeepsOthers.setCell _ _ _)).from _), ⟨hbX7, fun i => ⟨(r5.cell i).trans (i5.cell i).symm, (r4.cell i).trans (i4.cell i).symm⟩⟩, ⟨⟨some ⟨gg, 0, none⟩, cap, ?_, ?_⟩, ?_, r4, r5, r6, hb7, ?_, Hsel.out, ?_⟩⟩
    · rw [List.length_append]; exact r1
    · rw [List.length_append]; exact hO4
    · rw [endFrom_snoc]; exact r3
    · rw [List.length_append, List.length_singleton]; omega
    · have := hbX7.size; omega
  case done =>
    rintro D ys X hD rfl ⟨⟨A, c, i1, i2⟩, i3, i4, i5, i6, i7, i8, i9, i10⟩ hK
    have y1 := i1.cell 0
    have y3 := i3.cell 0
    have HK := hide hK
    have hL := log_of_rest (d := d) (f := f) (s := s) (ep := ep) (restL d f s 0) [] 1024 0 0 (by simp) i9 i8 (fun x hx => by simp at hx)
    have HL := hide hL
    clear hK hL
    gi_wp2_with (gi_quiet (fail))
    refine ⟨by simp, .inl ⟨_, _, rfl, run_takeDeferred (w := X.drewN nq) HK.out, ?_⟩⟩
    have hown := own_ownG (W := X.drewN nq) i2 (grownBy_putObj' _ D (.deferred none)) (fun r e => by cases e; exact ⟨_, HK.out, rfl⟩)
    obtain ⟨A', c', hAc, hcap, _, hlies, hfrA⟩ := Lies.of_own hown
    cases hAc
    have hl1024 : (restL d f s 0).length = (logOf d f s ep).1.length := by rw [logOf, HL.out, List.length_map]
    refine ⟨.tuple #[.slice A (restL d f s 0).length c, .int .i64 (endFrom 0 (restL d f s 0) : Int), .int .i64 0], ?_, ⟨A, c, by rw [logOf, HL.out, List.length_map], ?_, ?_, ?_⟩, (below_drewN i7 nq).trans (belowK_b (w := w) (Nat.le_refl _) _ D _ _ (by omega) HK.out rfl rfl)⟩
    · simp [results, Try.f30, go_sem]
    · rw [logOf, HL.out, List.length_map]; exact hcap
    · exact hfrA
    · rw [logOf, HL.out]
      unfold Frames
      rw [List.length_map]
      exact hlies
  case stop =>
    rintro D c pre X hD ⟨rest, hrest⟩ ⟨rfl, ini, x, rfl, ⟨⟨A, cc, i1, i2⟩, i3, i4, i5, i6, i7, i8, i9, i10⟩, hne⟩ hK
    have y1 := i1.cell 0
    have y3 := i3.cell 0
    have HK := hide hK
    have hL := log_of_rest (d := d) (f := f) (s := s) (ep := ep) ini (x :: rest) 1024 0 0 (by rw [hrest]; simp) i9 i8 (fun y hy h1 => by
      simp only [List.head?_cons, Option.some.injEq] at hy
      subst hy
      have := hne h1
      simpa using this)
    have HL := hide hL
    clear hK hL hne hrest
    gi_wp2_with (gi_quiet (fail))
    refine ⟨by simp, .inl ⟨_, _, rfl, run_takeDeferred (w := X.drewN nq) HK.out, ?_⟩⟩
    have hown := own_ownG (W := X.drewN nq) i2 (grownBy_putObj' _ D (.deferred none)) (fun r e => by cases e; exact ⟨_, HK.out, rfl⟩)
    obtain ⟨A', c', hAc, hcap, _, hlies, hfrA⟩ := Lies.of_own hown
    cases hAc
    refine ⟨.tuple #[.slice A ini.length cc, .int .i64 (endFrom 0 ini : Int), .int .i64 0], ?_, ⟨A, cc, by rw [logOf, HL.out, List.length_map], ?_, ?_, ?_⟩, (below_drewN i7 nq).trans (belowK_b (w := w) (Nat.le_refl _) _ D _ _ (by omega) HK.out rfl rfl)⟩
    · simp [results, Try.f30, go_sem]
    · rw [logOf, HL.out, List.length_map]; exact hcap
    · exact hfrA
    · rw [logOf, HL.out]
      unfold Frames
      rw [List.length_map]
      exact hlies
theorem scan_yes (v : Value) (d : Dk) (f s ep : Nat) (w : World) (hv : DkIs w v d) (hr : right d = true) (ho : d.off = false) (hs1 : 1 ≤ s) (hfs : f + s ≤ d.secs.length) (hep : ep < 18446744073709551616) :
    Calls Try.prog 30 #[v, .agg #[.int .i64 (f : Int), .int .i64 (s : Int)], .int .u64 (ep : Int)] w fun e w' =>
      (∃ A c, e = .returned (.tuple #[.slice A (logOf d f s ep).1.length c, .int .i64 ((logOf d f s ep).2 : Int), .int .i64 0]) ∧ Frames w' A (logOf d f s ep).1) ∧ Below w.heap.size w w' := by
  refine (scan_cap v d f s ep w hv hr ho hs1 hfs hep).mono ?_
  rintro e w' ⟨⟨A, c, rfl, _, _, h⟩, hb⟩
  exact ⟨⟨A, c, rfl, h⟩, hb⟩
end Go.Proofs.Ytdgonhmipecjpaa
