/- The walk of sector.Read where it reads. -/
import Derived.Test.YtcnhdmchoiiceaaSecRead
namespace Go.Proofs.Ytcnhdmchoiiceaa
open Go.RowKit Go.Shelf
attribute [local go_sem] Oper.semAt_some
set_option maxRecDepth 100000 in
set_option maxHeartbeats 1000000 in
theorem read_ok (A1 A2 : Option Addr) (c1 c2 : Nat) (d : Dk) (n : Int) (w : World) (h1 : Texts w A1 d.secs) (h2 : Writes w A2 d.pend) (hl1 : d.secs.length ≤ 140737488351232) (hl2 : d.pend.length ≤ 140737488351232) (hr : right d = true) (ho : d.off = false) (ht : there d.secs n = true) :
    Calls Try.prog 18 #[.agg #[.slice A1 d.secs.length c1, .slice A2 d.pend.length c2, .bool d.off, .int .i64 d.fuse], .int .i64 n] w (ReadRet (holdsOf d n) 0 w) := by
  have b0 := four_below w [.slice A1 d.secs.length c1, .slice A2 d.pend.length c2, .bool d.off, .int .i64 d.fuse] [.int .i64 n] [.string ⟨#[]⟩] [.int .i64 0] 25 3 9 27
  obtain ⟨k1, k2, k3, k4⟩ := four_blk w [.slice A1 d.secs.length c1, .slice A2 d.pend.length c2, .bool d.off, .int .i64 d.fuse] [.int .i64 n] [.string ⟨#[]⟩] [.int .i64 0] 25 3 9 27
  have hE := hide (show checkE d = 0 by simp [checkE, hr])
  have Ho := hide ho
  have Ht := hide ht
  clear ho ht hr
  have hn : 0 ≤ n ∧ n < d.secs.length := by have := Ht.out; simp [there] at this; exact this
  obtain ⟨hn1, hn2⟩ := hn
  refine (callsIn_wide (n := 5)).1 ?_
  refine callsIn_of_wp_marks Try.func18 rfl trivial ?_ rfl
  simp only [Try.ntmps18, List.size_toArray, List.length_cons, List.length_nil, Nat.reduceAdd, Nat.reduceSub, Array.replicate_succ, Array.replicate_zero, List.push_toArray, List.append_toArray, List.nil_append, List.cons_append]
  gi_wp2_with fail
  refine ⟨trivial, ?_⟩
  refine (callsIn_wide.2 (check_w A1 A2 c1 c2 d _ (h1.below b0) (h2.below b0) hl1 hl2)).mono ?_
  rw [hE.out]
  rintro e w1 ⟨rfl, hb⟩
  have hbw := bt b0 hb
  have q1 := k1.below hb
  have q2 := k2.below hb
  have q3 := k3.below hb
  have q4 := k4.below hb
  have x1 := q1.cell
  have x2 := q2.cell
  clear k1 k2 k3 k4 b0 hb
  have ho := Ho.out
  gi_wp2_with fail
  refine ⟨trivial, ?_⟩
  refine (callsIn_wide.2 (there_w A1 A2 c1 d.pend.length c2 d.secs false d.fuse n _)).mono ?_
  rw [Ht.out]
  rintro e w2 ⟨rfl, hb2⟩
  have hbw2 := bt hbw hb2
  have p1 := q1.below hb2
  have p2 := q2.below hb2
  have p3 := q3.below hb2
  have p4 := q4.below hb2
  have x1 := p1.cell
  clear q1 q2 q3 q4 hb2 hbw
  gi_wp2_with fail
  refine ⟨trivial, ?_⟩
  refine (callsIn_wide.2 (backward_w A2 d.pend.length c2 _)).mono ?_
  rintro e w3 ⟨rfl, rfl⟩
  obtain ⟨W2, HW2⟩ := named w2
  rw [← HW2.out] at hbw2 p1 p2 p3 p4 ⊢
  clear x1 HW2
  gi_wp2_with fail
  have g1 := p1.alloc (.cells #[.slice A2 d.pend.length c2] 23)
  have g2 := p2.alloc (.cells #[.slice A2 d.pend.length c2] 23)
  have g3 := p3.alloc (.cells #[.slice A2 d.pend.length c2] 23)
  have g4 := p4.alloc (.cells #[.slice A2 d.pend.length c2] 23)
  have g5 := Blk.new W2 [.slice A2 d.pend.length c2] 23
  have hbw3 := bt hbw2 (below_alloc W2 (.cells #[.slice A2 d.pend.length c2] 23))
  have hg4 := p4.lt
  obtain ⟨W3, HW3⟩ := named (W2.alloc (.cells #[.slice A2 d.pend.length c2] 23))
  have hsz : W3.heap.size = W2.heap.size + 1 := by rw [HW3.out]; simp
  have Hsz := hide hsz
  have hsz' : W2.heap.size < W3.heap.size := by omega
  have g5' : Blk W3 W2.heap.size [.slice A2 d.pend.length c2] 23 := by rw [HW3.out]; exact g5
  rw [← HW3.out] at g1 g2 g3 g4 hbw3 ⊢
  clear hsz p1 p2 p3 p4 g5
  have hAA : ∀ a, A2 = some a → d.pend ≠ [] → a.block < w.heap.size := fun a ha hne => by
    obtain ⟨b, o, e, hc⟩ := h2.2 (by intro h0; have := wrs_length d.pend; rw [h0] at this; simp at this; exact hne (List.eq_nil_of_length_eq_zero (by omega)))
    rw [ha] at e
    cases e
    have hpos : 0 < d.pend.length := by rcases Nat.eq_zero_or_pos d.pend.length with h | h; exact absurd (List.eq_nil_of_length_eq_zero h) hne; exact h
    exact World.block_lt_of_cell? w _ (hc 0 _ (wrs_get d.pend 0 hpos).1)
  have hWW := h2.below hbw3
  have hwsz := hbw2.size
  refine wpIn_rangeFunc_ownH (F := Fence.wide) (n := 5) rfl (by omega) (gf := 54) (lb := #[.pointer (some ⟨W2.heap.size, 0, none⟩)]) rfl trivial (enters_of Try.func54 (by kernel_rfl) rfl)
    (back_stops 4 (by omega) W2.heap.size W3.heap.size A2 c2 d.pend hl2 W3 (by omega) (Nat.le_refl _) (by rw [g5'.cell]; rfl) (fun a ha hne => by have := hAA a ha hne; omega) hWW) belowK_t (belowK_b (by omega)) (Below.refl _ _) (fun _ => rfl)
    (fun pre W => (∀ p ∈ pre, (p.2.sec == n) = false) ∧ Blk W w.heap.size [.slice A1 d.secs.length c1, .slice A2 d.pend.length c2, .bool d.off, .int .i64 d.fuse] 25 ∧ Blk W (w.heap.size + 1) [.int .i64 n] 3 ∧ Blk W (w.heap.size + 1 + 1) [.string ⟨#[]⟩] 9 ∧ Blk W (w.heap.size + 1 + 1 + 1) [.int .i64 0] 27 ∧ Below w.heap.size w W ∧ W3.heap.size ≤ W.heap.size)
    (fun c pre W => (c = .ret ∧ ∃ ini last, pre = ini ++ [last] ∧ (∀ p ∈ ini, (p.2.sec == n) = false) ∧ (last.2.sec == n) = true ∧ Blk W (w.heap.size + 1 + 1) [.string last.2.data] 9 ∧ Blk W (w.heap.size + 1 + 1 + 1) [.int .i64 0] 27) ∧ Below w.heap.size w W)
    (fun pre W W' row hs hg hr => ⟨hs.1, hs.2.1.ownG hg (fun r e => (hr r e).2), hs.2.2.1.ownG hg (fun r e => (hr r e).2), hs.2.2.2.1.ownG hg (fun r e => (hr r e).2), hs.2.2.2.2.1.ownG hg (fun r e => (hr r e).2), hs.2.2.2.2.2.1.grown hg hs.2.2.2.2.2.1.size (fun k e => by have := (hr k e).1; omega), Nat.le_trans hs.2.2.2.2.2.2 hg.size⟩)
    (fun c pre W W' row hs hg hr => by
      obtain ⟨⟨e1, ini, last, e2, e3, e4, e5, e6⟩, e7⟩ := hs
      exact ⟨⟨e1, ini, last, e2, e3, e4, e5.ownG hg (fun r e => (hr r e).2), e6.ownG hg (fun r e => (hr r e).2)⟩, e7.grown hg e7.size (fun k e => by have := (hr k e).1; omega)⟩)
    ⟨by simp, g1, g2, g3, g4, hbw3, Nat.le_refl _⟩
    (fun x a' W => ∃ Bx, w.heap.size + 1 + 1 + 1 < Bx ∧ Blk W Bx [.int .i64 x.2.sec, .string x.2.data] 43 ∧ a' = { tmps := #[.agg #[.slice A1 d.secs.length c1, .slice A2 d.pend.length c2, .bool false, .int .i64 d.fuse], .int .i64 n, .pointer (some ⟨w.heap.size, 0, none⟩), .pointer (some ⟨w.heap.size + 1, 0, none⟩), .pointer (some ⟨w.heap.size + 1 + 1, 0, none⟩), .pointer (some ⟨w.heap.size + 1 + 1 + 1, 0, none⟩), .int .i64 0, undef, .pointer (some ⟨Bx, 0, none⟩), .agg #[.slice A1 d.secs.length c1, .slice A2 d.pend.length c2, .bool false, .int .i64 d.fuse], .int .i64 0, .bool false, .int .i64 0, .bool false, undef, .bool false, .pointer (some ⟨w.heap.size, 2, none⟩), .bool false, .bool false, .agg #[.slice A1 d.secs.length c1, .slice A2 d.pend.length c2, .bool false, .int .i64 d.fuse], .int .i64 n, .bool true, .bool false, .pointer (some ⟨w.heap.size, 1, none⟩), .slice A2 d.pend.length c2, .func (.func 54) #[] #[.pointer (some ⟨W2.heap.size, 0, none⟩)], .int .i64 (x.1 : Int), .agg #[.int .i64 x.2.sec, .string x.2.data], undef, undef, undef, undef, undef, undef, undef, undef, undef, undef, undef], defers := [] })
    (fun x a' _ X Y row hs hg hr => by obtain ⟨Bx, e1, e2, e3⟩ := hs; exact ⟨Bx, e1, e2.ownG hg (fun r e => (hr r e).2), e3⟩)
    ?assign ?body ?done ?stop
  case assign =>
    rintro l pre x W K ⟨i1, i2, i3, i4, i5, i6, i7⟩ hK
    have hlt := i5.lt
    have HK := hide hK
    clear hK
    dsimp only [encW]
    gi_wp2
    exact HK.out _ _ ((KeepsOthers.alloc _ _).from _) ((Below.refl _ W).alloc i7 _) ⟨i1, i2.alloc _, i3.alloc _, i4.alloc _, i5.alloc _, i6.alloc i6.size _, by simp; omega⟩ ⟨W.heap.size, hlt, Blk.new W _ _, rfl⟩
  case body =>
    rintro l pre x a' W hl ⟨r, hr⟩ ⟨i1, i2, i3, i4, i5, i6, i7⟩ ⟨Bx, hBx, bX, rfl⟩ hlt
    have y2 := i3.cell
    have y3 := i4.cell
    have y4 := i5.cell
    have f3 := i4.free
    have f4 := i5.free
    have yX := bX.cell
    cases hx : (x.2.sec == n)
    · gi_wp2
      exact ⟨KeepsFrom.refl _ _, Below.refl _ _, fun p hp => (List.mem_append.1 hp).elim (i1 p) (fun e => by simp at e; subst e; exact hx), i2, i3, i4, i5, i6, i7⟩
    · gi_wp2
      have j4 := (i4.set 0 (.string x.2.data)).far (p := ⟨w.heap.size + 1 + 1 + 1, 0, none⟩) (by simp) (.int .i64 0)
      have j5 := (i5.far (p := ⟨w.heap.size + 1 + 1, 0, none⟩) (by simp) (.string x.2.data)).set 0 (.int .i64 0)
      exact ⟨((KeepsOthers.setCell _ _ _).trans (KeepsOthers.setCell _ _ _)).from _, ⟨rfl, pre, x, rfl, i1, hx, j4, j5⟩, (i6.setCell (p := ⟨w.heap.size + 1 + 1, 0, none⟩) (by simp; omega) _).setCell (p := ⟨w.heap.size + 1 + 1 + 1, 0, none⟩) (by simp; omega) _⟩
  case done =>
    rintro D ys W hD rfl ⟨i1, i2, i3, i4, i5, i6, i7⟩ hK
    have y1 := i2.cell
    have y2 := i3.cell
    have y3 := i4.cell
    have y4 := i5.cell
    have f3 := i4.free
    have f4 := i5.free
    obtain ⟨k, rfl⟩ := Int.eq_ofNat_of_zero_le hn1
    obtain ⟨b, o, rfl, hc⟩ := (h1.below i6).at_ (k := k) (by omega)
    have hfin : holdsOf d (k : Int) = d.secs[k] := by
      rw [holds_none d _ i1, Int.toNat_natCast, List.getD_eq_getElem?_getD, List.getElem?_eq_getElem (by omega)]
      rfl
    have Hfin := hide hfin
    clear hfin
    have hK1 := ((KeepsOthers.setCell W ⟨w.heap.size + 1 + 1, 0, none⟩ (.string d.secs[k])).trans (KeepsOthers.setCell _ ⟨w.heap.size + 1 + 1 + 1, 0, none⟩ (.int .i64 0))).same D _ hK rfl
    have j4 := (i4.set 0 (.string d.secs[k])).far (p := ⟨w.heap.size + 1 + 1 + 1, 0, none⟩) (by simp) (.int .i64 0)
    have j5 := (i5.far (p := ⟨w.heap.size + 1 + 1, 0, none⟩) (by simp) (.string d.secs[k])).set 0 (.int .i64 0)
    have jb := (i6.setCell (p := ⟨w.heap.size + 1 + 1, 0, none⟩) (by simp; omega) (.string d.secs[k])).setCell (p := ⟨w.heap.size + 1 + 1 + 1, 0, none⟩) (by simp; omega) (.int .i64 0)
    have HK := hide hK1
    have J4 := hide j4
    have J5 := hide j5
    have JB := hide jb
    clear hK1 j4 j5 jb
    gi_wp2
    refine ⟨by simp, .inl ⟨_, _, rfl, run_takeDeferred HK.out, ?_⟩⟩
    have z4 := (J4.out.ownG (grownBy_putObj' _ D (.deferred none)) (fun r e => by cases e; exact ⟨_, HK.out, rfl⟩)).cell 0
    have z5 := (J5.out.ownG (grownBy_putObj' _ D (.deferred none)) (fun r e => by cases e; exact ⟨_, HK.out, rfl⟩)).cell 0
    refine ⟨.tuple #[.string d.secs[k], .int .i64 0], ?_, by rw [Hfin.out], JB.out.trans (belowK_b (w := w) (Nat.le_refl _) _ D _ _ (by omega) HK.out rfl rfl)⟩
    simp [results, Try.f18, go_sem, z4, z5]
  case stop =>
    rintro D c pre W hD ⟨k, hk, rfl⟩ ⟨⟨rfl, ini, last, e1, e2, e3, e4, e5⟩, e6⟩ hK
    have Hfin := hide (holds_some d n k hk ini last e1 e2 e3)
    have E4 := hide e4
    have E5 := hide e5
    have HK := hide hK
    clear e4 e5 hK e1 e2 e3
    gi_wp2
    refine ⟨by simp, .inl ⟨_, _, rfl, run_takeDeferred HK.out, ?_⟩⟩
    have z4 := (E4.out.ownG (grownBy_putObj' _ D (.deferred none)) (fun r e => by cases e; exact ⟨_, HK.out, rfl⟩)).cell 0
    have z5 := (E5.out.ownG (grownBy_putObj' _ D (.deferred none)) (fun r e => by cases e; exact ⟨_, HK.out, rfl⟩)).cell 0
    refine ⟨.tuple #[.string last.2.data, .int .i64 0], ?_, by rw [Hfin.out], e6.trans (belowK_b (w := w) (Nat.le_refl _) W D _ _ (by omega) HK.out rfl rfl)⟩
    simp [results, Try.f18, go_sem, z4, z5]
end Go.Proofs.Ytcnhdmchoiiceaa
