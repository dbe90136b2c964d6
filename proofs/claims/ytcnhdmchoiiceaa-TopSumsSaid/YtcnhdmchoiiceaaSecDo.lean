/- sector.work where the disk is not right; sector.Sync. -/
import Derived.Test.YtcnhdmchoiiceaaSecWorkSync
import Derived.Test.YtcnhdmchoiiceaaSecCrash
import Derived.Test.YtcnhdmchoiiceaaSecEnd
namespace Go.Proofs.Ytcnhdmchoiiceaa
open Go.RowKit
theorem lies_far {w : World} {A : Option Addr} {n size : Nat} {xs : List Value} (h : Lies w A n size xs) {p : Addr} (hp : xs ≠ [] → ∀ a, A = some a → a.block ≠ p.block) (u : Value) : Lies (w.setCell p u) A n size xs := by
  refine ⟨h.1, fun hn => ?_⟩
  obtain ⟨b, o, e, hc⟩ := h.2 hn
  exact ⟨b, o, e, fun j u' hu => (World.cell?_setCell_other w p _ u (fun e' => hp hn _ e (by rw [e']))).trans (hc j u' hu)⟩
theorem strs_not {w : World} {A : Option Addr} {l : List ByteArray} {g : Nat} {t : TypeId} (h : Texts w A l) (hg : Blk w g [.slice none 0 0, .slice none 0 0, .bool false, .int .i64 0] t) : strs l ≠ [] → ∀ a, A = some a → a.block ≠ g := by
  intro hn a ha e
  subst ha
  obtain ⟨b, o, e', hc⟩ := h.2 hn
  cases e'
  simp only at e
  subst e
  cases l with
  | nil => exact hn rfl
  | cons x l =>
    have h0 := hc 0 (.string x) rfl
    rw [hg.cell] at h0
    rcases Nat.lt_or_ge (o + 0) 4 with hlt | hge
    · rcases (show o + 0 = 0 ∨ o + 0 = 1 ∨ o + 0 = 2 ∨ o + 0 = 3 by omega) with e | e | e | e <;> rw [e] at h0 <;> simp at h0
    · rw [List.getElem?_eq_none (by simpa using hge)] at h0; cases h0
theorem wrs_not {w : World} {A : Option Addr} {l : List Wr} {g : Nat} {t : TypeId} (h : Writes w A l) (hg : Blk w g [.slice none 0 0, .slice none 0 0, .bool false, .int .i64 0] t) : wrs l ≠ [] → ∀ a, A = some a → a.block ≠ g := by
  intro hn a ha e
  subst ha
  obtain ⟨b, o, e', hc⟩ := h.2 hn
  cases e'
  simp only at e
  subst e
  cases l with
  | nil => exact hn rfl
  | cons x l =>
    have h0 := hc 1 (.string x.data) rfl
    rw [hg.cell] at h0
    rcases Nat.lt_or_ge (o + 1) 4 with hlt | hge
    · rcases (show o + 1 = 0 ∨ o + 1 = 1 ∨ o + 1 = 2 ∨ o + 1 = 3 by omega) with e | e | e | e <;> rw [e] at h0 <;> simp at h0
    · rw [List.getElem?_eq_none (by simpa using hge)] at h0; cases h0
/-- A disk that is handed on through a cell of the asker's. -/
theorem hand_on {w W : World} {A1 A2 : Option Addr} {c1 c2 g : Nat} {d : Dk} {t : TypeId} (h1 : Texts W A1 d.secs) (h2 : Writes W A2 d.pend) (hl1 : d.secs.length ≤ 140737488351232) (hl2 : d.pend.length ≤ 140737488351232) (hf1 : -9223372036854775808 ≤ d.fuse) (hf2 : d.fuse ≤ 9223372036854775807)
    (hR : Blk W g [.slice none 0 0, .slice none 0 0, .bool false, .int .i64 0] t) (hb : Below w.heap.size w W) (hg : w.heap.size ≤ g) :
    DkIs ((((W.setCell ⟨g, 0, none⟩ (.slice A1 d.secs.length c1)).setCell ⟨g, 1, none⟩ (.slice A2 d.pend.length c2)).setCell ⟨g, 2, none⟩ (.bool d.off)).setCell ⟨g, 3, none⟩ (.int .i64 d.fuse)) (.agg #[.slice A1 d.secs.length c1, .slice A2 d.pend.length c2, .bool d.off, .int .i64 d.fuse]) d ∧
    Below w.heap.size w ((((W.setCell ⟨g, 0, none⟩ (.slice A1 d.secs.length c1)).setCell ⟨g, 1, none⟩ (.slice A2 d.pend.length c2)).setCell ⟨g, 2, none⟩ (.bool d.off)).setCell ⟨g, 3, none⟩ (.int .i64 d.fuse)) := by
  have n1 := strs_not h1 hR
  have n2 := wrs_not h2 hR
  exact ⟨⟨A1, c1, A2, c2, rfl, lies_far (lies_far (lies_far (lies_far h1 (p := ⟨g, 0, none⟩) n1 _) (p := ⟨g, 1, none⟩) n1 _) (p := ⟨g, 2, none⟩) n1 _) (p := ⟨g, 3, none⟩) n1 _,
    lies_far (lies_far (lies_far (lies_far h2 (p := ⟨g, 0, none⟩) n2 _) (p := ⟨g, 1, none⟩) n2 _) (p := ⟨g, 2, none⟩) n2 _) (p := ⟨g, 3, none⟩) n2 _, hl1, hl2, hf1, hf2⟩,
    (((hb.setCell (p := ⟨g, 0, none⟩) hg _).setCell (p := ⟨g, 1, none⟩) hg _).setCell (p := ⟨g, 2, none⟩) hg _).setCell (p := ⟨g, 3, none⟩) hg _⟩
set_option maxRecDepth 100000 in
set_option maxHeartbeats 4000000 in
theorem work_no (A1 A2 : Option Addr) (c1 c2 : Nat) (d : Dk) (f1 f2 f3 : Value) (w : World) (h1 : Texts w A1 d.secs) (h2 : Writes w A2 d.pend) (hl1 : d.secs.length ≤ 140737488351232) (hl2 : d.pend.length ≤ 140737488351232) (hr : right d = false) :
    Calls Try.prog 30 #[.agg #[.slice A1 d.secs.length c1, .slice A2 d.pend.length c2, .bool d.off, .int .i64 d.fuse], f1, f2, f3] w (DkRet dk0 13 w) := by
  have hE := hide (show checkE d = 13 by simp [checkE, hr])
  clear hr
  obtain ⟨b0, k1, k2⟩ := two_blk w [.slice A1 d.secs.length c1, .slice A2 d.pend.length c2, .bool d.off, .int .i64 d.fuse] [.slice none 0 0, .slice none 0 0, .bool false, .int .i64 0] 25 25
  go_enter Try.func30, Try.ntmps30
  go_wp2_with fail
  refine (check_w A1 A2 c1 c2 d _ (h1.below b0) (h2.below b0) hl1 hl2).mono ?_
  rw [hE.out]
  rintro e w1 ⟨rfl, hb⟩
  have p3 := k2.below hb
  have hbw := bt b0 hb
  have r0 := p3.cell 0
  have r1 := p3.cell 1
  have r2 := p3.cell 2
  have r3 := p3.cell 3
  have z0 := p3.free 0
  have z1 := p3.free 1
  have z2 := p3.free 2
  have z3 := p3.free 3
  clear k1 k2 b0 hb hE
  go_wp2_with fail
  refine bodyPost_ret (v := .tuple #[.agg #[.slice none 0 0, .slice none 0 0, .bool false, .int .i64 0], .int .i64 13]) (by simp [results, Try.results30, go_sem, r0, r1, r2, r3]) rfl ?_
  exact ⟨_, rfl, DkIs.zero _, (((hbw.setCell (p := ⟨w.heap.size + 1, 0, none⟩) (by simp only; omega) _).setCell (p := ⟨w.heap.size + 1, 1, none⟩) (by simp only; omega) _).setCell (p := ⟨w.heap.size + 1, 2, none⟩) (by simp only; omega) _).setCell (p := ⟨w.heap.size + 1, 3, none⟩) (by simp only; omega) _⟩
theorem work_sync_any (A1 A2 : Option Addr) (c1 c2 : Nat) (d : Dk) (w : World) (h1 : Texts w A1 d.secs) (h2 : Writes w A2 d.pend) (hl1 : d.secs.length ≤ 140737488351232) (hl2 : d.pend.length ≤ 140737488351232) (hf1 : -9223372036854775808 ≤ d.fuse) (hf2 : d.fuse ≤ 9223372036854775807) :
    Calls Try.prog 30 #[.agg #[.slice A1 d.secs.length c1, .slice A2 d.pend.length c2, .bool d.off, .int .i64 d.fuse], .func (.func 35) #[] #[], .func (.func 33) #[] #[], .func (.func 36) #[] #[]] w (DkRet (syncD d) (syncE d) w) := by
  cases hr : right d
  · have e1 : syncE d = 13 := by simp [syncE, hr]
    have e2 : syncD d = dk0 := by simp [syncD, hr]
    rw [e1, e2]
    exact work_no A1 A2 c1 c2 d _ _ _ w h1 h2 hl1 hl2 hr
  · have e1 : syncE d = workE 0 d := by simp [syncE, hr]
    have e2 : syncD d = workD 0 d d (settled fun _ => true) := by simp [syncD, hr]
    rw [e1, e2]
    exact work_sync_w A1 A2 c1 c2 d w h1 h2 hr hf1 hf2
set_option maxRecDepth 100000 in
set_option maxHeartbeats 4000000 in
theorem sync_w (v : Value) (d : Dk) (w : World) (hv : DkIs w v d) : Calls Try.prog 14 #[v] w (DkRet (syncD d) (syncE d) w) := by
  obtain ⟨A1, c1, A2, c2, rfl, h1, h2, hl1, hl2, hf1, hf2⟩ := hv
  obtain ⟨b0, k1, k2⟩ := two_blk w [.slice A1 d.secs.length c1, .slice A2 d.pend.length c2, .bool d.off, .int .i64 d.fuse] [.slice none 0 0, .slice none 0 0, .bool false, .int .i64 0] 25 25
  go_enter Try.func14, Try.ntmps14
  go_wp2_with fail
  refine (work_sync_any A1 A2 c1 c2 d _ (h1.below b0) (h2.below b0) hl1 hl2 hf1 hf2).mono ?_
  obtain ⟨D, HD⟩ := named (syncD d)
  obtain ⟨E, HE⟩ := named (syncE d)
  rw [← HD.out, ← HE.out]
  rintro e w1 ⟨v1, rfl, ⟨B1, e1, B2, e2, rfl, t1, t2, m1, m2, g1, g2⟩, hb⟩
  have p3 := k2.below hb
  have hbw := bt b0 hb
  have r0 := p3.cell 0
  have r1 := p3.cell 1
  have r2 := p3.cell 2
  have r3 := p3.cell 3
  have z0 := p3.free 0
  have z1 := p3.free 1
  have z2 := p3.free 2
  have z3 := p3.free 3
  clear k1 k2 b0 hb
  go_wp2_with fail
  refine bodyPost_ret (v := .tuple #[.agg #[.slice B1 D.secs.length e1, .slice B2 D.pend.length e2, .bool D.off, .int .i64 D.fuse], .int .i64 E]) (by simp [results, Try.results14, go_sem, r0, r1, r2, r3]) rfl ?_
  exact dkRet_of (hand_on t1 t2 m1 m2 g1 g2 p3 hbw (by omega)) HD.out.symm HE.out.symm
end Go.Proofs.Ytcnhdmchoiiceaa
