/- Several small texts of this proof, one behind the other. -/
import Derived.Test.YtpfbmmeipojodaaSecWorkSync
import Derived.Test.YtpfbmmeipojodaaSecCrash
import Derived.Test.YtpfbmmeipojodaaGC
import Derived.Test.YtpfbmmeipojodaaGI
import Derived.Test.YtpfbmmeipojodaaGB
section
/- sector.work where the disk is not right; sector.Sync. -/
namespace Go.Proofs.Ytpfbmmeipojodaa
open Go.RowKit
theorem lies_far {w : World} {A : Option Addr} {n size : Nat} {xs : List Value} (h : Lies w A n size xs) {p : Addr} (hp : xs ≠ [] → ∀ a, A = some a → a.block ≠ p.block) (u : Value) : Lies (w.setCell p u) A n size xs := by
  refine ⟨h.1, fun hn => ?_⟩
  obtain ⟨b, o, e, hc⟩ := h.2 hn
  exact ⟨b, o, e, fun j u' hu => (World.cell?_setCell_other w p _ u (fun e' => hp hn _ e (by rw [e']))).trans (hc j u' hu)⟩
theorem strs_not {w : World} {A : Option Addr} {l : List ByteArray} {g : Nat} {t : TypeId} (h : Texts w A l) (hg : Blk w g [.slice none 0 0, .slice none 0 0, .bool false, .int .i64 0] t) : strs l ≠ [] → ∀ a, A = some a → a.block ≠ g := by
  intro hn a ha e
  subst ha
  obtain ⟨b, o, e', hc⟩ := h.2 hn
  cases e'
  simp only at e
  subst e
  cases l with
  | nil => exact hn rfl
  | cons x l =>
    have h0 := hc 0 (.string x) rfl
    rw [hg.cell] at h0
    rcases Nat.lt_or_ge (o + 0) 4 with hlt | hge
    · rcases (show o + 0 = 0 ∨ o + 0 = 1 ∨ o + 0 = 2 ∨ o + 0 = 3 by omega) with e | e | e | e <;> rw [e] at h0 <;> simp at h0
    · rw [List.getElem?_eq_none (by simpa using hge)] at h0; cases h0
theorem wrs_not {w : World} {A : Option Addr} {l : List Wr} {g : Nat} {t : TypeId} (h : Writes w A l) (hg : Blk w g [.slice none 0 0, .slice none 0 0, .bool false, .int .i64 0] t) : wrs l ≠ [] → ∀ a, A = some a → a.block ≠ g := by
  intro hn a ha e
  subst ha
  obtain ⟨b, o, e', hc⟩ := h.2 hn
  cases e'
  simp only at e
  subst e
  cases l with
  | nil => exact hn rfl
  | cons x l =>
    have h0 := hc 1 (.string x.data) rfl
    rw [hg.cell] at h0
    rcases Nat.lt_or_ge (o + 1) 4 with hlt | hge
    · rcases (show o + 1 = 0 ∨ o + 1 = 1 ∨ o + 1 = 2 ∨ o + 1 = 3 by omega) with e | e | e | e <;> rw [e] at h0 <;> simp at h0
    · rw [List.getElem?_eq_none (by simpa using hge)] at h0; cases h0
/-- A disk that is handed on through a cell of the asker's. -/
theorem hand_on {w W : World} {A1 A2 : Option Addr} {c1 c2 g : Nat} {d : Dk} {t : TypeId} (h1 : Texts W A1 d.secs) (h2 : Writes W A2 d.pend) (hl1 : d.secs.length ≤ 140737488351232) (hl2 : d.pend.length ≤ 140737488351232) (hf1 : -9223372036854775808 ≤ d.fuse) (hf2 : d.fuse ≤ 9223372036854775807)
    (hR : Blk W g [.slice none 0 0, .slice none 0 0, .bool false, .int .i64 0] t) (hb : Below w.heap.size w W) (hg : w.heap.size ≤ g) :
    DkIs ((((W.setCell ⟨g, 0, none⟩ (.slice A1 d.secs.length c1)).setCell ⟨g, 1, none⟩ (.slice A2 d.pend.length c2)).setCell ⟨g, 2, none⟩ (.bool d.off)).setCell ⟨g, 3, none⟩ (.int .i64 d.fuse)) (.agg #[.slice A1 d.secs.length c1, .slice A2 d.pend.length c2, .bool d.off, .int .i64 d.fuse]) d ∧
    Below w.heap.size w ((((W.setCell ⟨g, 0, none⟩ (.slice A1 d.secs.length c1)).setCell ⟨g, 1, none⟩ (.slice A2 d.pend.length c2)).setCell ⟨g, 2, none⟩ (.bool d.off)).setCell ⟨g, 3, none⟩ (.int .i64 d.fuse)) := by
  have n1 := strs_not h1 hR
  have n2 := wrs_not h2 hR
  exact ⟨⟨A1, c1, A2, c2, rfl, lies_far (lies_far (lies_far (lies_far h1 (p := ⟨g, 0, none⟩) n1 _) (p := ⟨g, 1, none⟩) n1 _) (p := ⟨g, 2, none⟩) n1 _) (p := ⟨g, 3, none⟩) n1 _,
    lies_far (lies_far (lies_far (lies_far h2 (p := ⟨g, 0, none⟩) n2 _) (p := ⟨g, 1, none⟩) n2 _) (p := ⟨g, 2, none⟩) n2 _) (p := ⟨g, 3, none⟩) n2 _, hl1, hl2, hf1, hf2⟩,
    (((hb.setCell (p := ⟨g, 0, none⟩) hg _).setCell (p := ⟨g, 1, none⟩) hg _).setCell (p := ⟨g, 2, none⟩) hg _).setCell (p := ⟨g, 3, none⟩) hg _⟩
set_option maxRecDepth 100000 in
set_option maxHeartbeats 4000000 in
theorem work_no (A1 A2 : Option Addr) (c1 c2 : Nat) (d : Dk) (f1 f2 f3 : Value) (w : World) (h1 : Texts w A1 d.secs) (h2 : Writes w A2 d.pend) (hl1 : d.secs.length ≤ 140737488351232) (hl2 : d.pend.length ≤ 140737488351232) (hr : right d = false) :
    Calls Try.prog 79 #[.agg #[.slice A1 d.secs.length c1, .slice A2 d.pend.length c2, .bool d.off, .int .i64 d.fuse], f1, f2, f3] w (DkRet dk0 13 w) := by
  have hE := hide (show checkE d = 13 by simp [checkE, hr])
  clear hr
  obtain ⟨b0, k1, k2⟩ := two_blk w [.slice A1 d.secs.length c1, .slice A2 d.pend.length c2, .bool d.off, .int .i64 d.fuse] [.slice none 0 0, .slice none 0 0, .bool false, .int .i64 0] 28 28
  go_enter Try.func79, Try.ntmps79
  go_wp2_with fail
  refine (check_w A1 A2 c1 c2 d _ (h1.below b0) (h2.below b0) hl1 hl2).mono ?_
  rw [hE.out]
  rintro e w1 ⟨rfl, hb⟩
  have p3 := k2.below hb
  have hbw := bt b0 hb
  have r0 := p3.cell 0
  have r1 := p3.cell 1
  have r2 := p3.cell 2
  have r3 := p3.cell 3
  have z0 := p3.free 0
  have z1 := p3.free 1
  have z2 := p3.free 2
  have z3 := p3.free 3
  clear k1 k2 b0 hb hE
  go_wp2_with fail
  refine bodyPost_ret (v := .tuple #[.agg #[.slice none 0 0, .slice none 0 0, .bool false, .int .i64 0], .int .i64 13]) (by simp [results, Try.results79, go_sem, r0, r1, r2, r3]) rfl ?_
  exact ⟨_, rfl, DkIs.zero _, (((hbw.setCell (p := ⟨w.heap.size + 1, 0, none⟩) (by simp only; omega) _).setCell (p := ⟨w.heap.size + 1, 1, none⟩) (by simp only; omega) _).setCell (p := ⟨w.heap.size + 1, 2, none⟩) (by simp only; omega) _).setCell (p := ⟨w.heap.size + 1, 3, none⟩) (by simp only; omega) _⟩
theorem work_sync_any (A1 A2 : Option Addr) (c1 c2 : Nat) (d : Dk) (w : World) (h1 : Texts w A1 d.secs) (h2 : Writes w A2 d.pend) (hl1 : d.secs.length ≤ 140737488351232) (hl2 : d.pend.length ≤ 140737488351232) (hf1 : -9223372036854775808 ≤ d.fuse) (hf2 : d.fuse ≤ 9223372036854775807) :
    Calls Try.prog 79 #[.agg #[.slice A1 d.secs.length c1, .slice A2 d.pend.length c2, .bool d.off, .int .i64 d.fuse], .func (.func 84) #[] #[], .func (.func 82) #[] #[], .func (.func 85) #[] #[]] w (DkRet (syncD d) (syncE d) w) := by
  cases hr : right d
  · have e1 : syncE d = 13 := by simp [syncE, hr]
    have e2 : syncD d = dk0 := by simp [syncD, hr]
    rw [e1, e2]
    exact work_no A1 A2 c1 c2 d _ _ _ w h1 h2 hl1 hl2 hr
  · have e1 : syncE d = workE 0 d := by simp [syncE, hr]
    have e2 : syncD d = workD 0 d d (settled fun _ => true) := by simp [syncD, hr]
    rw [e1, e2]
    exact work_sync_w A1 A2 c1 c2 d w h1 h2 hr hf1 hf2
set_option maxRecDepth 100000 in
set_option maxHeartbeats 4000000 in
theorem sync_w (v : Value) (d : Dk) (w : World) (hv : DkIs w v d) : Calls Try.prog 51 #[v] w (DkRet (syncD d) (syncE d) w) := by
  obtain ⟨A1, c1, A2, c2, rfl, h1, h2, hl1, hl2, hf1, hf2⟩ := hv
  obtain ⟨b0, k1, k2⟩ := two_blk w [.slice A1 d.secs.length c1, .slice A2 d.pend.length c2, .bool d.off, .int .i64 d.fuse] [.slice none 0 0, .slice none 0 0, .bool false, .int .i64 0] 28 28
  go_enter Try.func51, Try.ntmps51
  go_wp2_with fail
  refine (work_sync_any A1 A2 c1 c2 d _ (h1.below b0) (h2.below b0) hl1 hl2 hf1 hf2).mono ?_
  obtain ⟨D, HD⟩ := named (syncD d)
  obtain ⟨E, HE⟩ := named (syncE d)
  rw [← HD.out, ← HE.out]
  rintro e w1 ⟨v1, rfl, ⟨B1, e1, B2, e2, rfl, t1, t2, m1, m2, g1, g2⟩, hb⟩
  have p3 := k2.below hb
  have hbw := bt b0 hb
  have r0 := p3.cell 0
  have r1 := p3.cell 1
  have r2 := p3.cell 2
  have r3 := p3.cell 3
  have z0 := p3.free 0
  have z1 := p3.free 1
  have z2 := p3.free 2
  have z3 := p3.free 3
  clear k1 k2 b0 hb
  go_wp2_with fail
  refine bodyPost_ret (v := .tuple #[.agg #[.slice B1 D.secs.length e1, .slice B2 D.pend.length e2, .bool D.off, .int .i64 D.fuse], .int .i64 E]) (by simp [results, Try.results51, go_sem, r0, r1, r2, r3]) rfl ?_
  exact dkRet_of (hand_on t1 t2 m1 m2 g1 g2 p3 hbw (by omega)) HD.out.symm HE.out.symm
end Go.Proofs.Ytpfbmmeipojodaa
end
section
/- What appending a frame comes to, in plain Lean; a clone laid into its own box. -/
namespace Go.Proofs.Ytpfbmmeipojodaa
open Go.RowKit
def appW (d : Dk) (f s a : Int) (fr : Fr) : Int := if walE d f s ≠ 0 then walE d f s else if frCheck fr ≠ 0 then frCheck fr else if a < 0 ∨ s < a then 1 else if s - a < ((piecesN fr.pay.length + 1 : Nat) : Int) then 16 else 0
def appD (d : Dk) (f s a : Int) (fr : Fr) : Dk := if walE d f s ≠ 0 then dk0 else if appW d f s a fr ≠ 0 then d else layD d (f + a).toNat ((sectorsL fr).map str)
def appE (d : Dk) (f s a : Int) (fr : Fr) : Int := if appW d f s a fr ≠ 0 then appW d f s a fr else layE d (f + a).toNat ((sectorsL fr).map str)
def appN (d : Dk) (f s a : Int) (fr : Fr) : Int := if appE d f s a fr = 0 then a + ((piecesN fr.pay.length + 1 : Nat) : Int) else 0
/-- A call's answer: a disk, a number, an error. -/
def AppRet (D : Dk) (n why : Int) (w : World) (e : Ending) (w' : World) : Prop := ∃ v, e = .returned (.tuple #[v, .int .i64 n, .int .i64 why]) ∧ DkIs w' v D ∧ Below w.heap.size w w'
section
variable {d : Dk} {f s a : Int} {fr : Fr}
theorem app_bad (h : walE d f s ≠ 0) : appD d f s a fr = dk0 ∧ appN d f s a fr = 0 ∧ appE d f s a fr = walE d f s := by
  have hw : appW d f s a fr = walE d f s := by simp [appW, h]
  have he : appE d f s a fr = walE d f s := by simp [appE, hw, h]
  exact ⟨by simp [appD, h], by simp [appN, he, h], he⟩
theorem app_no {e : Int} (h : walE d f s = 0) (hw : appW d f s a fr = e) (he : e ≠ 0) : appD d f s a fr = d ∧ appN d f s a fr = 0 ∧ appE d f s a fr = e := by
  have h1 : appE d f s a fr = e := by simp [appE, hw, he]
  exact ⟨by simp [appD, h, hw, he], by simp [appN, h1, he], h1⟩
theorem app_yes (h : walE d f s = 0) (hw : appW d f s a fr = 0) : appD d f s a fr = layD d (f + a).toNat ((sectorsL fr).map str) ∧ appE d f s a fr = layE d (f + a).toNat ((sectorsL fr).map str) := by
  exact ⟨by simp [appD, h, hw], by simp [appE, hw]⟩
theorem appW_frame (h : walE d f s = 0) (hc : frCheck fr ≠ 0) : appW d f s a fr = frCheck fr := by simp [appW, h, hc]
theorem appW_place (h : walE d f s = 0) (hc : frCheck fr = 0) (ha : a < 0 ∨ s < a) : appW d f s a fr = 1 := by simp [appW, h, hc, ha]
theorem appW_full (h : walE d f s = 0) (hc : frCheck fr = 0) (ha : 0 ≤ a ∧ a ≤ s) (hn : s - a < ((piecesN fr.pay.length + 1 : Nat) : Int)) : appW d f s a fr = 16 := by
  have : ¬ (a < 0 ∨ s < a) := by omega
  simp [appW, h, hc, this, -Int.natCast_add]
  omega
theorem appW_fine (h : walE d f s = 0) (hc : frCheck fr = 0) (ha : 0 ≤ a ∧ a ≤ s) (hn : ((piecesN fr.pay.length + 1 : Nat) : Int) ≤ s - a) : appW d f s a fr = 0 := by
  have : ¬ (a < 0 ∨ s < a) := by omega
  simp [appW, h, hc, this, -Int.natCast_add]
  omega
theorem wal_zero (h : walE d f s = 0) : right d = true ∧ 0 ≤ f ∧ f ≤ d.secs.length ∧ 1 ≤ s ∧ s ≤ (d.secs.length : Int) - f := by
  unfold walE at h
  by_cases hr : right d = false
  · simp [hr] at h
  · by_cases hg : regOk d f s = false
    · simp [hr, hg] at h
    · exact ⟨by simpa using hr, region_ok (by simpa using hg)⟩
end
/-- New blocks alone; or a cell of the box was written. -/
def KeepCell (N : Nat) (u u' : World) : Prop := Below u.heap.size u u' ∨ ∃ A1 n1 c1 A2 n2 c2 o f i x, Blk u N [.slice A1 n1 c1, .slice A2 n2 c2, .bool o, .int .i64 f] 28 ∧ u' = u.setCell ⟨N, i, none⟩ x
section
variable {N : Nat} {u u' w : World} {d : Dk} {A1 A2 B : Option Addr} {c1 c2 e : Nat}
theorem texts_keep {l : List ByteArray} (h : Texts u B l) (hk : KeepCell N u u') : Texts u' B l := by
  rcases hk with hb | ⟨A1, n1, c1, A2, n2, c2, o, f, i, x, hB, rfl⟩
  · exact h.below hb
  · exact lies_off h (p := ⟨N, i, none⟩) (strs_off h hB) x
theorem writes_keep {l : List Wr} (h : Writes u B l) (hk : KeepCell N u u') : Writes u' B l := by
  rcases hk with hb | ⟨A1, n1, c1, A2, n2, c2, o, f, i, x, hB, rfl⟩
  · exact h.below hb
  · exact lies_off h (p := ⟨N, i, none⟩) (wrs_off h hB) x
theorem Blk.keepCell {g : Nat} {vs : List Value} {t : TypeId} (h : Blk u g vs t) (hk : KeepCell N u u') (hne : g ≠ N) : Blk u' g vs t := by
  rcases hk with hb | ⟨A1, n1, c1, A2, n2, c2, o, f, i, x, hB, rfl⟩
  · exact h.below hb
  · exact h.far (p := ⟨N, i, none⟩) hne x
theorem below_keepCell (h : Below w.heap.size w u) (hk : KeepCell N u u') (hN : w.heap.size ≤ N) : Below w.heap.size w u' := by
  rcases hk with hb | ⟨A1, n1, c1, A2, n2, c2, o, f, i, x, hB, rfl⟩
  · exact bt h hb
  · exact h.setCell (p := ⟨N, i, none⟩) hN x
theorem keepCell_set (h : Box u N A1 c1 A2 c2 d) (i : Nat) (x : Value) : KeepCell N u (u.setCell ⟨N, i, none⟩ x) := .inr ⟨_, _, _, _, _, _, _, _, i, x, h.blk, rfl⟩
theorem Box.set0 (h : Box u N A1 c1 A2 c2 d) (t : Texts u B d.secs) : Box (u.setCell ⟨N, 0, none⟩ (.slice B d.secs.length e)) N B e A2 c2 d :=
  ⟨h.blk.set 0 _, lies_off t (p := ⟨N, 0, none⟩) (strs_off t h.blk) _, lies_off h.wr (p := ⟨N, 0, none⟩) (wrs_off h.wr h.blk) _, h.l1, h.l2, h.f1, h.f2⟩
theorem Box.set1 (h : Box u N A1 c1 A2 c2 d) (t : Writes u B d.pend) : Box (u.setCell ⟨N, 1, none⟩ (.slice B d.pend.length e)) N A1 c1 B e d :=
  ⟨h.blk.set 1 _, lies_off h.tx (p := ⟨N, 1, none⟩) (strs_off h.tx h.blk) _, lies_off t (p := ⟨N, 1, none⟩) (wrs_off t h.blk) _, h.l1, h.l2, h.f1, h.f2⟩
end
end Go.Proofs.Ytpfbmmeipojodaa
end
section
/- The plain laws of chapter 02: what crashes, reads, puts and syncs come to. -/
namespace Go.Proofs.Ytpfbmmeipojodaa
open Go.RowKit
/-- What a right disk is. -/
theorem right_iff {d : Dk} : right d = true ↔ (1 ≤ d.secs.length ∧ d.secs.length ≤ 1024) ∧ d.pend.length ≤ 4096 ∧ (∀ s ∈ d.secs, s.size = 64) ∧ ∀ x ∈ d.pend, 0 ≤ x.sec ∧ x.sec < d.secs.length ∧ x.data.size = 64 := by
  simp only [right, sizeOk, Bool.and_eq_true, decide_eq_true_eq, List.any_eq_false, odd, wrongW, there, bne_iff_ne, ne_eq, Classical.not_not, Bool.or_eq_true, Bool.not_eq_eq_eq_not, Bool.not_true, Bool.and_eq_false_iff, decide_eq_false_iff_not]
  constructor
  · rintro ⟨⟨⟨h1, h2⟩, h3⟩, h4⟩
    refine ⟨h1, h2, h3, fun x hx => ?_⟩
    have := h4 x hx
    omega
  · rintro ⟨h1, h2, h3, h4⟩
    refine ⟨⟨⟨h1, h2⟩, h3⟩, fun x hx => ?_⟩
    have := h4 x hx
    omega
theorem stl_sizes (may : Nat → Bool) (k : Nat) (l : List Wr) (s : List ByteArray) (hs : ∀ x ∈ s, x.size = 64) (hl : ∀ x ∈ l, x.data.size = 64) : ∀ x ∈ stl may k l s, x.size = 64 := by
  induction l generalizing k s with
  | nil => exact hs
  | cons x l ih =>
    rw [stl]
    refine ih _ _ ?_ (fun y hy => hl y (by simp [hy]))
    split
    · intro y hy
      rcases List.mem_or_eq_of_mem_set hy with h | rfl
      · exact hs y h
      · exact hl x (by simp)
    · exact hs
theorem getD_set (s : List ByteArray) (i j : Nat) (v e : ByteArray) (hj : j < s.length) : (s.set i v).getD j e = if i = j then v else s.getD j e := by
  simp only [List.getD, List.getElem?_set]
  by_cases h : i = j
  · subst h; simp [hj]
  · simp [h]
/-- A sector holds what it held, or one of the writes. -/
theorem stl_may (may : Nat → Bool) (k : Nat) (l : List Wr) (s : List ByteArray) (j : Nat) (hj : j < s.length) (hl : ∀ x ∈ l, 0 ≤ x.sec) :
    (stl may k l s).getD j ⟨#[]⟩ = s.getD j ⟨#[]⟩ ∨ ∃ x ∈ l, x.sec = j ∧ x.data = (stl may k l s).getD j ⟨#[]⟩ := by
  induction l generalizing k s with
  | nil => exact .inl rfl
  | cons x l ih =>
    rw [stl]
    have hx := hl x (by simp)
    split
    · rcases ih (k + 1) (s.set x.sec.toNat x.data) (by simpa using hj) (fun y hy => hl y (by simp [hy])) with h | ⟨y, hy, h⟩
      · rw [getD_set _ _ _ _ _ hj] at h
        split at h
        · exact .inr ⟨x, by simp, by omega, h.symm⟩
        · exact .inl h
      · exact .inr ⟨y, by simp [hy], h⟩
    · rcases ih (k + 1) s hj (fun y hy => hl y (by simp [hy])) with h | ⟨y, hy, h⟩
      · exact .inl h
      · exact .inr ⟨y, by simp [hy], h⟩
theorem holdF_cons (n : Int) (x : Wr) (l : List Wr) (s : ByteArray) : holdF n (x :: l) s = holdF n l (if x.sec = n then x.data else s) := rfl
/-- All done: a sector holds what it was read as. -/
theorem stl_all (may : Nat → Bool) (k : Nat) (l : List Wr) (s : List ByteArray) (j : Nat) (hj : j < s.length) (hl : ∀ x ∈ l, 0 ≤ x.sec) (hm : ∀ i, k ≤ i → i < k + l.length → may i = true) :
    (stl may k l s).getD j ⟨#[]⟩ = holdF j l (s.getD j ⟨#[]⟩) := by
  induction l generalizing k s with
  | nil => rfl
  | cons x l ih =>
    have hx := hl x (by simp)
    rw [stl, if_pos (hm k (Nat.le_refl _) (by simp)), ih (k + 1) (s.set x.sec.toNat x.data) (by simpa using hj) (fun y hy => hl y (by simp [hy])) (fun i h1 h2 => hm i (by omega) (by simp at h2 ⊢; omega)), holdF_cons, getD_set _ _ _ _ _ hj]
    by_cases h : x.sec = j
    · rw [if_pos (by omega), if_pos h]
    · rw [if_neg (by omega), if_neg h]
theorem right_crash {d : Dk} {keep : List Bool} (hr : right d = true) : right (crashD d keep) = true := by
  have h := right_iff.1 hr
  rw [right_iff]
  simp only [crashD, hr, if_true, stl_length, List.length_nil, Nat.zero_le, true_and]
  exact ⟨h.1, stl_sizes _ _ _ _ h.2.2.1 (fun x hx => (h.2.2.2 x hx).2.2), by simp⟩
theorem there_of {secs : List ByteArray} {m : Nat} (h : m < secs.length) : there secs (m : Int) = true := by simp [there, h]
/-- A crashed disk, read. -/
theorem read_crash {d : Dk} {keep : List Bool} {m : Nat} (hr : right d = true) (hm : m < d.secs.length) :
    readE (crashD d keep) m = 0 ∧ readS (crashD d keep) m = (stl (mayOf keep) 0 d.pend d.secs).getD m ⟨#[]⟩ := by
  have hc := right_crash (keep := keep) hr
  have h1 : readE (crashD d keep) m = 0 := by
    unfold readE
    rw [if_neg (by simp [hc])]
    simp only [crashD, hr, if_true]
    rw [there_of (by rw [stl_length]; exact hm)]
    simp
  refine ⟨h1, ?_⟩
  unfold readS
  rw [if_pos h1, show crashD d keep = ⟨stl (mayOf keep) 0 d.pend d.secs, [], false, -1⟩ by simp [crashD, hr]]
  rfl
theorem read_crash_no {d : Dk} {keep : List Bool} {n : Int} (hr : right d = true) (hn : there d.secs n = false) : readE (crashD d keep) n = 1 := by
  have hc := right_crash (keep := keep) hr
  unfold readE
  rw [if_neg (by simp [hc])]
  simp only [crashD, hr, if_true]
  rw [show there (stl (mayOf keep) 0 d.pend d.secs) n = false by simpa [there, stl_length] using hn]
  simp
theorem right_on {d : Dk} (hr : right d = true) : right { d with off := false } = true := hr
theorem read_on {d : Dk} {m : Nat} (hr : right d = true) (hm : m < d.secs.length) : readE { d with off := false } m = 0 ∧ readS { d with off := false } m = holdF m d.pend (d.secs.getD m ⟨#[]⟩) := by
  have h1 : readE { d with off := false } m = 0 := by
    unfold readE
    rw [if_neg (by rw [right_on hr]; simp)]
    simp [there_of hm]
  refine ⟨h1, ?_⟩
  simp only [readS, h1, if_true]
  exact holdsOf_eq _ _
theorem mayOf_all {n k : Nat} (h : k < n) : mayOf (List.replicate n true) k = true := by simp [mayOf, List.getD, h]
/-- Kept all, a sector holds what it held. -/
theorem read_kept {d : Dk} {m : Nat} (hr : right d = true) (hm : m < d.secs.length) : readS (crashD d (List.replicate d.pend.length true)) m = readS { d with off := false } m := by
  rw [(read_crash hr hm).2, (read_on hr hm).2]
  exact stl_all _ _ _ _ _ hm (fun x hx => ((right_iff.1 hr).2.2.2 x hx).1) (fun i _ h => mayOf_all (by omega))
/-- Behind a crash a sector holds what was synced, or one of the writes since. -/
theorem read_safe {d : Dk} {keep : List Bool} {m : Nat} (hr : right d = true) (hm : m < d.secs.length) :
    readS (crashD d keep) m = d.secs[m] ∨ ∃ x ∈ d.pend, x.sec = m ∧ x.data = readS (crashD d keep) m := by
  rw [(read_crash hr hm).2]
  have := stl_may (mayOf keep) 0 d.pend d.secs m hm (fun x hx => ((right_iff.1 hr).2.2.2 x hx).1)
  rwa [show d.secs.getD m ⟨#[]⟩ = d.secs[m] by simp [List.getD, hm]] at this
theorem crash_again {d : Dk} {keep again : List Bool} (hr : right d = true) : crashD (crashD d keep) again = crashD d keep := by
  have hc := right_crash (keep := keep) hr
  unfold crashD at hc ⊢
  rw [if_pos hr] at hc ⊢
  rw [if_pos hc]
  rfl
end Go.Proofs.Ytpfbmmeipojodaa
end
section
/- The plain laws of chapter 02: what a put and a sync come to, read; a fuse that burns. -/
namespace Go.Proofs.Ytpfbmmeipojodaa
open Go.RowKit
/-- A right disk that is on, read. -/
theorem read_of {S : List ByteArray} {P : List Wr} {f : Int} {m : Nat} (hr : right ⟨S, P, false, f⟩ = true) (hm : m < S.length) : readE ⟨S, P, false, f⟩ m = 0 ∧ readS ⟨S, P, false, f⟩ m = holdF m P (S.getD m ⟨#[]⟩) := by
  have h1 : readE ⟨S, P, false, f⟩ m = 0 := by
    unfold readE
    rw [if_neg (by simp [hr])]
    simp [there_of hm]
  refine ⟨h1, ?_⟩
  simp only [readS, h1, if_true]
  exact holdsOf_eq _ _
theorem readE_same {S : List ByteArray} {P Q : List Wr} {f g : Int} {n : Int} (h1 : right ⟨S, P, false, f⟩ = true) (h2 : right ⟨S, Q, false, g⟩ = true) : readE ⟨S, P, false, f⟩ n = readE ⟨S, Q, false, g⟩ n := by
  simp only [readE, h1, h2]
theorem right_more {S : List ByteArray} {P : List Wr} {f g : Int} {m : Nat} {x : ByteArray} (hr : right ⟨S, P, false, f⟩ = true) (hm : m < S.length) (hx : x.size = 64) (hP : P.length < 4096) : right ⟨S, P ++ [⟨m, x⟩], false, g⟩ = true := by
  have h := right_iff.1 hr
  rw [right_iff]
  refine ⟨h.1, by simp only [List.length_append, List.length_cons, List.length_nil]; omega, h.2.2.1, fun y hy => ?_⟩
  rcases List.mem_append.1 hy with h' | h'
  · exact h.2.2.2 y h'
  · simp only [List.mem_singleton] at h'
    subst h'
    exact ⟨by simp, by simpa using hm, hx⟩
def fuse1 (f : Int) : Int := if 0 < f then f - 1 else f
/-- What a put comes to. -/
theorem put_cases (d : Dk) (n : Int) (data : ByteArray) :
    putE d n data = 15 ∨ (putE d n data = 13 ∧ putD d n data = dk0) ∨ ((putE d n data = 1 ∨ putE d n data = 2 ∨ putE d n data = 3) ∧ putD d n data = d) ∨
    (putE d n data = 0 ∧ right d = true ∧ d.off = false ∧ ∃ m : Nat, n = (m : Int) ∧ m < d.secs.length ∧ data.size = 64 ∧ putD d n data = ⟨d.secs, d.pend ++ [⟨m, data⟩], false, fuse1 d.fuse⟩ ∧ right (putD d n data) = true) := by
  obtain ⟨S, P, off, f⟩ := d
  cases hr : right ⟨S, P, off, f⟩
  · exact .inr (.inl (by simp [putE, putD, hr]))
  cases off
  · by_cases href : refE ⟨S, P, false, f⟩ n data = 0
    · have hth : there S n = true ∧ data.size = 64 ∧ P.length < 4096 := by
        unfold refE at href
        by_cases h1 : there S n = false
        · simp [h1] at href
        · by_cases h2 : data.size ≠ 64
          · simp [h1, h2] at href
          · by_cases h3 : 4096 ≤ P.length
            · simp [h1, h2, h3] at href
            · exact ⟨by simpa using h1, by simpa using h2, by omega⟩
      obtain ⟨m, rfl, hm⟩ := there_nat hth.1
      by_cases h0 : f = 0
      · subst h0
        exact .inl (by simp [putE, hr, href, workE])
      · refine .inr (.inr (.inr ⟨by simp [putE, hr, href, workE, h0], rfl, rfl, m, rfl, hm, hth.2.1, ?_, ?_⟩))
        · simp [putD, hr, href, workD, h0, burn, fuse1]
        · have : putD ⟨S, P, false, f⟩ m data = ⟨S, P ++ [⟨m, data⟩], false, fuse1 f⟩ := by simp [putD, hr, href, workD, h0, burn, fuse1]
          rw [this]
          exact right_more hr hm hth.2.1 hth.2.2
    · refine .inr (.inr (.inl ⟨?_, by simp [putD, hr, workD, href]⟩))
      have : putE ⟨S, P, false, f⟩ n data = refE ⟨S, P, false, f⟩ n data := by simp [putE, hr, workE, href]
      rw [this]
      unfold refE at href ⊢
      split
      · simp
      · split
        · simp
        · split
          · simp
          · simp_all
  · exact .inl (by simp [putE, hr, workE])
/-- What was put last is read. -/
theorem read_put {S : List ByteArray} {P : List Wr} {f : Int} {m : Nat} {x : ByteArray} (hr : right ⟨S, P ++ [⟨m, x⟩], false, f⟩ = true) (hm : m < S.length) : readE ⟨S, P ++ [⟨m, x⟩], false, f⟩ m = 0 ∧ readS ⟨S, P ++ [⟨m, x⟩], false, f⟩ m = x := by
  obtain ⟨h1, h2⟩ := read_of hr hm
  refine ⟨h1, ?_⟩
  rw [h2, holdF_snoc, if_pos rfl]
theorem read_other {S : List ByteArray} {P : List Wr} {f g : Int} {m : Nat} {n : Int} {x : ByteArray} (h1 : right ⟨S, P, false, f⟩ = true) (h2 : right ⟨S, P ++ [⟨m, x⟩], false, g⟩ = true) (hn : n ≠ m) : readS ⟨S, P, false, f⟩ n = readS ⟨S, P ++ [⟨m, x⟩], false, g⟩ n := by
  have he := readE_same (n := n) h1 h2
  unfold readS
  rw [he]
  split
  · rw [holdsOf_eq, holdsOf_eq, holdF_snoc, if_neg (by simpa using Ne.symm hn)]
  · rfl
/-- A sync of a right disk that is on. -/
theorem sync_cases {S : List ByteArray} {P : List Wr} {f : Int} (hr : right ⟨S, P, false, f⟩ = true) :
    (syncE ⟨S, P, false, f⟩ = 15 ∧ (syncD ⟨S, P, false, f⟩).off = true) ∨
    (syncE ⟨S, P, false, f⟩ = 0 ∧ syncD ⟨S, P, false, f⟩ = ⟨stl (fun _ => true) 0 P S, [], false, fuse1 f⟩ ∧ right (syncD ⟨S, P, false, f⟩) = true) := by
  by_cases h0 : f = 0
  · subst h0
    exact .inl (by simp [syncE, syncD, hr, workE, workD])
  · have e : syncD ⟨S, P, false, f⟩ = ⟨stl (fun _ => true) 0 P S, [], false, fuse1 f⟩ := by simp [syncD, hr, workD, h0, burn, settled, fuse1]
    refine .inr ⟨by simp [syncE, hr, workE, h0], e, ?_⟩
    rw [e]
    have h := right_iff.1 hr
    rw [right_iff]
    simp only [stl_length, List.length_nil, Nat.zero_le, true_and]
    exact ⟨h.1, stl_sizes _ _ _ _ h.2.2.1 (fun x hx => (h.2.2.2 x hx).2.2), by simp⟩
/-- Synced, it is there behind any crash. -/
theorem crash_synced {S : List ByteArray} {P : List Wr} {f g : Int} {m : Nat} {x : ByteArray} {keep : List Bool} (hr : right ⟨S, P ++ [⟨m, x⟩], false, f⟩ = true) (h2 : right ⟨stl (fun _ => true) 0 (P ++ [⟨m, x⟩]) S, [], false, g⟩ = true) (hm : m < S.length) :
    readE (crashD ⟨stl (fun _ => true) 0 (P ++ [⟨m, x⟩]) S, [], false, g⟩ keep) m = 0 ∧ readS (crashD ⟨stl (fun _ => true) 0 (P ++ [⟨m, x⟩]) S, [], false, g⟩ keep) m = x := by
  obtain ⟨e1, e2⟩ := read_crash (keep := keep) (m := m) h2 (by rw [stl_length]; exact hm)
  refine ⟨e1, ?_⟩
  rw [e2]
  show (stl _ 0 [] (stl (fun _ => true) 0 (P ++ [⟨m, x⟩]) S)).getD m ⟨#[]⟩ = x
  rw [show stl (mayOf keep) 0 [] (stl (fun _ => true) 0 (P ++ [⟨m, x⟩]) S) = stl (fun _ => true) 0 (P ++ [⟨m, x⟩]) S from rfl,
    stl_all _ _ _ _ _ hm (fun y hy => ((right_iff.1 hr).2.2.2 y hy).1) (fun _ _ _ => rfl), holdF_snoc, if_pos rfl]
/-! ### A fuse -/
def fuseAt (f : Nat) (x : ByteArray) (k : Nat) : Dk := if k ≤ f then ⟨[zero64], List.replicate k ⟨0, x⟩, false, (f : Int) - k⟩ else ⟨[zero64], List.replicate (f + 1) ⟨0, x⟩, true, 0⟩
theorem right_rep {x : ByteArray} {k : Nat} {off : Bool} {f : Int} (hx : x.size = 64) (hk : k ≤ 4096) : right ⟨[zero64], List.replicate k ⟨0, x⟩, off, f⟩ = true := by
  rw [right_iff]
  refine ⟨by simp, by simpa using hk, by simp [zero64, str_size], fun y hy => ?_⟩
  have := List.eq_of_mem_replicate hy
  subst this
  exact ⟨by simp, by simp, hx⟩
theorem fuse_right {f k : Nat} {x : ByteArray} (hx : x.size = 64) (hf : f < 256) (_hk : k ≤ 300) : right (fuseAt f x k) = true := by
  unfold fuseAt
  split
  · exact right_rep hx (by omega)
  · exact right_rep hx (by omega)
theorem fuse_put {f k : Nat} {x : ByteArray} (hx : x.size = 64) (hf : f < 256) (hk : k < 300) :
    putD (fuseAt f x k) 0 x = fuseAt f x (k + 1) ∧ putE (fuseAt f x k) 0 x = (if k < f then 0 else 15) ∧ (f ≤ k → (fuseAt f x (k + 1)).off = true) := by
  have hr := fuse_right (k := k) hx hf (by omega)
  unfold fuseAt at hr ⊢
  by_cases h1 : k ≤ f
  · rw [if_pos h1] at hr ⊢
    have href : refE ⟨[zero64], List.replicate k ⟨0, x⟩, false, (f : Int) - k⟩ 0 x = 0 := by
      have : ¬ 4096 ≤ k := by omega
      simp [refE, there, hx, this]
    by_cases h2 : k < f
    · rw [if_pos (by omega : k + 1 ≤ f), if_pos h2]
      have h3 : ¬ ((f : Int) - k = 0) := by omega
      have h4 : (0 : Int) < (f : Int) - k := by omega
      refine ⟨?_, ?_, by omega⟩
      · simp only [putD, hr, if_true, href, workD, h3, burn, h4, id]
        simp [List.replicate_succ']
        omega
      · simp [putE, hr, href, workE, h3]
    · have h3 : k = f := by omega
      subst h3
      rw [if_neg (by omega : ¬ k + 1 ≤ k), if_neg h2]
      refine ⟨?_, ?_, fun _ => rfl⟩
      · simp only [putD, hr, if_true, href, workD]
        simp [List.replicate_succ']
      · rw [putE, if_pos hr, href, workE]
        simp
  · rw [if_neg h1] at hr ⊢
    rw [if_neg (by omega : ¬ k + 1 ≤ f), if_neg (by omega : ¬ k < f)]
    refine ⟨by simp [putD, hr, workD], by simp [putE, hr, workE], fun _ => rfl⟩
theorem fuse_crash {f k : Nat} {x : ByteArray} (hx : x.size = 64) (hf : f < 256) (hk : k ≤ 300) : checkE (fuseAt f x k) = 0 ∧ (crashD (fuseAt f x k) []).pend = [] ∧ (crashD (fuseAt f x k) []).off = false ∧ (crashD (fuseAt f x k) []).fuse = -1 := by
  have hr := fuse_right hx hf hk
  simp [checkE, crashD, hr]
end Go.Proofs.Ytpfbmmeipojodaa
end
section
/- Laying sectors, in plain Lean: what is held behind it, and what a crash leaves. -/
namespace Go.Proofs.Ytpfbmmeipojodaa
open Go.RowKit
/-- What a sector holds behind steps that all went well. -/
def stHold (i : Nat) : ByteArray → List Stp → ByteArray
  | x, [] => x
  | x, .put n y :: l => stHold i (if n = i then y else x) l
  | x, .sync :: l => stHold i x l
theorem stHold_append (i : Nat) (x : ByteArray) (a b : List Stp) : stHold i x (a ++ b) = stHold i (stHold i x a) b := by
  induction a generalizing x with
  | nil => rfl
  | cons s a ih => cases s <;> exact ih _
theorem put_holds {d : Dk} {n : Nat} {x : ByteArray} (h : putE d n x = 0) : right d = true ∧ d.off = false ∧ n < d.secs.length ∧ x.size = 64 ∧ right (putD d n x) = true ∧ (putD d n x).off = false ∧ (putD d n x).secs.length = d.secs.length ∧
    ∀ i : Nat, holdsOf (putD d n x) i = if n = i then x else holdsOf d i := by
  rcases put_cases d n x with h1 | ⟨h1, _⟩ | ⟨h1, _⟩ | ⟨_, h2, h3, m, hm, hlt, hx, hD, hr⟩
  · omega
  · omega
  · omega
  · have hmn : n = m := by omega
    subst hmn
    refine ⟨h2, h3, hlt, hx, hr, by rw [hD], by rw [hD], fun i => ?_⟩
    rw [hD, holdsOf_eq, holdsOf_eq, holdF_snoc]
    by_cases hi : n = i
    · rw [if_pos (show (n : Int) = (i : Int) by omega), if_pos hi]
    · rw [if_neg (show ¬ (n : Int) = (i : Int) by omega), if_neg hi]
theorem sync_holds {d : Dk} (h : syncE d = 0) : right d = true ∧ d.off = false ∧ right (syncD d) = true ∧ (syncD d).off = false ∧ (syncD d).pend = [] ∧ (syncD d).secs.length = d.secs.length ∧
    ∀ i : Nat, i < d.secs.length → holdsOf (syncD d) i = holdsOf d i := by
  obtain ⟨S, P, off, f⟩ := d
  cases hr : right ⟨S, P, off, f⟩
  · simp [syncE, hr] at h
  cases off
  · rcases sync_cases hr with ⟨h1, _⟩ | ⟨_, hD, hr2⟩
    · omega
    · refine ⟨rfl, rfl, hr2, by rw [hD], by rw [hD], by rw [hD]; exact stl_length _ _ _ _, fun i hi => ?_⟩
      rw [hD, holdsOf_eq, holdsOf_eq]
      exact stl_all _ _ _ _ _ hi (fun y hy => ((right_iff.1 hr).2.2.2 y hy).1) (fun _ _ _ => rfl)
  · simp [syncE, hr, workE] at h
theorem run_holds : ∀ (ss : List Stp) (d : Dk), right d = true → d.off = false → runE d ss = 0 → right (runD d ss) = true ∧ (runD d ss).off = false ∧ (runD d ss).secs.length = d.secs.length ∧
    ∀ i : Nat, i < d.secs.length → holdsOf (runD d ss) i = stHold i (holdsOf d i) ss := by
  intro ss
  induction ss with
  | nil => intro d hr ho _; exact ⟨hr, ho, rfl, fun i _ => rfl⟩
  | cons s ss ih =>
    intro d hr ho hE
    by_cases h : stE d s = 0
    · rw [(run_ok h).2] at hE
      rw [(run_ok h).1]
      cases s with
      | put n x =>
        obtain ⟨_, _, _, _, h1, h2, h3, h4⟩ := put_holds h
        obtain ⟨g1, g2, g3, g4⟩ := ih _ h1 h2 hE
        exact ⟨g1, g2, g3.trans h3, fun i hi => by show holdsOf (runD (putD d n x) ss) i = _; rw [g4 i (by omega), stHold, h4 i]⟩
      | sync =>
        obtain ⟨_, _, h1, h2, _, h3, h4⟩ := sync_holds h
        obtain ⟨g1, g2, g3, g4⟩ := ih _ h1 h2 hE
        exact ⟨g1, g2, g3.trans h3, fun i hi => by show holdsOf (runD (syncD d) ss) i = _; rw [g4 i (by omega), stHold, h4 i hi]⟩
    · rw [(run_no h).2] at hE
      exact absurd hE h
theorem run_snoc : ∀ (ss : List Stp) (d : Dk) (s : Stp), runE d (ss ++ [s]) = 0 → runE d ss = 0 ∧ stE (runD d ss) s = 0 ∧ runD d (ss ++ [s]) = stD (runD d ss) s := by
  intro ss
  induction ss with
  | nil =>
    intro d s h
    by_cases hs : stE d s = 0
    · exact ⟨rfl, hs, (run_ok hs).1⟩
    · rw [List.nil_append, (run_no hs).2] at h; exact absurd h hs
  | cons t ss ih =>
    intro d s h
    rw [List.cons_append] at h ⊢
    by_cases ht : stE d t = 0
    · rw [(run_ok ht).2] at h
      rw [(run_ok (l := ss ++ [s]) ht).1, (run_ok (l := ss) ht).2, (run_ok (l := ss) ht).1]
      exact ih _ s h
    · rw [(run_no ht).2] at h; exact absurd h ht
theorem puts_hold (a : Nat) (l : List ByteArray) (i : Nat) (x : ByteArray) (k : Nat) : stHold i x ((List.range k).map fun j => .put (a + (j + 1)) (l.getD (j + 1) ⟨#[]⟩)) = if a < i ∧ i ≤ a + k then l.getD (i - a) ⟨#[]⟩ else x := by
  induction k with
  | zero => rw [if_neg (by omega)]; rfl
  | succ k ih =>
    rw [List.range_succ, List.map_append, stHold_append, ih]
    show (if a + (k + 1) = i then _ else _) = _
    by_cases h : a + (k + 1) = i
    · rw [if_pos h, if_pos (by omega), ← h, Nat.add_sub_cancel_left]
    · rw [if_neg h]
      by_cases h2 : a < i ∧ i ≤ a + k
      · rw [if_pos h2, if_pos (by omega)]
      · rw [if_neg h2, if_neg (by omega)]
theorem lay_hold (a : Nat) (l : List ByteArray) (i : Nat) (x : ByteArray) (hl : 1 ≤ l.length) : stHold i x (laySt a l) = if a ≤ i ∧ i < a + l.length then l.getD (i - a) ⟨#[]⟩ else x := by
  rw [laySt, stHold_append, putsSt, puts_hold]
  show (if a = i then _ else _) = _
  by_cases h : a = i
  · rw [if_pos h, if_pos (by omega), h, Nat.sub_self]
  · rw [if_neg h]
    by_cases h2 : a < i ∧ i ≤ a + (l.length - 1)
    · rw [if_pos h2, if_pos (by omega)]
    · rw [if_neg h2, if_neg (by omega)]
/-- Laid, and all of it synced. -/
theorem lay_holds {d : Dk} {a : Nat} {l : List ByteArray} (hr : right d = true) (ho : d.off = false) (hl : 1 ≤ l.length) (h : layE d a l = 0) :
    right (layD d a l) = true ∧ (layD d a l).off = false ∧ (layD d a l).pend = [] ∧ (layD d a l).secs.length = d.secs.length ∧
    ∀ i : Nat, i < d.secs.length → holdsOf (layD d a l) i = if a ≤ i ∧ i < a + l.length then l.getD (i - a) ⟨#[]⟩ else holdsOf d i := by
  obtain ⟨h1, h2, h3, h4⟩ := run_holds (laySt a l) d hr ho h
  have e : laySt a l = (putsSt a l ++ [.sync, .put a (l.getD 0 ⟨#[]⟩)]) ++ [.sync] := by simp [laySt, lastSt]
  have hs : runE d ((putsSt a l ++ [.sync, .put a (l.getD 0 ⟨#[]⟩)]) ++ [.sync]) = 0 := by rw [← e]; exact h
  obtain ⟨_, g2, g3⟩ := run_snoc _ _ _ hs
  refine ⟨h1, h2, ?_, h3, fun i hi => by rw [← lay_hold a l i _ hl]; exact h4 i hi⟩
  show (runD d (laySt a l)).pend = []
  rw [e, g3]
  exact (sync_holds g2).2.2.2.2.1
/-! ### The power goes -/
def wrOf (x : Nat × ByteArray) : Wr := ⟨(x.1 : Int), x.2⟩
theorem put_on {S : List ByteArray} {P : List Wr} {f : Int} {m : Nat} {x : ByteArray} (hr : right ⟨S, P, false, f⟩ = true) (hm : m < S.length) (hx : x.size = 64) (hP : P.length < 4096) :
    (putE ⟨S, P, false, f⟩ m x = 0 ∧ ∃ f', putD ⟨S, P, false, f⟩ m x = ⟨S, P ++ [⟨m, x⟩], false, f'⟩ ∧ right ⟨S, P ++ [⟨m, x⟩], false, f'⟩ = true) ∨
    (putE ⟨S, P, false, f⟩ m x = 15 ∧ ∃ f', putD ⟨S, P, false, f⟩ m x = ⟨S, P ++ [⟨m, x⟩], true, f'⟩ ∧ right ⟨S, P ++ [⟨m, x⟩], true, f'⟩ = true) := by
  have href : refE ⟨S, P, false, f⟩ m x = 0 := by
    have h1 : there S (m : Int) = true := there_of hm
    have h3 : ¬ 4096 ≤ P.length := by omega
    simp [refE, h1, hx, h3]
  have hr2 : ∀ b g, right ⟨S, P ++ [⟨m, x⟩], b, g⟩ = true := fun b g => right_more (g := g) hr hm hx hP
  by_cases h0 : f = 0
  · subst h0
    exact .inr ⟨by simp [putE, hr, href, workE], 0, by simp [putD, hr, href, workD], hr2 _ _⟩
  · exact .inl ⟨by simp [putE, hr, href, workE, h0], fuse1 f, by simp [putD, hr, href, workD, h0, burn, fuse1], hr2 _ _⟩
theorem sync_on {S : List ByteArray} {P : List Wr} {f : Int} (hr : right ⟨S, P, false, f⟩ = true) :
    (syncE ⟨S, P, false, f⟩ = 0 ∧ ∃ f', syncD ⟨S, P, false, f⟩ = ⟨stl (fun _ => true) 0 P S, [], false, f'⟩ ∧ right ⟨stl (fun _ => true) 0 P S, [], false, f'⟩ = true) ∨
    (syncE ⟨S, P, false, f⟩ = 15 ∧ ∃ f', syncD ⟨S, P, false, f⟩ = ⟨S, P, true, f'⟩ ∧ right ⟨S, P, true, f'⟩ = true) := by
  by_cases h0 : f = 0
  · subst h0
    exact .inr ⟨by simp [syncE, hr, workE], 0, by simp [syncD, hr, workD], hr⟩
  · rcases sync_cases hr with ⟨h1, _⟩ | ⟨h1, hD, hr2⟩
    · simp [syncE, hr, workE, h0] at h1
    · exact .inl ⟨h1, fuse1 f, hD, by rw [← hD]; exact hr2⟩
theorem puts_on : ∀ (W : List (Nat × ByteArray)) (S : List ByteArray) (P : List Wr) (f : Int), right ⟨S, P, false, f⟩ = true → (∀ x ∈ W, x.1 < S.length ∧ x.2.size = 64) → P.length + W.length ≤ 4096 →
    (runE ⟨S, P, false, f⟩ (W.map fun x => .put x.1 x.2) = 0 ∧ ∃ f', runD ⟨S, P, false, f⟩ (W.map fun x => .put x.1 x.2) = ⟨S, P ++ W.map wrOf, false, f'⟩ ∧ right ⟨S, P ++ W.map wrOf, false, f'⟩ = true) ∨
    (runE ⟨S, P, false, f⟩ (W.map fun x => .put x.1 x.2) = 15 ∧ ∃ (Q : List (Nat × ByteArray)) (f' : Int), (∀ y ∈ Q, y ∈ W) ∧ runD ⟨S, P, false, f⟩ (W.map fun x => .put x.1 x.2) = ⟨S, P ++ Q.map wrOf, true, f'⟩ ∧ right ⟨S, P ++ Q.map wrOf, true, f'⟩ = true) := by
  intro W
  induction W with
  | nil => intro S P f hr _ _; exact .inl ⟨rfl, f, by simp [runD], by simpa using hr⟩
  | cons x W ih =>
    intro S P f hr hW hP
    simp only [List.length_cons] at hP
    have hx := hW x (by simp)
    rw [List.map_cons]
    rcases put_on hr hx.1 hx.2 (by omega) with ⟨hE, f', hD, hr'⟩ | ⟨hE, f', hD, hr'⟩
    · have ho := run_ok (d := ⟨S, P, false, f⟩) (s := .put x.1 x.2) (l := W.map fun x => .put x.1 x.2) hE
      rw [ho.1, ho.2, show stD ⟨S, P, false, f⟩ (.put x.1 x.2) = putD ⟨S, P, false, f⟩ (x.1 : Int) x.2 from rfl, hD]
      rcases ih S (P ++ [⟨x.1, x.2⟩]) f' hr' (fun y hy => hW y (by simp [hy])) (by simp; omega) with ⟨g1, g, g2, g3⟩ | ⟨g1, Q, g, gq, g2, g3⟩
      · exact .inl ⟨g1, g, by rw [g2]; simp [wrOf], by simpa [wrOf] using g3⟩
      · refine .inr ⟨g1, x :: Q, g, fun y hy => ?_, by rw [g2]; simp [wrOf], by simpa [wrOf] using g3⟩
        rcases List.mem_cons.1 hy with h | h
        · subst h; simp
        · simp [gq y h]
    · have ho := run_no (d := ⟨S, P, false, f⟩) (s := .put x.1 x.2) (l := W.map fun x => .put x.1 x.2) (by rw [show stE ⟨S, P, false, f⟩ (.put x.1 x.2) = putE ⟨S, P, false, f⟩ (x.1 : Int) x.2 from rfl, hE]; decide)
      rw [ho.1, ho.2, show stD ⟨S, P, false, f⟩ (.put x.1 x.2) = putD ⟨S, P, false, f⟩ (x.1 : Int) x.2 from rfl, show stE ⟨S, P, false, f⟩ (.put x.1 x.2) = putE ⟨S, P, false, f⟩ (x.1 : Int) x.2 from rfl, hD]
      exact .inr ⟨hE, [x], f', by simp, by simp [wrOf], by simpa [wrOf] using hr'⟩
end Go.Proofs.Ytpfbmmeipojodaa
end
section
/- Laying sectors: what a crash leaves of it. -/
namespace Go.Proofs.Ytpfbmmeipojodaa
open Go.RowKit
theorem run_app_ok : ∀ (A B : List Stp) (d : Dk), runE d A = 0 → runD d (A ++ B) = runD (runD d A) B ∧ runE d (A ++ B) = runE (runD d A) B := by
  intro A
  induction A with
  | nil => intro B d _; exact ⟨rfl, rfl⟩
  | cons s A ih =>
    intro B d h
    by_cases hs : stE d s = 0
    · rw [(run_ok hs).2] at h
      rw [List.cons_append, (run_ok (l := A ++ B) hs).1, (run_ok (l := A ++ B) hs).2, (run_ok (l := A) hs).1]
      exact ih B _ h
    · rw [(run_no hs).2] at h; exact absurd h hs
theorem run_app_no : ∀ (A B : List Stp) (d : Dk), runE d A ≠ 0 → runD d (A ++ B) = runD d A ∧ runE d (A ++ B) = runE d A := by
  intro A
  induction A with
  | nil => intro B d h; exact absurd rfl h
  | cons s A ih =>
    intro B d h
    by_cases hs : stE d s = 0
    · rw [(run_ok hs).2] at h
      rw [List.cons_append, (run_ok (l := A ++ B) hs).1, (run_ok (l := A ++ B) hs).2, (run_ok (l := A) hs).1, (run_ok (l := A) hs).2]
      exact ih B _ h
    · rw [List.cons_append, (run_no (l := A ++ B) hs).1, (run_no (l := A ++ B) hs).2, (run_no (l := A) hs).1, (run_no (l := A) hs).2]
      exact ⟨rfl, rfl⟩
def putsW (a : Nat) (l : List ByteArray) : List (Nat × ByteArray) := (List.range (l.length - 1)).map fun j => (a + (j + 1), l.getD (j + 1) ⟨#[]⟩)
theorem putsW_st (a : Nat) (l : List ByteArray) : (putsW a l).map (fun x => Stp.put x.1 x.2) = putsSt a l := by simp [putsW, putsSt]
theorem putsW_length (a : Nat) (l : List ByteArray) : (putsW a l).length = l.length - 1 := by simp [putsW]
theorem putsW_mem {a : Nat} {l : List ByteArray} {x : Nat × ByteArray} (h : x ∈ putsW a l) : a < x.1 ∧ x.1 < a + l.length ∧ x.2 = l.getD (x.1 - a) ⟨#[]⟩ := by
  simp only [putsW, List.mem_map, List.mem_range] at h
  obtain ⟨j, hj, rfl⟩ := h
  exact ⟨by show a < a + (j + 1); omega, by show a + (j + 1) < _; omega, by show _ = l.getD (a + (j + 1) - a) _; rw [Nat.add_sub_cancel_left]⟩
theorem getD_size {l : List ByteArray} (hl : ∀ x ∈ l, x.size = 64) {i : Nat} (h : i < l.length) : (l.getD i ⟨#[]⟩).size = 64 := by
  simp only [List.getD, List.getElem?_eq_getElem h, Option.getD_some]
  exact hl _ (List.getElem_mem h)
theorem holds_nil (S : List ByteArray) (o : Bool) (f : Int) (i : Nat) : holdsOf ⟨S, [], o, f⟩ i = S.getD i ⟨#[]⟩ := rfl
theorem crash_form {d : Dk} (keep : List Bool) (hr : right d = true) : crashD d keep = ⟨stl (mayOf keep) 0 d.pend d.secs, [], false, -1⟩ := by simp [crashD, hr]
/-- What a crash leaves of a sector. -/
theorem crash_may {S : List ByteArray} {P : List Wr} {o : Bool} {f : Int} (keep : List Bool) (hr : right ⟨S, P, o, f⟩ = true) {m : Nat} (hm : m < S.length) :
    holdsOf (crashD ⟨S, P, o, f⟩ keep) m = S.getD m ⟨#[]⟩ ∨ ∃ x ∈ P, x.sec = m ∧ x.data = holdsOf (crashD ⟨S, P, o, f⟩ keep) m := by
  rw [crash_form keep hr, holds_nil]
  exact stl_may _ _ _ _ _ hm (fun x hx => ((right_iff.1 hr).2.2.2 x hx).1)
def LaidAs (d C : Dk) (a : Nat) (l : List ByteArray) : Prop := ∀ m : Nat, m < d.secs.length → holdsOf C m = if a ≤ m ∧ m < a + l.length then l.getD (m - a) ⟨#[]⟩ else holdsOf d m
def KeptAs (d C : Dk) (a : Nat) (l : List ByteArray) : Prop := (∀ m : Nat, m < d.secs.length → m ≤ a ∨ a + l.length ≤ m → holdsOf C m = holdsOf d m) ∧ ∀ m : Nat, a < m → m < a + l.length → holdsOf C m = holdsOf d m ∨ holdsOf C m = l.getD (m - a) ⟨#[]⟩
theorem kept_puts {S : List ByteArray} {Q : List (Nat × ByteArray)} {o o' : Bool} {f g : Int} {a : Nat} {l : List ByteArray} (keep : List Bool) (hr : right ⟨S, Q.map wrOf, o, g⟩ = true) (hQ : ∀ y ∈ Q, y ∈ putsW a l) (ha : a + l.length ≤ S.length) :
    KeptAs ⟨S, [], o', f⟩ (crashD ⟨S, Q.map wrOf, o, g⟩ keep) a l := by
  constructor
  · intro m hm hma
    rcases crash_may keep hr hm with h | ⟨x, hx, h1, _⟩
    · rw [h, holds_nil]
    · obtain ⟨y, hy, rfl⟩ := List.mem_map.1 hx
      have := putsW_mem (hQ y hy)
      have h1 : (y.1 : Int) = (m : Int) := h1
      omega
  · intro m h1 h2
    rcases crash_may keep hr (m := m) (by omega) with h | ⟨x, hx, e1, e2⟩
    · exact .inl (by rw [h, holds_nil])
    · obtain ⟨y, hy, rfl⟩ := List.mem_map.1 hx
      have hp := putsW_mem (hQ y hy)
      have e1 : (y.1 : Int) = (m : Int) := e1
      have : y.1 = m := by omega
      subst this
      exact .inr (by rw [← e2]; exact hp.2.2)
theorem lay_crash {S : List ByteArray} {f : Int} {a : Nat} {l : List ByteArray} (keep : List Bool) (hr : right ⟨S, [], false, f⟩ = true) (hl : ∀ x ∈ l, x.size = 64) (h1 : 1 ≤ l.length) (h2 : l.length ≤ 4000) (ha : a + l.length ≤ S.length) :
    (layE ⟨S, [], false, f⟩ a l = 0 ∨ layE ⟨S, [], false, f⟩ a l = 15) ∧ right (layD ⟨S, [], false, f⟩ a l) = true ∧ (layD ⟨S, [], false, f⟩ a l).secs.length = S.length ∧
    ((layE ⟨S, [], false, f⟩ a l = 15 ∧ KeptAs ⟨S, [], false, f⟩ (crashD (layD ⟨S, [], false, f⟩ a l) keep) a l) ∨ LaidAs ⟨S, [], false, f⟩ (crashD (layD ⟨S, [], false, f⟩ a l) keep) a l) := by
  have hW : ∀ x ∈ putsW a l, x.1 < S.length ∧ x.2.size = 64 := fun x hx => by
    have := putsW_mem hx
    exact ⟨by omega, by rw [this.2.2]; exact getD_size hl (by omega)⟩
  have hl0 : (l.getD 0 ⟨#[]⟩).size = 64 := getD_size hl (by omega)
  unfold layD layE laySt
  rw [← putsW_st]
  rcases puts_on (putsW a l) S [] f hr hW (by rw [putsW_length]; simp; omega) with ⟨hE, f1, hD, hr1⟩ | ⟨hE, Q, f1, hQ, hD, hr1⟩
  case inr =>
    have hn := run_app_no ((putsW a l).map fun x => .put x.1 x.2) (lastSt a l) ⟨S, [], false, f⟩ (by rw [hE]; decide)
    rw [hn.1, hn.2, hD, hE]
    rw [List.nil_append] at hr1 ⊢
    exact ⟨.inr rfl, hr1, rfl, .inl ⟨rfl, kept_puts keep hr1 hQ ha⟩⟩
  rw [List.nil_append] at hD hr1
  have hy := run_app_ok ((putsW a l).map fun x => .put x.1 x.2) (lastSt a l) ⟨S, [], false, f⟩ hE
  rw [hy.1, hy.2, hD, lastSt]
  -- the first sync
  rcases sync_on hr1 with ⟨hE2, f2, hD2, hr2⟩ | ⟨hE2, f2, hD2, hr2⟩
  case inr =>
    have hn := run_no (d := ⟨S, (putsW a l).map wrOf, false, f1⟩) (s := .sync) (l := [.put a (l.getD 0 ⟨#[]⟩), .sync]) (by show syncE _ ≠ 0; rw [hE2]; decide)
    rw [hn.1, hn.2, show stD ⟨S, (putsW a l).map wrOf, false, f1⟩ .sync = _ from hD2, show stE ⟨S, (putsW a l).map wrOf, false, f1⟩ .sync = _ from hE2]
    exact ⟨.inr rfl, hr2, rfl, .inl ⟨rfl, kept_puts keep hr2 (fun y hy => hy) ha⟩⟩
  have hn := run_ok (d := ⟨S, (putsW a l).map wrOf, false, f1⟩) (s := .sync) (l := [.put a (l.getD 0 ⟨#[]⟩), .sync]) hE2
  rw [hn.1, hn.2, show stD ⟨S, (putsW a l).map wrOf, false, f1⟩ .sync = _ from hD2]
  have hS1l : (stl (fun _ => true) 0 ((putsW a l).map wrOf) S).length = S.length := stl_length _ _ _ _
  have hS1 : ∀ m : Nat, m < S.length → (stl (fun _ => true) 0 ((putsW a l).map wrOf) S).getD m ⟨#[]⟩ = if a < m ∧ m < a + l.length then l.getD (m - a) ⟨#[]⟩ else S.getD m ⟨#[]⟩ := fun m hm => by
    have hrun := (run_holds (putsSt a l) ⟨S, [], false, f⟩ hr rfl (by rw [← putsW_st]; exact hE)).2.2.2 m hm
    rw [← putsW_st, hD, putsW_st] at hrun
    have hsy := (sync_holds hE2).2.2.2.2.2.2 m hm
    rw [hD2, holds_nil, hrun, putsSt, puts_hold, holds_nil] at hsy
    rw [hsy]
    by_cases h : a < m ∧ m < a + l.length
    · rw [if_pos (by omega), if_pos h]
    · rw [if_neg (by omega), if_neg h]
  obtain ⟨S1, HS1⟩ : ∃ S1, S1 = stl (fun _ => true) 0 ((putsW a l).map wrOf) S := ⟨_, rfl⟩
  rw [← HS1] at hS1 hS1l hr2 ⊢
  clear HS1 hE2 hD2 hn hE hD hy hr1
  -- the head, kept or not
  have key : ∀ (o : Bool) (g : Int), right ⟨S1, [⟨a, l.getD 0 ⟨#[]⟩⟩], o, g⟩ = true → KeptAs ⟨S, [], false, f⟩ (crashD ⟨S1, [⟨a, l.getD 0 ⟨#[]⟩⟩], o, g⟩ keep) a l ∨ LaidAs ⟨S, [], false, f⟩ (crashD ⟨S1, [⟨a, l.getD 0 ⟨#[]⟩⟩], o, g⟩ keep) a l := by
    intro o g hrg
    have hoth : ∀ m : Nat, m < S.length → m ≠ a → holdsOf (crashD ⟨S1, [⟨a, l.getD 0 ⟨#[]⟩⟩], o, g⟩ keep) m = S1.getD m ⟨#[]⟩ := fun m hm hne => by
      rcases crash_may keep hrg (m := m) (by omega) with h | ⟨x, hx, e1, _⟩
      · exact h
      · rw [List.mem_singleton] at hx
        subst hx
        have e1 : (a : Int) = (m : Int) := e1
        omega
    rcases crash_may keep hrg (m := a) (by omega) with h | ⟨x, hx, e1, e2⟩
    · left
      constructor
      · intro m hm hma
        rcases Nat.lt_trichotomy m a with h9 | h9 | h9
        · rw [hoth m hm (by omega), hS1 m hm, if_neg (by omega), holds_nil]
        · subst h9
          rw [h, hS1 m hm, if_neg (by omega), holds_nil]
        · rw [hoth m hm (by omega), hS1 m hm, if_neg (by omega), holds_nil]
      · intro m h3 h4
        right
        rw [hoth m (by omega) (by omega), hS1 m (by omega), if_pos ⟨h3, h4⟩]
    · right
      intro m hm
      have hm : m < S.length := hm
      by_cases hma : m = a
      · subst hma
        rw [List.mem_singleton] at hx
        subst hx
        rw [← e2, if_pos (by omega), Nat.sub_self]
      · rw [hoth m hm hma, hS1 m hm]
        by_cases h9 : a < m ∧ m < a + l.length
        · rw [if_pos h9, if_pos (by omega)]
        · rw [if_neg h9, if_neg (by omega), holds_nil]
  rcases put_on hr2 (m := a) (x := l.getD 0 ⟨#[]⟩) (by omega) hl0 (by simp) with ⟨hE3, f3, hD3, hr3⟩ | ⟨hE3, f3, hD3, hr3⟩
  case inr =>
    have hn := run_no (d := ⟨S1, [], false, f2⟩) (s := .put a (l.getD 0 ⟨#[]⟩)) (l := [.sync]) (by show putE _ _ _ ≠ 0; rw [hE3]; decide)
    rw [hn.1, hn.2, show stD ⟨S1, [], false, f2⟩ (.put a (l.getD 0 ⟨#[]⟩)) = _ from hD3, show stE ⟨S1, [], false, f2⟩ (.put a (l.getD 0 ⟨#[]⟩)) = _ from hE3]
    exact ⟨.inr rfl, hr3, hS1l, (key _ _ hr3).imp (fun h => ⟨rfl, h⟩) id⟩
  have hn := run_ok (d := ⟨S1, [], false, f2⟩) (s := .put a (l.getD 0 ⟨#[]⟩)) (l := [.sync]) hE3
  rw [hn.1, hn.2, show stD ⟨S1, [], false, f2⟩ (.put a (l.getD 0 ⟨#[]⟩)) = _ from hD3]
  rw [List.nil_append] at hr3 ⊢
  rcases sync_on hr3 with ⟨hE4, f4, hD4, hr4⟩ | ⟨hE4, f4, hD4, hr4⟩
  · have hn := run_ok (d := ⟨S1, [⟨a, l.getD 0 ⟨#[]⟩⟩], false, f3⟩) (s := .sync) (l := []) hE4
    rw [hn.1, hn.2, show stD ⟨S1, [⟨a, l.getD 0 ⟨#[]⟩⟩], false, f3⟩ .sync = _ from hD4]
    have hS2l : (stl (fun _ => true) 0 [⟨(a : Int), l.getD 0 ⟨#[]⟩⟩] S1).length = S.length := (stl_length _ _ _ _).trans hS1l
    refine ⟨.inl rfl, hr4, hS2l, .inr fun m hm => ?_⟩
    have hm : m < S.length := hm
    have hsy := (sync_holds hE4).2.2.2.2.2.2 m (by show m < S1.length; omega)
    rw [hD4] at hsy
    rw [show runD ⟨stl (fun _ => true) 0 [⟨(a : Int), l.getD 0 ⟨#[]⟩⟩] S1, [], false, f4⟩ [] = ⟨stl (fun _ => true) 0 [⟨(a : Int), l.getD 0 ⟨#[]⟩⟩] S1, [], false, f4⟩ from rfl]
    have hc : holdsOf (crashD ⟨stl (fun _ => true) 0 [⟨(a : Int), l.getD 0 ⟨#[]⟩⟩] S1, [], false, f4⟩ keep) m = holdsOf ⟨stl (fun _ => true) 0 [⟨(a : Int), l.getD 0 ⟨#[]⟩⟩] S1, [], false, f4⟩ m := by
      rw [crash_form keep hr4]
      rfl
    rw [hc, hsy, holdsOf_eq]
    show (if (a : Int) = (m : Int) then _ else S1.getD m ⟨#[]⟩) = _
    by_cases hma : a = m
    · subst hma
      rw [if_pos rfl, if_pos (by omega), Nat.sub_self]
    · rw [if_neg (by omega), hS1 m hm]
      by_cases h9 : a < m ∧ m < a + l.length
      · rw [if_pos h9, if_pos (by omega)]
      · rw [if_neg h9, if_neg (by omega), holds_nil]
  · have hn := run_no (d := ⟨S1, [⟨a, l.getD 0 ⟨#[]⟩⟩], false, f3⟩) (s := .sync) (l := []) (by show syncE _ ≠ 0; rw [hE4]; decide)
    rw [hn.1, hn.2, show stD ⟨S1, [⟨a, l.getD 0 ⟨#[]⟩⟩], false, f3⟩ .sync = _ from hD4, show stE ⟨S1, [⟨a, l.getD 0 ⟨#[]⟩⟩], false, f3⟩ .sync = _ from hE4]
    exact ⟨.inr rfl, hr4, hS1l, (key _ _ hr4).imp (fun h => ⟨rfl, h⟩) id⟩
end Go.Proofs.Ytpfbmmeipojodaa
end
section
/- Logs, in plain Lean: frames one behind the other; what appending one, and a crash, leave. -/
namespace Go.Proofs.Ytpfbmmeipojodaa
open Go.RowKit
inductive Chain (d : Dk) (f s ep : Nat) : Nat → Nat → List Fr → Nat → Prop
  | nil (a k : Nat) : Chain d f s ep a k [] a
  | cons {a k : Nat} {x : Fr} {n : Nat} {l : List Fr} {b : Nat} : FrameAt d f s a x n → x.epoch = ep → x.seq = k → Chain d f s ep (a + n) (k + 1) l b → Chain d f s ep a k (x :: l) b
section
variable {d d' : Dk} {f s ep : Nat}
theorem FrameAt.pos {a : Nat} {x : Fr} {n : Nat} (h : FrameAt d f s a x n) : 1 ≤ n ∧ a + n ≤ s := ⟨by rw [h.len]; omega, h.room⟩
theorem FrameAt.same {a : Nat} {x : Fr} {n : Nat} (h : FrameAt d f s a x n) (hs : ∀ m : Nat, f + a ≤ m → m < f + a + n → holdsOf d' m = holdsOf d m) : FrameAt d' f s a x n :=
  ⟨h.ok, h.len, h.room, by
    rw [← h.lies]
    refine List.map_congr_left fun i hi => ?_
    have := List.mem_range.1 hi
    exact hs _ (by omega) (by omega)⟩
theorem Chain.le {a k : Nat} {l : List Fr} {b : Nat} (h : Chain d f s ep a k l b) : a ≤ b := by
  induction h with
  | nil => exact Nat.le_refl _
  | cons _ _ _ _ ih => omega
theorem Chain.room {a k : Nat} {l : List Fr} {b : Nat} (h : Chain d f s ep a k l b) (ha : a ≤ s) : b ≤ s := by
  induction h with
  | nil => exact ha
  | cons h1 _ _ _ ih => exact ih h1.pos.2
theorem Chain.snoc {a k : Nat} {l : List Fr} {b : Nat} (h : Chain d f s ep a k l b) {x : Fr} {n : Nat} (hx : FrameAt d f s b x n) (h1 : x.epoch = ep) (h2 : x.seq = k + l.length) : Chain d f s ep a k (l ++ [x]) (b + n) := by
  induction h with
  | nil a k => exact .cons hx h1 (by simpa using h2) (.nil _ _)
  | cons g1 g2 g3 _ ih => exact .cons g1 g2 g3 (ih hx (by rw [h2, List.length_cons]; omega))
theorem Chain.same {a k : Nat} {l : List Fr} {b : Nat} (h : Chain d f s ep a k l b) (hs : ∀ m : Nat, f + a ≤ m → m < f + b → holdsOf d' m = holdsOf d m) : Chain d' f s ep a k l b := by
  induction h with
  | nil => exact .nil _ _
  | cons g1 g2 g3 g4 ih =>
    have hle := g4.le
    exact .cons (g1.same fun m h1 h2 => hs m h1 (by omega)) g2 g3 (ih fun m h1 h2 => hs m (by omega) h2)
theorem chain_log {a k : Nat} {l : List Fr} {b : Nat} (h : Chain d f s ep a k l b) : ∀ fuel, l.length ≤ fuel → logL d f s ep fuel a k = (l ++ (logL d f s ep (fuel - l.length) b (k + l.length)).1, (logL d f s ep (fuel - l.length) b (k + l.length)).2) := by
  induction h with
  | nil => intro fuel _; simp
  | @cons a k x n l b g1 g2 g3 _ ih =>
    intro fuel hf
    rw [List.length_cons] at hf
    obtain ⟨fl, rfl⟩ : ∃ fl, fuel = fl + 1 := ⟨fuel - 1, by omega⟩
    rw [logL_step g1 g2 g3, ih fl (by omega), List.length_cons, show fl + 1 - (l.length + 1) = fl - l.length by omega, show k + (l.length + 1) = k + 1 + l.length by omega]
    rfl
theorem log_chain : ∀ (fuel a k : Nat), Chain d f s ep a k (logL d f s ep fuel a k).1 (logL d f s ep fuel a k).2 ∧ (logL d f s ep fuel a k).1.length ≤ fuel ∧
    ((logL d f s ep fuel a k).1.length < fuel → ∀ x n, FrameAt d f s (logL d f s ep fuel a k).2 x n → ¬ (x.epoch = ep ∧ x.seq = k + (logL d f s ep fuel a k).1.length)) := by
  intro fuel
  induction fuel with
  | zero => intro a k; exact ⟨.nil _ _, Nat.le_refl _, fun h => absurd h (Nat.lt_irrefl _)⟩
  | succ fuel ih =>
    intro a k
    by_cases he : ∃ x n, FrameAt d f s a x n ∧ x.epoch = ep ∧ x.seq = k
    · obtain ⟨x, n, hx, h1, h2⟩ := he
      rw [logL_step hx h1 h2]
      obtain ⟨g1, g2, g3⟩ := ih (a + n) (k + 1)
      refine ⟨.cons hx h1 h2 g1, by simp; exact g2, fun h y m hy => ?_⟩
      have := g3 (by simpa using h) y m hy
      rw [List.length_cons, show k + ((logL d f s ep fuel (a + n) (k + 1)).1.length + 1) = k + 1 + (logL d f s ep fuel (a + n) (k + 1)).1.length by omega]
      exact this
    · have hno : ∀ x n, FrameAt d f s a x n → ¬ (x.epoch = ep ∧ x.seq = k) := fun x n hx hc => he ⟨x, n, hx, hc⟩
      rw [logL_stop hno]
      exact ⟨.nil _ _, by simp, fun _ x n hx => by simpa using hno x n hx⟩
/-- A chain with nothing of its epoch behind is the log. -/
theorem log_is {l : List Fr} {b : Nat} (h : Chain d f s ep 0 0 l b) (hl : l.length ≤ 1024) (hno : l.length < 1024 → ∀ x n, FrameAt d f s b x n → ¬ (x.epoch = ep ∧ x.seq = l.length)) : logOf d f s ep = (l, b) := by
  unfold logOf
  rw [chain_log h 1024 hl]
  rcases Nat.lt_or_ge l.length 1024 with hlt | hge
  · rw [logL_stop (fun x n hx => by simpa using hno hlt x n hx)]
    simp
  · rw [show 1024 - l.length = 0 by omega]
    simp [logL]
theorem log_of {l : List Fr} {b : Nat} (h : logOf d f s ep = (l, b)) : Chain d f s ep 0 0 l b ∧ l.length ≤ 1024 ∧ (l.length < 1024 → ∀ x n, FrameAt d f s b x n → ¬ (x.epoch = ep ∧ x.seq = l.length)) := by
  have := log_chain (d := d) (f := f) (s := s) (ep := ep) 1024 0 0
  rw [show logL d f s ep 1024 0 0 = (l, b) from h] at this
  simpa using this
end
theorem head_epoch (x : Fr) (h : FrOk x) : HeadOk (str (frHead x)).data.toList ∧ atL (str (frHead x)).data.toList 2 8 = x.epoch ∧ atL (str (frHead x)).data.toList 10 8 = x.seq := by
  refine ⟨head_ok x h, ?_, ?_⟩
  · rw [str_data, frHead, head_at2, Nat.mod_eq_of_lt (Nat.lt_of_lt_of_eq h.epoch (by decide))]
  · rw [str_data, frHead, head_at10, Nat.mod_eq_of_lt (Nat.lt_of_lt_of_eq h.seq (by decide))]
/-- Laid sectors are a frame. -/
theorem frame_laid {d C : Dk} {f s b : Nat} {fr : Fr} (ok : FrOk fr) (hroom : b + (piecesN fr.pay.length + 1) ≤ s) (hfs : f + s ≤ d.secs.length) (h : LaidAs d C (f + b) ((sectorsL fr).map str)) : FrameAt C f s b fr (piecesN fr.pay.length + 1) := by
  have hl : ((sectorsL fr).map str).length = piecesN fr.pay.length + 1 := by rw [List.length_map, sectorsL_length]
  refine ⟨ok, rfl, hroom, ?_⟩
  apply List.ext_getElem
  · simp [sectorsL_length]
  · intro i h1 h2
    have hi : i < piecesN fr.pay.length + 1 := by simpa using h1
    rw [List.getElem_map, List.getElem_range, h (f + b + i) (by omega), if_pos ⟨by omega, by rw [hl]; omega⟩, Nat.add_sub_cancel_left]
    simp only [List.getD, List.getElem?_eq_getElem h2, Option.getD_some]
theorem sizes64 (fr : Fr) : ∀ x ∈ (sectorsL fr).map str, x.size = 64 := fun x hx => by
  obtain ⟨y, hy, rfl⟩ := List.mem_map.1 hx
  rw [str_size]
  exact sectorsL_sizes fr y hy
theorem pieces_le {fr : Fr} (ok : FrOk fr) : piecesN fr.pay.length ≤ 269 := by have := ok.pay; unfold piecesN; omega
/-- However the power goes while a frame is appended at a log's end. -/
theorem whole_law {S : List ByteArray} {fu : Int} {f s b : Nat} {fr : Fr} {l : List Fr} (keep : List Bool) (hr : right ⟨S, [], false, fu⟩ = true) (hfs : f + s ≤ S.length) (hlog : logOf ⟨S, [], false, fu⟩ f s fr.epoch = (l, b)) (hl : l.length < 1024) (hsq : fr.seq = l.length) (ok : FrOk fr)
    (hroom : b + (piecesN fr.pay.length + 1) ≤ s) (hg : ¬ (HeadOk (holdsOf ⟨S, [], false, fu⟩ ((f + b : Nat) : Int)).data.toList ∧ atL (holdsOf ⟨S, [], false, fu⟩ ((f + b : Nat) : Int)).data.toList 2 8 = fr.epoch ∧ atL (holdsOf ⟨S, [], false, fu⟩ ((f + b : Nat) : Int)).data.toList 10 8 = fr.seq)) :
    (layE ⟨S, [], false, fu⟩ (f + b) ((sectorsL fr).map str) = 0 ∨ layE ⟨S, [], false, fu⟩ (f + b) ((sectorsL fr).map str) = 15) ∧ right (layD ⟨S, [], false, fu⟩ (f + b) ((sectorsL fr).map str)) = true ∧
    ((layE ⟨S, [], false, fu⟩ (f + b) ((sectorsL fr).map str) = 15 ∧ logOf (crashD (layD ⟨S, [], false, fu⟩ (f + b) ((sectorsL fr).map str)) keep) f s fr.epoch = (l, b)) ∨
      logOf (crashD (layD ⟨S, [], false, fu⟩ (f + b) ((sectorsL fr).map str)) keep) f s fr.epoch = (l ++ [fr], b + (piecesN fr.pay.length + 1)) ∨
      ∃ y n2 rest e9, logOf (crashD (layD ⟨S, [], false, fu⟩ (f + b) ((sectorsL fr).map str)) keep) f s fr.epoch = (l ++ fr :: y :: rest, e9) ∧ FrameAt ⟨S, [], false, fu⟩ f s (b + (piecesN fr.pay.length + 1)) y n2 ∧ y.epoch = fr.epoch ∧ y.seq = l.length + 1) := by
  have hll : ((sectorsL fr).map str).length = piecesN fr.pay.length + 1 := by rw [List.length_map, sectorsL_length]
  have hp := pieces_le ok
  obtain ⟨hch, _, hno⟩ := log_of hlog
  obtain ⟨hE, hrD, hlen, hC⟩ := lay_crash (a := f + b) (l := (sectorsL fr).map str) keep hr (sizes64 fr) (by omega) (by omega) (by omega)
  refine ⟨hE, hrD, ?_⟩
  obtain ⟨C, HC⟩ : ∃ C, C = crashD (layD ⟨S, [], false, fu⟩ (f + b) ((sectorsL fr).map str)) keep := ⟨_, rfl⟩
  rw [← HC] at hC ⊢
  rcases hC with ⟨hE15, hk, _⟩ | hlaid
  · refine .inl ⟨hE15, log_is (hch.same fun m _ h2 => hk m (by show m < S.length; omega) (.inl (by omega))) (by omega) fun _ x n hx hc => hg ?_⟩
    have hh := hx.head
    rw [hk (f + b) (by show f + b < S.length; omega) (.inl (Nat.le_refl _))] at hh
    rw [hh]
    obtain ⟨g1, g2, g3⟩ := head_epoch x hx.ok
    exact ⟨g1, g2.trans hc.1, g3.trans (hc.2.trans hsq.symm)⟩
  · right
    have hfa := frame_laid (d := ⟨S, [], false, fu⟩) ok hroom hfs hlaid
    have hch2 : Chain C f s fr.epoch 0 0 (l ++ [fr]) (b + (piecesN fr.pay.length + 1)) :=
      (hch.same fun m _ h2 => by rw [hlaid m (by show m < S.length; omega), if_neg (by omega)]).snoc hfa rfl (by rw [hsq]; omega)
    have hlog2 := chain_log hch2 1024 (by rw [List.length_append, List.length_singleton]; omega)
    cases hrest : (logL C f s fr.epoch (1024 - (l ++ [fr]).length) (b + (piecesN fr.pay.length + 1)) (0 + (l ++ [fr]).length)).1 with
    | nil =>
      left
      have hc9 := log_chain (d := C) (f := f) (s := s) (ep := fr.epoch) (1024 - (l ++ [fr]).length) (b + (piecesN fr.pay.length + 1)) (0 + (l ++ [fr]).length)
      rw [hrest] at hc9
      have hto : (logL C f s fr.epoch (1024 - (l ++ [fr]).length) (b + (piecesN fr.pay.length + 1)) (0 + (l ++ [fr]).length)).2 = b + (piecesN fr.pay.length + 1) := by
        generalize (logL C f s fr.epoch (1024 - (l ++ [fr]).length) (b + (piecesN fr.pay.length + 1)) (0 + (l ++ [fr]).length)).2 = t at hc9
        cases hc9.1
        rfl
      show logL C f s fr.epoch 1024 0 0 = _
      rw [hlog2, hrest, hto, List.append_nil]
    | cons y rest =>
      right
      have hc9 := (log_chain (d := C) (f := f) (s := s) (ep := fr.epoch) (1024 - (l ++ [fr]).length) (b + (piecesN fr.pay.length + 1)) (0 + (l ++ [fr]).length)).1
      rw [hrest] at hc9
      cases hc9 with
      | @cons _ _ _ n2 _ _ g1 g2 g3 g4 =>
        refine ⟨y, n2, rest, (logL C f s fr.epoch (1024 - (l ++ [fr]).length) (b + (piecesN fr.pay.length + 1)) (0 + (l ++ [fr]).length)).2, ?_, g1.same fun m h1 h2 => ?_, g2, by rw [g3, List.length_append, List.length_singleton]; omega⟩
        · show logL C f s fr.epoch 1024 0 0 = _
          rw [hlog2, hrest, List.append_assoc]
          rfl
        · have := g1.pos.2
          rw [hlaid m (by show m < S.length; omega), if_neg (by rw [hll]; omega)]
/-! ### Frames that are appended one by one to a region of no heads -/
theorem zero_nohead : ¬ HeadOk zero64.data.toList := fun h => by
  have := h.mark
  simp [zero64, str_data] at this
theorem piece_nohead (p : List UInt8) (i : Nat) : ¬ HeadOk (str (pieceL p i)).data.toList := fun h => by
  have := h.mark
  rw [str_data] at this
  simp [pieceL, fillL] at this
/-- A disk whose first sectors are a log, the others no heads. -/
structure LogOn (d : Dk) (s ep : Nat) (l : List Fr) (b : Nat) : Prop where
  rt : right d = true
  on : d.off = false
  none : d.pend = []
  size : d.secs.length = s
  chain : Chain d 0 s ep 0 0 l b
  room : b ≤ s
  rest : ∀ m : Nat, b ≤ m → m < s → ¬ HeadOk (holdsOf d m).data.toList
section
variable {d : Dk} {s ep b : Nat} {l : List Fr}
theorem LogOn.nothing (h : LogOn d s ep l b) : ∀ x n, ¬ FrameAt d 0 s b x n := fun x n hx => by
  have hp := hx.pos
  have hh := hx.head
  rw [Nat.zero_add] at hh
  exact h.rest b (Nat.le_refl _) (by omega) (by rw [hh]; exact (head_epoch x hx.ok).1)
theorem LogOn.log (h : LogOn d s ep l b) (hl : l.length ≤ 1024) : logOf d 0 s ep = (l, b) := log_is h.chain hl fun _ x n hx => absurd hx (h.nothing x n)
theorem LogOn.other (h : LogOn d s ep l b) {oe : Nat} (hne : oe ≠ ep) : logOf d 0 s oe = ([], 0) := by
  refine log_is (.nil _ _) (by simp) fun _ x n hx hc => ?_
  cases hch : h.chain with
  | nil => exact h.nothing x n hx
  | cons g1 g2 g3 g4 => exact hne (by rw [← hc.1, (frame_one hx g1).1, g2])
theorem LogOn.fuse (h : LogOn d s ep l b) (fu : Int) : LogOn { d with fuse := fu } s ep l b := by
  obtain ⟨h1, h2, h3, h4, h5, h6, h7⟩ := h
  exact ⟨h1, h2, h3, h4, h5.same fun _ _ _ => rfl, h6, h7⟩
theorem LogOn.form (h : LogOn d s ep l b) : d = ⟨d.secs, [], false, d.fuse⟩ := by
  obtain ⟨S, P, o, f⟩ := d
  have h1 := h.none
  have h2 := h.on
  simp only at h1 h2
  subst h1
  subst h2
  rfl
theorem LogOn.crash (h : LogOn d s ep l b) (keep : List Bool) : LogOn (crashD d keep) s ep l b := by
  have hf := h.form
  have hr := h.rt
  have hc := h.fuse (-1)
  obtain ⟨S, P, o, f⟩ := d
  injection hf with _ hP hO _
  subst hP
  subst hO
  rw [crash_form keep hr]
  exact hc
theorem new_log (n ep : Nat) (h1 : 1 ≤ n) (h2 : n ≤ 1024) : LogOn (newD n) n ep [] 0 := by
  have hn : newD n = ⟨List.replicate n zero64, [], false, -1⟩ := ((new_of n).1 (by simp [sizeOk, h1, h2])).1
  rw [hn]
  refine ⟨right_iff.2 ⟨by simp; omega, by simp, fun x hx => by rw [List.eq_of_mem_replicate hx]; simp [zero64, str_size], by simp⟩, rfl, rfl, by simp, .nil _ _, Nat.zero_le _, fun m _ hm => ?_⟩
  rw [holds_nil, show (List.replicate n zero64).getD m ⟨#[]⟩ = zero64 by simp [List.getD, hm]]
  exact zero_nohead
/-- A frame laid behind. -/
theorem LogOn.laid {C : Dk} (h : LogOn d s ep l b) {fr : Fr} (ok : FrOk fr) (he : fr.epoch = ep) (hq : fr.seq = l.length) (hroom : b + (piecesN fr.pay.length + 1) ≤ s) (hr : right C = true) (ho : C.off = false) (hp : C.pend = []) (hs : C.secs.length = s)
    (hl : LaidAs d C b ((sectorsL fr).map str)) : LogOn C s ep (l ++ [fr]) (b + (piecesN fr.pay.length + 1)) := by
  have hll : ((sectorsL fr).map str).length = piecesN fr.pay.length + 1 := by rw [List.length_map, sectorsL_length]
  have hsz := h.size
  have hfa := frame_laid (d := d) (C := C) (f := 0) (s := s) (b := b) ok hroom (by omega) (by rw [Nat.zero_add]; exact hl)
  refine ⟨hr, ho, hp, hs, (h.chain.same fun m _ h2 => by rw [hl m (by have := h.room; omega), if_neg (by omega)]).snoc hfa he (by omega), hroom, fun m h1 h2 => ?_⟩
  rw [hl m (by omega), if_neg (by rw [hll]; omega)]
  exact h.rest m (by omega) h2
theorem LogOn.kept {C : Dk} (h : LogOn d s ep l b) {fr : Fr} (hroom : b + (piecesN fr.pay.length + 1) ≤ s) (hr : right C = true) (ho : C.off = false) (hp : C.pend = []) (hs : C.secs.length = s)
    (hk : KeptAs d C b ((sectorsL fr).map str)) : LogOn C s ep l b := by
  have hll : ((sectorsL fr).map str).length = piecesN fr.pay.length + 1 := by rw [List.length_map, sectorsL_length]
  have hsz := h.size
  refine ⟨hr, ho, hp, hs, h.chain.same fun m _ h2 => hk.1 m (by have := h.room; omega) (.inl (by omega)), h.room, fun m h1 h2 => ?_⟩
  by_cases h9 : m ≤ b ∨ b + ((sectorsL fr).map str).length ≤ m
  · rw [hk.1 m (by omega) h9]
    exact h.rest m h1 h2
  · rcases hk.2 m (by omega) (by omega) with h8 | h8
    · rw [h8]; exact h.rest m h1 h2
    · rw [h8]
      have : (sectorsL fr).map str = str (frHead fr) :: ((List.range (piecesN fr.pay.length)).map (pieceL fr.pay)).map str := rfl
      rw [this, show m - b = (m - b - 1) + 1 by omega, List.getD_cons_succ, List.map_map]
      have hi : m - b - 1 < piecesN fr.pay.length := by omega
      simp only [List.getD, List.getElem?_map, List.getElem?_range hi, Option.map_some, Option.getD_some]
      exact piece_nohead _ _
/-- The power goes, or not. -/
theorem LogOn.power (h : LogOn d s ep l b) {fr : Fr} (keep : List Bool) (ok : FrOk fr) (he : fr.epoch = ep) (hq : fr.seq = l.length) (hroom : b + (piecesN fr.pay.length + 1) ≤ s) :
    (layE d b ((sectorsL fr).map str) = 0 ∨ layE d b ((sectorsL fr).map str) = 15) ∧ right (layD d b ((sectorsL fr).map str)) = true ∧
    (LogOn (crashD (layD d b ((sectorsL fr).map str)) keep) s ep l b ∨ LogOn (crashD (layD d b ((sectorsL fr).map str)) keep) s ep (l ++ [fr]) (b + (piecesN fr.pay.length + 1))) := by
  have hll : ((sectorsL fr).map str).length = piecesN fr.pay.length + 1 := by rw [List.length_map, sectorsL_length]
  have hp := pieces_le ok
  have hsz := h.size
  have hf := h.form
  have hr := h.rt
  rw [hf] at hr
  obtain ⟨hE, hrD, hlen, hC⟩ := lay_crash (a := b) (l := (sectorsL fr).map str) keep hr (sizes64 fr) (by omega) (by omega) (by omega)
  rw [← hf] at hE hrD hlen hC
  refine ⟨hE, hrD, ?_⟩
  have hcf := crash_form keep hrD
  have hrC := right_crash (keep := keep) hrD
  have g1 : (crashD (layD d b ((sectorsL fr).map str)) keep).off = false := by rw [hcf]
  have g2 : (crashD (layD d b ((sectorsL fr).map str)) keep).pend = [] := by rw [hcf]
  have g3 : (crashD (layD d b ((sectorsL fr).map str)) keep).secs.length = s := by rw [hcf]; exact (stl_length _ _ _ _).trans (hlen.trans hsz)
  rcases hC with ⟨_, hk⟩ | hl
  · exact .inl (h.kept hroom hrC g1 g2 g3 hk)
  · exact .inr (h.laid ok he hq hroom hrC g1 g2 g3 hl)
theorem LogOn.fine (h : LogOn d s ep l b) {fr : Fr} (ok : FrOk fr) (he : fr.epoch = ep) (hq : fr.seq = l.length) (hroom : b + (piecesN fr.pay.length + 1) ≤ s) (h0 : layE d b ((sectorsL fr).map str) = 0) :
    LogOn (layD d b ((sectorsL fr).map str)) s ep (l ++ [fr]) (b + (piecesN fr.pay.length + 1)) := by
  obtain ⟨h1, h2, h3, h4, h5⟩ := lay_holds h.rt h.on (by rw [List.length_map, sectorsL_length]; omega) h0
  exact h.laid ok he hq hroom h1 h2 h3 (h4.trans h.size) h5
end
end Go.Proofs.Ytpfbmmeipojodaa
end
section
/- A disk that does not run out of power; appending a frame to a log, in plain Lean. -/
namespace Go.Proofs.Ytpfbmmeipojodaa
open Go.RowKit
theorem ref_cases (d : Dk) (n : Int) (x : ByteArray) : refE d n x ≠ 15 := by
  unfold refE
  split
  · decide
  · split
    · decide
    · split <;> decide
theorem calm_st {d : Dk} (ho : d.off = false) (hf : d.fuse = -1) (s : Stp) : stE d s ≠ 15 ∧ (stE d s = 0 → (stD d s).off = false ∧ (stD d s).fuse = -1) := by
  cases s with
  | put n x =>
    show putE d n x ≠ 15 ∧ (putE d n x = 0 → (putD d n x).off = false ∧ (putD d n x).fuse = -1)
    by_cases hr : right d = true
    · by_cases he : refE d n x = 0
      · simp [putE, putD, workE, workD, hr, he, ho, hf, burn]
      · have := ref_cases d n x
        simp [putE, putD, workE, workD, hr, he, ho, hf, this]
    · simp [putE, hr]
  | sync =>
    show syncE d ≠ 15 ∧ (syncE d = 0 → (syncD d).off = false ∧ (syncD d).fuse = -1)
    by_cases hr : right d = true
    · simp [syncE, syncD, workE, workD, hr, ho, hf, burn, settled]
    · simp [syncE, hr]
theorem calm_run : ∀ (ss : List Stp) (d : Dk), d.off = false → d.fuse = -1 → runE d ss ≠ 15 ∧ (runE d ss = 0 → (runD d ss).fuse = -1) := by
  intro ss
  induction ss with
  | nil => intro d _ hf; exact ⟨(by decide : (0 : Int) ≠ 15), fun _ => hf⟩
  | cons s ss ih =>
    intro d ho hf
    have hc := calm_st ho hf s
    by_cases h : stE d s = 0
    · rw [(run_ok h).1, (run_ok h).2]
      exact ih _ (hc.2 h).1 (hc.2 h).2
    · rw [(run_no h).1, (run_no h).2]
      exact ⟨hc.1, fun e => absurd e h⟩
section
variable {d : Dk} {s ep b : Nat} {l : List Fr}
theorem LogOn.size1 (h : LogOn d s ep l b) : 1 ≤ s ∧ s ≤ 1024 := by
  have := right_len h.rt
  have := h.size
  omega
theorem LogOn.region (h : LogOn d s ep l b) : walE d 0 s = 0 := by
  have h1 := h.size1
  have h2 := h.size
  have : regOk d 0 s = true := by simp [regOk]; omega
  simp [walE, h.rt, this]
theorem LogOn.appNo (h : LogOn d s ep l b) {fr : Fr} {e : Int} (hc : (frCheck fr ≠ 0 ∧ frCheck fr = e) ∨ (frCheck fr = 0 ∧ s < b + (piecesN fr.pay.length + 1) ∧ e = 16)) : appD d 0 s b fr = d ∧ appN d 0 s b fr = 0 ∧ appE d 0 s b fr = e := by
  have hb := h.room
  rcases hc with ⟨h1, h2⟩ | ⟨h1, h2, rfl⟩
  · exact app_no h.region ((appW_frame h.region h1).trans h2) (by rw [← h2]; exact h1)
  · exact app_no h.region (appW_full h.region h1 ⟨by omega, by omega⟩ (by omega)) (by decide)
theorem LogOn.appYes (h : LogOn d s ep l b) {fr : Fr} (hc : frCheck fr = 0) (hroom : b + (piecesN fr.pay.length + 1) ≤ s) :
    appD d 0 s b fr = layD d b ((sectorsL fr).map str) ∧ appE d 0 s b fr = layE d b ((sectorsL fr).map str) ∧ (layE d b ((sectorsL fr).map str) = 0 → appN d 0 s b fr = ((b + (piecesN fr.pay.length + 1) : Nat) : Int)) ∧ (layE d b ((sectorsL fr).map str) ≠ 0 → appN d 0 s b fr = 0) := by
  have hb := h.room
  have hw : appW d 0 s b fr = 0 := appW_fine h.region hc ⟨by omega, by omega⟩ (by omega)
  have hy := app_yes h.region hw
  rw [show (0 + (b : Int)).toNat = b by omega] at hy
  refine ⟨hy.1, hy.2, fun e => ?_, fun e => ?_⟩
  · rw [appN, hy.2, if_pos e]; omega
  · rw [appN, hy.2, if_neg e]
/-- With power, a frame that has room is appended. -/
theorem LogOn.appFine (h : LogOn d s ep l b) (hf : d.fuse = -1) {fr : Fr} (ok : FrOk fr) (he : fr.epoch = ep) (hq : fr.seq = l.length) (hroom : b + (piecesN fr.pay.length + 1) ≤ s) :
    appE d 0 s b fr = 0 ∧ appN d 0 s b fr = ((b + (piecesN fr.pay.length + 1) : Nat) : Int) ∧ LogOn (appD d 0 s b fr) s ep (l ++ [fr]) (b + (piecesN fr.pay.length + 1)) ∧ (appD d 0 s b fr).fuse = -1 := by
  have hc : frCheck fr = 0 := by
    have h1 := ok.kind
    have h2 := ok.pay
    rw [frCheck, if_neg h1, if_neg (by omega)]
  obtain ⟨h1, h2, h3, _⟩ := h.appYes hc hroom
  have hE := (h.power [] ok he hq hroom).1
  have hcalm := calm_run (laySt b ((sectorsL fr).map str)) d h.on hf
  have h0 : layE d b ((sectorsL fr).map str) = 0 := hE.resolve_right hcalm.1
  rw [h1, h2]
  exact ⟨h0, h3 h0, h.fine ok he hq hroom h0, hcalm.2 h0⟩
end
/-! What chapter 04 asks for first. -/
def frA : Fr := ⟨1, 7, 0, []⟩
def frB : Fr := ⟨1, 7, 1, [120]⟩
theorem frA_ok : FrOk frA := ⟨by decide, by decide, by decide, by decide⟩
theorem frB_check : frCheck frB = 0 := by simp [frCheck, frB]
theorem live4_log : LogOn (newD 2) 2 7 [] 0 := new_log 2 7 (by omega) (by omega)
theorem newD_fuse (n : Nat) (h1 : 1 ≤ n) (h2 : n ≤ 1024) : (newD n).fuse = -1 := by
  rw [((new_of n).1 (by simp [sizeOk, h1, h2])).1]
theorem live4_app : appE (newD 2) 0 2 0 frA = 0 ∧ appN (newD 2) 0 2 0 frA = 1 ∧ LogOn (appD (newD 2) 0 2 0 frA) 2 7 [frA] 1 := by
  have h := live4_log.appFine (newD_fuse 2 (by omega) (by omega)) frA_ok rfl rfl (by decide)
  exact ⟨h.1, h.2.1, h.2.2.1⟩
theorem live4_full : appE (appD (newD 2) 0 2 0 frA) 0 2 1 frB = 16 := (live4_app.2.2.appNo (.inr ⟨frB_check, by decide, rfl⟩)).2.2
end Go.Proofs.Ytpfbmmeipojodaa
end
