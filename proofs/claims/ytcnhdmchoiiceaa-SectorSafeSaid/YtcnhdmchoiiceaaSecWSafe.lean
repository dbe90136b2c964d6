/- The walk of SectorSafe. -/
import Derived.Test.YtcnhdmchoiiceaaLives
import Derived.Test.YtcnhdmchoiiceaaRefSame
import Derived.Test.YtcnhdmchoiiceaaSecLaws
import Derived.Test.YtcnhdmchoiiceaaOwnIs
import Derived.Test.YtcnhdmchoiiceaaRefNew
namespace Go.Proofs.Ytcnhdmchoiiceaa
open Go.RowKit
theorem Box.setOff {w : World} {N : Nat} {A1 A2 : Option Addr} {c1 c2 : Nat} {d : Dk} (h : Box w N A1 c1 A2 c2 d) (b : Bool) : Box (w.setCell ⟨N, 2, none⟩ (.bool b)) N A1 c1 A2 c2 { d with off := b } :=
  ⟨h.blk.set 2 _, lies_off h.tx (p := ⟨N, 2, none⟩) (strs_off h.tx h.blk) _, lies_off h.wr (p := ⟨N, 2, none⟩) (wrs_off h.wr h.blk) _, h.l1, h.l2, h.f1, h.f2⟩
theorem Box.farCell {w : World} {N X o : Nat} {A1 A2 : Option Addr} {c1 c2 : Nat} {d : Dk} {a' b' : Option Addr} {p q r s : Nat} {u : Bool} {f : Int} (h : Box w N A1 c1 A2 c2 d) (hX : Blk w X [.slice a' p q, .slice b' r s, .bool u, .int .i64 f] 25) (hne : N ≠ X) (x : Value) : Box (w.setCell ⟨X, o, none⟩ x) N A1 c1 A2 c2 d :=
  ⟨h.blk.far (p := ⟨X, o, none⟩) hne _, lies_off h.tx (p := ⟨X, o, none⟩) (strs_off h.tx hX) _, lies_off h.wr (p := ⟨X, o, none⟩) (wrs_off h.wr hX) _, h.l1, h.l2, h.f1, h.f2⟩
/-- No text lies in a block of truth values. -/
theorem strs_bool {w : World} {A : Option Addr} {l : List ByteArray} {g : Nat} {t : TypeId} {bs : List Bool} (h : Texts w A l) (hg : Blk w g (bs.map Value.bool) t) : strs l ≠ [] → ∀ x, A = some x → x.block ≠ g := by
  intro hn x hx e
  subst hx
  obtain ⟨k, o, e', hc⟩ := h.2 hn
  cases e'
  simp only at e
  subst e
  cases l with
  | nil => exact hn rfl
  | cons y l =>
    have h0 := hc 0 (.string y) rfl
    rw [hg.cell, List.getElem?_map, Option.map_eq_some_iff] at h0
    obtain ⟨_, _, h0⟩ := h0
    cases h0
theorem wrs_bool {w : World} {A : Option Addr} {l : List Wr} {g : Nat} {t : TypeId} {bs : List Bool} (h : Writes w A l) (hg : Blk w g (bs.map Value.bool) t) : wrs l ≠ [] → ∀ x, A = some x → x.block ≠ g := by
  intro hn x hx e
  subst hx
  obtain ⟨k, o, e', hc⟩ := h.2 hn
  cases e'
  simp only at e
  subst e
  cases l with
  | nil => exact hn rfl
  | cons y l =>
    have h0 := hc 1 (.string y.data) rfl
    rw [hg.cell, List.getElem?_map, Option.map_eq_some_iff] at h0
    obtain ⟨_, _, h0⟩ := h0
    cases h0
theorem Try.info4 : (Try.prog.info? 4).map (fun i => (i.zero, i.size, i.bytes)) = some (some (.bool false), 1, 1) := by kernel_rfl
def allOf (n k : Nat) : List Bool := List.replicate k true ++ List.replicate (n - k) false
theorem allOf_set (n k : Nat) (h : k < n) : (bools (allOf n k)).set k (.bool true) = bools (allOf n (k + 1)) := by
  unfold bools allOf
  rw [← List.map_set, List.set_append_right _ _ (by simp)]
  simp only [List.length_replicate, Nat.sub_self]
  rw [show n - k = (n - (k + 1)) + 1 by omega, List.replicate_succ, List.set_cons_zero, List.replicate_succ', List.append_assoc]
  rfl
theorem text_beq (a b : ByteArray) : (a.toList == b.toList) = true ↔ a = b := by
  rw [beq_iff_eq, ByteArray.toList_eq, ByteArray.toList_eq, Array.toList_inj]
  exact ⟨fun h => ByteArray.ext h, fun h => by rw [h]⟩
theorem text_bne {a b : ByteArray} (h : a ≠ b) : (a.toList == b.toList) = false := by
  rw [Bool.eq_false_iff]
  exact fun h' => h ((text_beq a b).1 h')
theorem take_any (l : List Wr) (k : Nat) (h : k < l.length) (m : Nat) (s : ByteArray) {p : Prop} : (p ∨ ∃ x ∈ l.take (k + 1), x.sec = m ∧ x.data = s) ↔ ((p ∨ ∃ x ∈ l.take k, x.sec = m ∧ x.data = s) ∨ l[k].sec = m ∧ l[k].data = s) := by
  rw [List.take_succ_eq_append_getElem h]
  simp only [List.mem_append, List.mem_singleton, or_and_right, exists_or, exists_eq_left, or_assoc]
theorem allOf_length (n k : Nat) (h : k ≤ n) : (bools (allOf n k)).length = n := by simp [allOf, bools]; omega
set_option maxRecDepth 100000 in
set_option maxHeartbeats 8000000 in
theorem safe_no (A1 A2 : Option Addr) (c1 c2 : Nat) (d : Dk) (Ak : Option Addr) (ck : Nat) (keep : List Bool) (n : Int) (w : World) (h1 : Texts w A1 d.secs) (h2 : Writes w A2 d.pend) (hl1 : d.secs.length * 16 ≤ 140737488351232) (hl2 : d.pend.length * 24 ≤ 140737488351232) (hf1 : -9223372036854775808 ≤ d.fuse) (hf2 : d.fuse ≤ 9223372036854775807) (hk : Bools w Ak keep) (hn : -9223372036854775808 ≤ n ∧ n ≤ 9223372036854775807) (hr : right d = false) :
    Calls Try.prog 6 #[.agg #[.slice A1 d.secs.length c1, .slice A2 d.pend.length c2, .bool d.off, .int .i64 d.fuse], .slice Ak keep.length ck, .int .i64 n] w fun e w' => e = .returned (.bool true) ∧ Below w.heap.size w w' := by
  obtain ⟨lo, hi⟩ := hn
  obtain ⟨D1, H1⟩ := named (crashD d keep)
  have L1 := hide (show checkE d = 13 by simp [checkE, hr])
  have K1 : Hid (D1 = dk0) := by show _ = _; rw [H1.out]; simp [crashD, hr]
  clear hr
  have Bd : Box (w.alloc (.cells #[.slice A1 d.secs.length c1, .slice A2 d.pend.length c2, .bool d.off, .int .i64 d.fuse] 25)) w.heap.size A1 c1 A2 c2 d := Box.new w ⟨A1, c1, A2, c2, rfl, h1, h2, by omega, by omega, hf1, hf2⟩
  have hw0 : Below w.heap.size w (w.alloc (.cells #[.slice A1 d.secs.length c1, .slice A2 d.pend.length c2, .bool d.off, .int .i64 d.fuse] 25)) := below_alloc _ _
  go_enter Try.func6, Try.ntmps6
  have Bdc0 := Bd.blk.cell 0
  have Bdc1 := Bd.blk.cell 1
  have Bdc2 := Bd.blk.cell 2
  have Bdc3 := Bd.blk.cell 3
  go_wp2_with fail
  refine (lives_w _).mono ?_
  rintro e w1 ⟨rfl, hb1⟩
  replace Bd := Bd.below hb1
  have hw1 := bt hw0 hb1
  clear Bdc0 Bdc1 Bdc2 Bdc3
  have Bdc0 := Bd.blk.cell 0
  have Bdc1 := Bd.blk.cell 1
  have Bdc2 := Bd.blk.cell 2
  have Bdc3 := Bd.blk.cell 3
  go_wp2_with fail
  refine (crash_w _ Ak ck d keep _ Bd.is (Lies.below hk hw1)).mono ?_
  rw [← H1.out, L1.out]
  rintro e w2 ⟨v2, rfl, ⟨P2, p2, Q2, q2, rfl, t2, u2, l2, m2, f2, g2⟩, hb2⟩
  replace Bd := Bd.below hb2
  replace Bd := Bd.alloc (.cells #[.slice P2 D1.secs.length p2, .slice Q2 D1.pend.length q2, .bool D1.off, .int .i64 D1.fuse] 25)
  have Ba : Box (w2.alloc (.cells #[.slice P2 D1.secs.length p2, .slice Q2 D1.pend.length q2, .bool D1.off, .int .i64 D1.fuse] 25)) w2.heap.size P2 p2 Q2 q2 D1 := Box.new w2 ⟨P2, p2, Q2, q2, rfl, t2, u2, l2, m2, f2, g2⟩
  have hw2 := bt (bt hw1 hb2) (below_alloc w2 (.cells #[.slice P2 D1.secs.length p2, .slice Q2 D1.pend.length q2, .bool D1.off, .int .i64 D1.fuse] 25))
  clear t2 u2
  clear Bdc0 Bdc1 Bdc2 Bdc3
  have Bac0 := Ba.blk.cell 0
  have Bac1 := Ba.blk.cell 1
  have Bac2 := Ba.blk.cell 2
  have Bac3 := Ba.blk.cell 3
  go_wp2_with fail
  refine (refSame_w _ _ D1 _ Ba.is (by rw [K1.out]; exact DkIs.zero _)).mono ?_
  rintro e w3 ⟨rfl, hb3⟩
  replace Bd := Bd.below hb3
  replace Ba := Ba.below hb3
  have hw3 := bt hw2 hb3
  clear Bac0 Bac1 Bac2 Bac3
  have Bdc0 := Bd.blk.cell 0
  have Bdc1 := Bd.blk.cell 1
  have Bdc2 := Bd.blk.cell 2
  have Bdc3 := Bd.blk.cell 3
  go_wp2_with fail
  refine (check_w A1 A2 c1 c2 d _ Bd.tx Bd.wr Bd.l1 Bd.l2).mono ?_
  rw [L1.out]
  rintro e w4 ⟨rfl, hb4⟩
  replace Bd := Bd.below hb4
  replace Ba := Ba.below hb4
  have hw4 := bt hw3 hb4
  clear Bdc0 Bdc1 Bdc2 Bdc3
  go_wp2
  go_ret
  exact ⟨by simp, hw4⟩
set_option maxRecDepth 100000 in
set_option maxHeartbeats 8000000 in
theorem safe_yes (A1 A2 : Option Addr) (c1 c2 : Nat) (d : Dk) (Ak : Option Addr) (ck : Nat) (keep : List Bool) (n : Int) (w : World) (h1 : Texts w A1 d.secs) (h2 : Writes w A2 d.pend) (hl1 : d.secs.length * 16 ≤ 140737488351232) (hl2 : d.pend.length * 24 ≤ 140737488351232) (hf1 : -9223372036854775808 ≤ d.fuse) (hf2 : d.fuse ≤ 9223372036854775807) (hk : Bools w Ak keep) (hn : -9223372036854775808 ≤ n ∧ n ≤ 9223372036854775807) (hr : right d = true) :
    Calls Try.prog 6 #[.agg #[.slice A1 d.secs.length c1, .slice A2 d.pend.length c2, .bool d.off, .int .i64 d.fuse], .slice Ak keep.length ck, .int .i64 n] w fun e w' => e = .returned (.bool true) ∧ Below w.heap.size w w' := by
  obtain ⟨lo, hi⟩ := hn
  obtain ⟨D1, H1⟩ := named (crashD d keep)
  obtain ⟨D2, H2⟩ := named (crashD d (List.replicate d.pend.length true))
  have L1 := hide (show checkE d = 0 by simp [checkE, hr])
  have hlen := right_iff.1 hr
  have hP : d.pend.length ≤ 4096 := hlen.2.1
  have hS : d.secs.length ≤ 1024 := hlen.1.2
  have Hr := hide hr
  clear hr hlen
  have hmk := run_make_row' (P := Try.prog) 38 4 (.bool false) 1 Try.underlying38 Try.info4 rfl .i64 .i64 d.pend.length (by omega) (by omega)
  rw [show madeCells #[Value.bool false] d.pend.length = (bools (allOf d.pend.length 0)).toArray by rw [made_rep]; simp [bools, allOf]] at hmk
  obtain ⟨cs, hcs⟩ := named (bools (allOf d.pend.length 0)).toArray
  rw [← hcs.out] at hmk
  have hmk' : ∀ w, (Instr.makeSlice 38 (.int .i64 (d.pend.length : Int)) (.int .i64 (d.pend.length : Int))).run Try.prog w = .ok (.slice (some ⟨w.heap.size, 0, none⟩) d.pend.length d.pend.length) (w.alloc (.cells cs 4)) := hmk
  clear hmk
  have Bd : Box (w.alloc (.cells #[.slice A1 d.secs.length c1, .slice A2 d.pend.length c2, .bool d.off, .int .i64 d.fuse] 25)) w.heap.size A1 c1 A2 c2 d := Box.new w ⟨A1, c1, A2, c2, rfl, h1, h2, by omega, by omega, hf1, hf2⟩
  have hw0 : Below w.heap.size w (w.alloc (.cells #[.slice A1 d.secs.length c1, .slice A2 d.pend.length c2, .bool d.off, .int .i64 d.fuse] 25)) := below_alloc _ _
  go_enter Try.func6, Try.ntmps6
  have Bdc0 := Bd.blk.cell 0
  have Bdc1 := Bd.blk.cell 1
  have Bdc2 := Bd.blk.cell 2
  have Bdc3 := Bd.blk.cell 3
  go_wp2_with fail
  refine (lives_w _).mono ?_
  rintro e w1 ⟨rfl, hb1⟩
  replace Bd := Bd.below hb1
  have hw1 := bt hw0 hb1
  clear Bdc0 Bdc1 Bdc2 Bdc3
  have Bdc0 := Bd.blk.cell 0
  have Bdc1 := Bd.blk.cell 1
  have Bdc2 := Bd.blk.cell 2
  have Bdc3 := Bd.blk.cell 3
  go_wp2_with fail
  refine (crash_w _ Ak ck d keep _ Bd.is (Lies.below hk hw1)).mono ?_
  rw [← H1.out, L1.out]
  rintro e w2 ⟨v2, rfl, ⟨P2, p2, Q2, q2, rfl, t2, u2, l2, m2, f2, g2⟩, hb2⟩
  replace Bd := Bd.below hb2
  replace Bd := Bd.alloc (.cells #[.slice P2 D1.secs.length p2, .slice Q2 D1.pend.length q2, .bool D1.off, .int .i64 D1.fuse] 25)
  have Ba : Box (w2.alloc (.cells #[.slice P2 D1.secs.length p2, .slice Q2 D1.pend.length q2, .bool D1.off, .int .i64 D1.fuse] 25)) w2.heap.size P2 p2 Q2 q2 D1 := Box.new w2 ⟨P2, p2, Q2, q2, rfl, t2, u2, l2, m2, f2, g2⟩
  have hw2 := bt (bt hw1 hb2) (below_alloc w2 (.cells #[.slice P2 D1.secs.length p2, .slice Q2 D1.pend.length q2, .bool D1.off, .int .i64 D1.fuse] 25))
  clear t2 u2
  clear Bdc0 Bdc1 Bdc2 Bdc3
  have Bdc0 := Bd.blk.cell 0
  have Bdc1 := Bd.blk.cell 1
  have Bdc2 := Bd.blk.cell 2
  have Bdc3 := Bd.blk.cell 3
  obtain ⟨W2, HW2⟩ := named ((w2.alloc (.cells #[.slice P2 D1.secs.length p2, .slice Q2 D1.pend.length q2, .bool D1.off, .int .i64 D1.fuse] 25)).alloc (.cells cs 4))
  have hG : Blk W2 (w2.alloc (.cells #[.slice P2 D1.secs.length p2, .slice Q2 D1.pend.length q2, .bool D1.off, .int .i64 D1.fuse] 25)).heap.size (bools (allOf d.pend.length 0)) 4 := by rw [HW2.out, hcs.out]; exact Blk.new _ _ _
  have hbW : Below w.heap.size w W2 := by rw [HW2.out]; exact bt hw2 (below_alloc _ _)
  have hGw : w.heap.size ≤ (w2.alloc (.cells #[.slice P2 D1.secs.length p2, .slice Q2 D1.pend.length q2, .bool D1.off, .int .i64 D1.fuse] 25)).heap.size := hw2.size
  have BdW : Box W2 w.heap.size A1 c1 A2 c2 d := by rw [HW2.out]; exact Bd.alloc _
  have BaW : Box W2 w2.heap.size P2 p2 Q2 q2 D1 := by rw [HW2.out]; exact Ba.alloc _
  go_wp2
  rw [← HW2.out]
  rw [show (w2.alloc (.cells #[.slice P2 D1.secs.length p2, .slice Q2 D1.pend.length q2, .bool D1.off, .int .i64 D1.fuse] 25)).heap.size = w2.heap.size + 1 by simp] at hG hGw
  obtain ⟨N, HN⟩ := named w2.heap.size
  have hNw : w.heap.size < N := by rw [HN.out]; have q1 := hb1.size; have q2 := hb2.size; simp at q1; omega
  simp only [← HN.out] at hG hGw BaW ⊢
  clear HW2 HN hmk' Bd Ba hw0 hw1 hw2 hb1 hb2 hcs Bdc0 Bdc1 Bdc2 Bdc3
  go_loopw [46] (fun i wr => ∃ k : Nat, k ≤ d.pend.length ∧ i = .int .i64 k ∧ Blk wr (N + 1) (bools (allOf d.pend.length k)) 4 ∧ Below w.heap.size w wr ∧ Box wr w.heap.size A1 c1 A2 c2 d ∧ Box wr N P2 p2 Q2 q2 D1) (fun i _ => d.pend.length - (intOf i).toNat)
  case atStart => exact ⟨0, by omega, rfl, hG, hbW, BdW, BaW⟩
  case round =>
    obtain ⟨k, hk1, rfl, hb, hbw, Bd, Ba⟩ := hrel
    clear hG hbW BdW BaW
    by_cases hlt : k < d.pend.length
    · have Hl : Hid ((bools (allOf d.pend.length k)).length = d.pend.length) := allOf_length _ _ hk1
      have hi0 : (0 : Int) ≤ (k : Int) := by omega
      have hi1 : (k : Int) < d.pend.length := by omega
      have hc : wr.cell? ⟨N + 1, k, none⟩ = some ((bools (allOf d.pend.length k))[k]'(by rw [Hl.out]; exact hlt)) := by rw [hb.cell]; exact List.getElem?_eq_getElem _
      have hf := hb.free k
      have hb' := hb.set k (.bool true)
      rw [allOf_set _ k hlt] at hb'
      have Bd' : Box (wr.setCell ⟨N + 1, k, none⟩ (.bool true)) w.heap.size A1 c1 A2 c2 d := ⟨Bd.blk.far (p := ⟨N + 1, k, none⟩) (by simp only; omega) _, lies_off Bd.tx (p := ⟨N + 1, k, none⟩) (strs_bool Bd.tx hb) _, lies_off Bd.wr (p := ⟨N + 1, k, none⟩) (wrs_bool Bd.wr hb) _, Bd.l1, Bd.l2, Bd.f1, Bd.f2⟩
      have Ba' : Box (wr.setCell ⟨N + 1, k, none⟩ (.bool true)) N P2 p2 Q2 q2 D1 := ⟨Ba.blk.far (p := ⟨N + 1, k, none⟩) (by simp only; omega) _, lies_off Ba.tx (p := ⟨N + 1, k, none⟩) (strs_bool Ba.tx hb) _, lies_off Ba.wr (p := ⟨N + 1, k, none⟩) (wrs_bool Ba.wr hb) _, Ba.l1, Ba.l2, Ba.f1, Ba.f2⟩
      go_wp2
      go_roundw
      case rel => exact ⟨k + 1, by omega, by go_num, hb', hbw.setCell (p := ⟨N + 1, k, none⟩) hGw _, Bd', Ba'⟩
      case measure => simp [intOf]; omega
    · have hke : k = d.pend.length := by omega
      subst hke
      have hkeep : Bools wr (some ⟨N + 1, 0, none⟩) (List.replicate d.pend.length true) := by
        have e : allOf d.pend.length d.pend.length = List.replicate d.pend.length true := by simp [allOf]
        rw [e] at hb
        exact ⟨by simp [bools], fun _ => ⟨N + 1, 0, rfl, fun j u hu => by rw [Nat.zero_add, hb.cell]; exact hu⟩⟩
      have hcr := fun v hv => crash_w v (some ⟨N + 1, 0, none⟩) d.pend.length d (List.replicate d.pend.length true) wr hv hkeep
      simp only [List.length_replicate] at hcr
      rw [← H2.out, L1.out] at hcr
      have Bdc0 := Bd.blk.cell 0
      have Bdc1 := Bd.blk.cell 1
      have Bdc2 := Bd.blk.cell 2
      have Bdc3 := Bd.blk.cell 3
      go_wp2_with fail
      refine (hcr _ Bd.is).mono ?_
      rintro e w3 ⟨v3, rfl, ⟨P3, p3, Q3, q3, rfl, t3, u3, l3, m3, f3, g3⟩, hb3⟩
      replace Bd := Bd.below hb3
      replace Ba := Ba.below hb3
      replace Bd := Bd.alloc (.cells #[.slice P3 D2.secs.length p3, .slice Q3 D2.pend.length q3, .bool D2.off, .int .i64 D2.fuse] 25)
      replace Ba := Ba.alloc (.cells #[.slice P3 D2.secs.length p3, .slice Q3 D2.pend.length q3, .bool D2.off, .int .i64 D2.fuse] 25)
      have Bb : Box (w3.alloc (.cells #[.slice P3 D2.secs.length p3, .slice Q3 D2.pend.length q3, .bool D2.off, .int .i64 D2.fuse] 25)) w3.heap.size P3 p3 Q3 q3 D2 := Box.new w3 ⟨P3, p3, Q3, q3, rfl, t3, u3, l3, m3, f3, g3⟩
      have hw3 := bt (bt hbw hb3) (below_alloc w3 (.cells #[.slice P3 D2.secs.length p3, .slice Q3 D2.pend.length q3, .bool D2.off, .int .i64 D2.fuse] 25))
      clear t3 u3
      obtain ⟨s1, S1⟩ := named (readS D1 n)
      obtain ⟨r1, R1⟩ := named (readE D1 n)
      obtain ⟨s2, S2⟩ := named (readS D2 n)
      obtain ⟨r2, R2⟩ := named (readE D2 n)
      clear Bdc0 Bdc1 Bdc2 Bdc3
      have Bac0 := Ba.blk.cell 0
      have Bac1 := Ba.blk.cell 1
      have Bac2 := Ba.blk.cell 2
      have Bac3 := Ba.blk.cell 3
      go_wp2_with fail
      refine (read_w _ D1 n _ Ba.is).mono ?_
      rw [← S1.out, ← R1.out]
      rintro e w4 ⟨rfl, hb4⟩
      replace Bd := Bd.below hb4
      replace Ba := Ba.below hb4
      replace Bb := Bb.below hb4
      have hw4 := bt hw3 hb4
      clear Bac0 Bac1 Bac2 Bac3
      have Bbc0 := Bb.blk.cell 0
      have Bbc1 := Bb.blk.cell 1
      have Bbc2 := Bb.blk.cell 2
      have Bbc3 := Bb.blk.cell 3
      go_wp2_with fail
      refine (read_w _ D2 n _ Bb.is).mono ?_
      rw [← S2.out, ← R2.out]
      rintro e w5 ⟨rfl, hb5⟩
      replace Bd := Bd.below hb5
      replace Ba := Ba.below hb5
      replace Bb := Bb.below hb5
      have hw5 := bt hw4 hb5
      by_cases hlow : n < 0
      · have e1 : Hid (r1 = 1) := by show _ = _; rw [R1.out, H1.out]; exact read_crash_no Hr.out (there_lt hlow)
        have e2 : Hid (r2 = 1) := by show _ = _; rw [R2.out, H2.out]; exact read_crash_no Hr.out (there_lt hlow)
        rw [e1.out, e2.out]
        have Bdc0 := Bd.blk.cell 0
        have Bdc1 := Bd.blk.cell 1
        have Bdc2 := Bd.blk.cell 2
        have Bdc3 := Bd.blk.cell 3
        go_wp2
        go_ret
        exact ⟨by simp, hw5⟩
      · by_cases hup : n < d.secs.length
        · obtain ⟨m, rfl⟩ : ∃ m : Nat, n = (m : Int) := ⟨n.toNat, by omega⟩
          have hm : m < d.secs.length := by omega
          have e1 : Hid (r1 = 0) := by show _ = _; rw [R1.out, H1.out]; exact (read_crash Hr.out hm).1
          have e2 : Hid (r2 = 0) := by show _ = _; rw [R2.out, H2.out]; exact (read_crash Hr.out hm).1
          rw [e1.out, e2.out]
          have hfact : Hid (s1 = d.secs[m] ∨ ∃ x ∈ d.pend, x.sec = m ∧ x.data = s1) := by
            have := read_safe (keep := keep) Hr.out hm
            rw [← H1.out, ← S1.out] at this
            exact this
          have hlast : Hid (s2 = readS { d with off := false } m) := by show _ = _; rw [S2.out, H2.out]; exact read_kept Hr.out hm
          have hE3 : Hid (readE { d with off := false } m = 0) := (read_on Hr.out hm).1
          obtain ⟨b, o, rfl, hcm⟩ := Bd.tx.at_ hm
          have hi0 : (0 : Int) ≤ (m : Int) := by omega
          obtain ⟨t, ht', Ht⟩ : ∃ t : Bool, (s1.toList == d.secs[m].toList) = t ∧ Hid (t = true ↔ s1 = d.secs[m]) := ⟨_, rfl, hide (text_beq s1 d.secs[m])⟩
          have Bdc0 := Bd.blk.cell 0
          have Bdc1 := Bd.blk.cell 1
          have Bdc2 := Bd.blk.cell 2
          have Bdc3 := Bd.blk.cell 3
          go_wp2
          clear Bdc0 Bdc1 Bdc2 Bdc3
          go_loopw [17, 100] (fun u i wr => ∃ (k : Nat) (z : Bool), k ≤ d.pend.length ∧ i = .int .i64 k ∧ u = .bool z ∧ Hid (z = true ↔ s1 = d.secs[m] ∨ ∃ x ∈ d.pend.take k, x.sec = m ∧ x.data = s1) ∧ Below w.heap.size w wr ∧ Box wr w.heap.size (some ⟨b, o, none⟩) c1 A2 c2 d ∧ Box wr N P2 p2 Q2 q2 D1) (fun _ i _ => d.pend.length - (intOf i).toNat)
          case atStart => exact ⟨0, t, by omega, rfl, rfl, by show _ ↔ _; rw [Ht.out]; simp, hw5, Bd, Ba⟩
          case round =>
            obtain ⟨k, z, hk1, rfl, rfl, Hz, hbw', Bd', Ba'⟩ := hrel
            clear Bd Ba Bb ht'
            by_cases hlt : k < d.pend.length
            · obtain ⟨b5, o5, hA2, hc1, hc2⟩ := Bd'.wr.at_ hlt
              have Hiff := hide (take_any d.pend k hlt m s1 (p := s1 = d.secs[m]))
              subst hA2
              have Bd'' := Bd'.alloc (.cells #[.int .i64 d.pend[k].sec, .string d.pend[k].data] 43)
              have Ba'' := Ba'.alloc (.cells #[.int .i64 d.pend[k].sec, .string d.pend[k].data] 43)
              have hb'' := hbw'.alloc hbw'.size (.cells #[.int .i64 d.pend[k].sec, .string d.pend[k].data] 43)
              cases z
              · by_cases hsec : d.pend[k].sec = m
                · by_cases hdat : d.pend[k].data = s1
                  · have Hn : Hid (true = true ↔ s1 = d.secs[m] ∨ ∃ x ∈ d.pend.take (k + 1), x.sec = m ∧ x.data = s1) := by show _ ↔ _; rw [Hiff.out]; simp [hsec, hdat]
                    have hbq := (text_beq d.pend[k].data s1).2 hdat
                    have hsq : (d.pend[k].sec == (m : Int)) = true := by simp [hsec]
                    have hsd : decide (d.pend[k].sec = (m : Int)) = true := by simp [hsec]
                    clear Hz hdat hsec
                    go_wp2
                    go_roundw
                    case rel => exact ⟨k + 1, true, by omega, by go_num, rfl, Hn, hb'', Bd'', Ba''⟩
                    case measure => simp [intOf]; omega
                  · have Hn : Hid (false = true ↔ s1 = d.secs[m] ∨ ∃ x ∈ d.pend.take (k + 1), x.sec = m ∧ x.data = s1) := by show _ ↔ _; rw [Hiff.out]; have := Hz.out; simp only [hdat, and_false, or_false]; exact this
                    have hbq := text_bne hdat
                    have hsq : (d.pend[k].sec == (m : Int)) = true := by simp [hsec]
                    have hsd : decide (d.pend[k].sec = (m : Int)) = true := by simp [hsec]
                    clear Hz hdat hsec
                    go_wp2
                    go_roundw
                    case rel => exact ⟨k + 1, false, by omega, by go_num, rfl, Hn, hb'', Bd'', Ba''⟩
                    case measure => simp [intOf]; omega
                · have Hn : Hid (false = true ↔ s1 = d.secs[m] ∨ ∃ x ∈ d.pend.take (k + 1), x.sec = m ∧ x.data = s1) := by show _ ↔ _; rw [Hiff.out]; have := Hz.out; simp only [hsec, false_and, or_false]; exact this
                  have hsq : (d.pend[k].sec == (m : Int)) = false := by simp [hsec]
                  have hsd : decide (d.pend[k].sec = (m : Int)) = false := by simp [hsec]
                  clear Hz hsec
                  go_wp2
                  go_roundw
                  case rel => exact ⟨k + 1, false, by omega, by go_num, rfl, Hn, hb'', Bd'', Ba''⟩
                  case measure => simp [intOf]; omega
              · have Hn : Hid (true = true ↔ s1 = d.secs[m] ∨ ∃ x ∈ d.pend.take (k + 1), x.sec = m ∧ x.data = s1) := by
                  show _ ↔ _; rw [Hiff.out]; have := Hz.out.1 rfl; simp only [true_iff]; exact .inl this
                clear Hz
                go_wp2
                go_roundw
                case rel => exact ⟨k + 1, true, by omega, by go_num, rfl, Hn, hb'', Bd'', Ba''⟩
                case measure => simp [intOf]; omega
            · have hke : k = d.pend.length := by omega
              subst hke
              have hz1 : z = true := by
                refine Hz.out.2 ?_
                rw [List.take_length]
                exact hfact.out
              subst hz1
              have Bo := Bd'.setOff false
              have Ba3 := Ba'.farCell (o := 2) Bd'.blk (by omega) (.bool false)
              have hb3 := hbw'.setCell (p := ⟨w.heap.size, 2, none⟩) (Nat.le_refl _) (.bool false)
              have y0 := Bd'.blk.cell 0
              have y1 := Bd'.blk.cell 1
              have y2 := Bd'.blk.cell 2
              have y3 := Bd'.blk.cell 3
              have z2 := Bd'.blk.free 2
              go_wp2_with fail
              refine (read_w _ { d with off := false } m _ Bo.is).mono ?_
              rw [hE3.out, ← hlast.out]
              rintro e w6 ⟨rfl, hb6⟩
              have Ba4 := Ba3.below hb6
              have hw6 := bt hb3 hb6
              have hD1 : D1 = ⟨stl (mayOf keep) 0 d.pend d.secs, [], false, -1⟩ := by rw [H1.out, crashD, if_pos Hr.out]
              have e5 : (D1.pend.length : Int) = 0 := by rw [hD1]; rfl
              have e6 : D1.off = false := by rw [hD1]
              have e7 : D1.fuse = -1 := by rw [hD1]
              clear y0 y1 y2 y3 z2 hD1 hlast S2 hE3
              have y1 := Ba4.blk.cell 1
              have y2 := Ba4.blk.cell 2
              have y3 := Ba4.blk.cell 3
              go_wp2
              go_ret
              exact ⟨by simp, hw6⟩
        · have hup' : (d.secs.length : Int) ≤ n := by omega
          have hlow' : 0 ≤ n := by omega
          have e1 : Hid (r1 = 1) := by show _ = _; rw [R1.out, H1.out]; exact read_crash_no Hr.out (by rw [there_ge hlow']; simp [hup])
          have e2 : Hid (r2 = 1) := by show _ = _; rw [R2.out, H2.out]; exact read_crash_no Hr.out (by rw [there_ge hlow']; simp [hup])
          rw [e1.out, e2.out]
          have Bdc0 := Bd.blk.cell 0
          have Bdc1 := Bd.blk.cell 1
          have Bdc2 := Bd.blk.cell 2
          have Bdc3 := Bd.blk.cell 3
          go_wp2
          go_ret
          exact ⟨by simp, hw5⟩
theorem sectorsafe_w (A1 A2 : Option Addr) (c1 c2 : Nat) (d : Dk) (Ak : Option Addr) (ck : Nat) (keep : List Bool) (n : Int) (w : World) (h1 : Texts w A1 d.secs) (h2 : Writes w A2 d.pend) (hl1 : d.secs.length * 16 ≤ 140737488351232) (hl2 : d.pend.length * 24 ≤ 140737488351232) (hf1 : -9223372036854775808 ≤ d.fuse) (hf2 : d.fuse ≤ 9223372036854775807) (hk : Bools w Ak keep) (hn : -9223372036854775808 ≤ n ∧ n ≤ 9223372036854775807) :
    Calls Try.prog 6 #[.agg #[.slice A1 d.secs.length c1, .slice A2 d.pend.length c2, .bool d.off, .int .i64 d.fuse], .slice Ak keep.length ck, .int .i64 n] w fun e w' => e = .returned (.bool true) ∧ Below w.heap.size w w' := by
  cases hr : right d
  · exact safe_no A1 A2 c1 c2 d Ak ck keep n w h1 h2 hl1 hl2 hf1 hf2 hk hn hr
  · exact safe_yes A1 A2 c1 c2 d Ak ck keep n w h1 h2 hl1 hl2 hf1 hf2 hk hn hr
end Go.Proofs.Ytcnhdmchoiiceaa
