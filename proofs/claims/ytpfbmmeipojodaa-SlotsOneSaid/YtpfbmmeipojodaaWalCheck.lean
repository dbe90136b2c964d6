/- wal.Check, the document's too. -/
import Derived.Test.YtpfbmmeipojodaaGC
import Derived.Test.YtpfbmmeipojodaaGB
import Derived.Test.YtpfbmmeipojodaaRefCheck
namespace Go.Proofs.Ytpfbmmeipojodaa
set_option linter.unusedSimpArgs false
set_option linter.unusedVariables false
open Go.RowKit
/-- A region that lies on a disk. -/
def regOk (d : Dk) (f s : Int) : Bool := decide (0 ≤ f) && decide (f ≤ d.secs.length) && decide (1 ≤ s) && decide (s ≤ d.secs.length - f)
def walE (d : Dk) (f s : Int) : Int := if right d = false then 13 else if regOk d f s = false then 1 else 0
theorem right_len {d : Dk} (h : right d = true) : 1 ≤ d.secs.length ∧ d.secs.length ≤ 1024 := by
  simp [right, sizeOk] at h
  omega
theorem region_cases {d : Dk} {f s : Int} (h : regOk d f s = false) : f < 0 ∨ (0 ≤ f ∧ (d.secs.length : Int) < f) ∨ (0 ≤ f ∧ f ≤ d.secs.length ∧ s < 1) ∨ (0 ≤ f ∧ f ≤ d.secs.length ∧ 1 ≤ s ∧ (d.secs.length : Int) - f < s) := by
  simp [regOk] at h
  omega
theorem region_ok {d : Dk} {f s : Int} (h : regOk d f s = true) : 0 ≤ f ∧ f ≤ d.secs.length ∧ 1 ≤ s ∧ s ≤ (d.secs.length : Int) - f := by
  simp [regOk] at h
  omega
set_option maxHeartbeats 4000000 in
set_option maxRecDepth 100000 in
theorem walCheck_w (v : Value) (d : Dk) (f s : Int) (w : World) (hv : DkIs w v d) (hf : -9223372036854775808 ≤ f ∧ f ≤ 9223372036854775807) (hs : -9223372036854775808 ≤ s ∧ s ≤ 9223372036854775807) :
    Calls Try.prog 36 #[v, .agg #[.int .i64 f, .int .i64 s]] w fun e w' => e = .returned (.int .i64 (walE d f s)) ∧ Below w.heap.size w w' := by
  have b0 := bt (below_alloc w (.cells #[.int .i64 0] 3)) (Below.refl _ _)
  clear b0
  obtain ⟨A1, c1, A2, c2, rfl, h1, h2, hl1, hl2, hfu⟩ := hv
  have k1 := (Blk.new w [.slice A1 d.secs.length c1, .slice A2 d.pend.length c2, .bool d.off, .int .i64 d.fuse] 28).alloc (.cells #[.int .i64 f, .int .i64 s] 33)
  have k2 := Blk.new (w.alloc (.cells #[.slice A1 d.secs.length c1, .slice A2 d.pend.length c2, .bool d.off, .int .i64 d.fuse] 28)) [.int .i64 f, .int .i64 s] 33
  rw [show (w.alloc (.cells #[.slice A1 d.secs.length c1, .slice A2 d.pend.length c2, .bool d.off, .int .i64 d.fuse] 28)).heap.size = w.heap.size + 1 by simp] at k2
  have b1 := bt (below_alloc w (.cells #[.slice A1 d.secs.length c1, .slice A2 d.pend.length c2, .bool d.off, .int .i64 d.fuse] 28)) (below_alloc _ (.cells #[.int .i64 f, .int .i64 s] 33))
  have hck := check_w A1 A2 c1 c2 d ((w.alloc (.cells #[.slice A1 d.secs.length c1, .slice A2 d.pend.length c2, .bool d.off, .int .i64 d.fuse] 28)).alloc (.cells #[.int .i64 f, .int .i64 s] 33)) (h1.below b1) (h2.below b1) hl1 hl2
  obtain ⟨r, Hr⟩ := named (walE d f s)
  rw [← Hr.out]
  obtain ⟨lo, hi⟩ := hf
  obtain ⟨lo2, hi2⟩ := hs
  go_enter Try.func36, Try.ntmps36
  go_wp2_with fail
  obtain ⟨W, HW⟩ := named ((w.alloc (.cells #[.slice A1 d.secs.length c1, .slice A2 d.pend.length c2, .bool d.off, .int .i64 d.fuse] 28)).alloc (.cells #[.int .i64 f, .int .i64 s] 33))
  rw [← HW.out] at k1 k2 b1 hck ⊢
  clear HW
  refine hck.mono ?_
  by_cases hr : right d = false
  · rw [show checkE d = 13 by simp [checkE, hr]]
    have hE := hide (show walE d f s = 13 by simp [walE, hr])
    rintro e w2 ⟨rfl, hb2⟩
    clear hck
    go_wp2
    go_ret
    exact ⟨ret_int (by rw [Hr.out, hE.out]), bt b1 hb2⟩
  have hr' : right d = true := by simpa using hr
  have hlen := right_len hr'
  rw [show checkE d = 0 by simp [checkE, hr']]
  rintro e w2 ⟨rfl, hb2⟩
  replace k1 := k1.below hb2
  replace k2 := k2.below hb2
  replace b1 := bt b1 hb2
  have y1 := k1.cell
  have y2 := k2.cell
  by_cases hg : regOk d f s = true
  · have hE := hide (show walE d f s = 0 by simp [walE, hr', hg])
    obtain ⟨g1, g2, g3, g4⟩ := region_ok hg
    have hw : IntKind.i64.wrap ((d.secs.length : Int) - f) = (d.secs.length : Int) - f := by simp [IntKind.wrap, IntKind.bits, IntKind.signed]; omega
    have t1 : decide (f < 0) = false := decide_eq_false (by omega)
    have t2 : decide ((d.secs.length : Int) < f) = false := decide_eq_false (by omega)
    have t3 : decide (s < 1) = false := decide_eq_false (by omega)
    have t4 : decide ((d.secs.length : Int) - f < s) = false := decide_eq_false (by omega)
    clear hck hb2 hg hr hr' h1 h2
    go_wp2
    go_ret
    exact ⟨ret_int (by rw [Hr.out, hE.out]), b1⟩
  · have hg' : regOk d f s = false := by simpa using hg
    have hE := hide (show walE d f s = 1 by simp [walE, hr', hg'])
    have hcs := region_cases hg'
    clear hck hb2 hg hg' hr hr' h1 h2
    rcases hcs with g1 | ⟨g1, g2⟩ | ⟨g1, g2, g3⟩ | ⟨g1, g2, g3, g4⟩
    · have t1 : decide (f < 0) = true := decide_eq_true (by omega)
      go_wp2
      go_ret
      exact ⟨ret_int (by rw [Hr.out, hE.out]), b1⟩
    · have t1 : decide (f < 0) = false := decide_eq_false (by omega)
      have t2 : decide ((d.secs.length : Int) < f) = true := decide_eq_true (by omega)
      go_wp2
      go_ret
      exact ⟨ret_int (by rw [Hr.out, hE.out]), b1⟩
    · have hw : IntKind.i64.wrap ((d.secs.length : Int) - f) = (d.secs.length : Int) - f := by simp [IntKind.wrap, IntKind.bits, IntKind.signed]; omega
      have t1 : decide (f < 0) = false := decide_eq_false (by omega)
      have t2 : decide ((d.secs.length : Int) < f) = false := decide_eq_false (by omega)
      have t3 : decide (s < 1) = true := decide_eq_true (by omega)
      go_wp2
      go_ret
      exact ⟨ret_int (by rw [Hr.out, hE.out]), b1⟩
    · have hw : IntKind.i64.wrap ((d.secs.length : Int) - f) = (d.secs.length : Int) - f := by simp [IntKind.wrap, IntKind.bits, IntKind.signed]; omega
      have t1 : decide (f < 0) = false := decide_eq_false (by omega)
      have t2 : decide ((d.secs.length : Int) < f) = false := decide_eq_false (by omega)
      have t3 : decide (s < 1) = false := decide_eq_false (by omega)
      have t4 : decide ((d.secs.length : Int) - f < s) = true := decide_eq_true (by omega)
      go_wp2
      go_ret
      exact ⟨ret_int (by rw [Hr.out, hE.out]), b1⟩
set_option maxHeartbeats 4000000 in
set_option maxRecDepth 100000 in
theorem refWalCheck_w (v : Value) (d : Dk) (f s : Int) (w : World) (hv : DkIs w v d) (hf : -9223372036854775808 ≤ f ∧ f ≤ 9223372036854775807) (hs : -9223372036854775808 ≤ s ∧ s ≤ 9223372036854775807) :
    Calls Try.prog 37 #[v, .agg #[.int .i64 f, .int .i64 s]] w fun e w' => e = .returned (.int .i64 (walE d f s)) ∧ Below w.heap.size w w' := by
  have b0 := bt (below_alloc w (.cells #[.int .i64 0] 3)) (Below.refl _ _)
  clear b0
  obtain ⟨A1, c1, A2, c2, rfl, h1, h2, hl1, hl2, hfu⟩ := hv
  have k1 := (Blk.new w [.slice A1 d.secs.length c1, .slice A2 d.pend.length c2, .bool d.off, .int .i64 d.fuse] 28).alloc (.cells #[.int .i64 f, .int .i64 s] 33)
  have k2 := Blk.new (w.alloc (.cells #[.slice A1 d.secs.length c1, .slice A2 d.pend.length c2, .bool d.off, .int .i64 d.fuse] 28)) [.int .i64 f, .int .i64 s] 33
  rw [show (w.alloc (.cells #[.slice A1 d.secs.length c1, .slice A2 d.pend.length c2, .bool d.off, .int .i64 d.fuse] 28)).heap.size = w.heap.size + 1 by simp] at k2
  have b1 := bt (below_alloc w (.cells #[.slice A1 d.secs.length c1, .slice A2 d.pend.length c2, .bool d.off, .int .i64 d.fuse] 28)) (below_alloc _ (.cells #[.int .i64 f, .int .i64 s] 33))
  have hck := refCheck_w _ d ((w.alloc (.cells #[.slice A1 d.secs.length c1, .slice A2 d.pend.length c2, .bool d.off, .int .i64 d.fuse] 28)).alloc (.cells #[.int .i64 f, .int .i64 s] 33)) (DkIs.below ⟨A1, c1, A2, c2, rfl, h1, h2, hl1, hl2, hfu⟩ b1)
  obtain ⟨r, Hr⟩ := named (walE d f s)
  rw [← Hr.out]
  obtain ⟨lo, hi⟩ := hf
  obtain ⟨lo2, hi2⟩ := hs
  go_enter Try.func37, Try.ntmps37
  go_wp2_with fail
  obtain ⟨W, HW⟩ := named ((w.alloc (.cells #[.slice A1 d.secs.length c1, .slice A2 d.pend.length c2, .bool d.off, .int .i64 d.fuse] 28)).alloc (.cells #[.int .i64 f, .int .i64 s] 33))
  rw [← HW.out] at k1 k2 b1 hck ⊢
  clear HW
  refine hck.mono ?_
  by_cases hr : right d = false
  · rw [show checkE d = 13 by simp [checkE, hr]]
    have hE := hide (show walE d f s = 13 by simp [walE, hr])
    rintro e w2 ⟨rfl, hb2⟩
    clear hck
    go_wp2
    go_ret
    exact ⟨ret_int (by rw [Hr.out, hE.out]), bt b1 hb2⟩
  have hr' : right d = true := by simpa using hr
  have hlen := right_len hr'
  rw [show checkE d = 0 by simp [checkE, hr']]
  rintro e w2 ⟨rfl, hb2⟩
  replace k1 := k1.below hb2
  replace k2 := k2.below hb2
  replace b1 := bt b1 hb2
  have y1 := k1.cell
  have y2 := k2.cell
  by_cases hg : regOk d f s = true
  · have hE := hide (show walE d f s = 0 by simp [walE, hr', hg])
    obtain ⟨g1, g2, g3, g4⟩ := region_ok hg
    have hw : IntKind.i64.wrap ((d.secs.length : Int) - f) = (d.secs.length : Int) - f := by simp [IntKind.wrap, IntKind.bits, IntKind.signed]; omega
    have t1 : decide (f < 0) = false := decide_eq_false (by omega)
    have t2 : decide ((d.secs.length : Int) < f) = false := decide_eq_false (by omega)
    have t3 : decide (s < 1) = false := decide_eq_false (by omega)
    have t4 : decide ((d.secs.length : Int) - f < s) = false := decide_eq_false (by omega)
    clear hck hb2 hg hr hr' h1 h2
    go_wp2
    go_ret
    exact ⟨ret_int (by rw [Hr.out, hE.out]), b1⟩
  · have hg' : regOk d f s = false := by simpa using hg
    have hE := hide (show walE d f s = 1 by simp [walE, hr', hg'])
    have hcs := region_cases hg'
    clear hck hb2 hg hg' hr hr' h1 h2
    rcases hcs with g1 | ⟨g1, g2⟩ | ⟨g1, g2, g3⟩ | ⟨g1, g2, g3, g4⟩
    · have t1 : decide (f < 0) = true := decide_eq_true (by omega)
      go_wp2
      go_ret
      exact ⟨ret_int (by rw [Hr.out, hE.out]), b1⟩
    · rcases Int.lt_or_le s 1 with g3 | g3
      · have t1 : decide (f < 0) = false := decide_eq_false (by omega)
        have t3 : decide (s < 1) = true := decide_eq_true (by omega)
        go_wp2
        go_ret
        exact ⟨ret_int (by rw [Hr.out, hE.out]), b1⟩
      · have t1 : decide (f < 0) = false := decide_eq_false (by omega)
        have t3 : decide (s < 1) = false := decide_eq_false (by omega)
        have t2 : decide ((d.secs.length : Int) < f) = true := decide_eq_true (by omega)
        go_wp2
        go_ret
        exact ⟨ret_int (by rw [Hr.out, hE.out]), b1⟩
    · have hw : IntKind.i64.wrap ((d.secs.length : Int) - f) = (d.secs.length : Int) - f := by simp [IntKind.wrap, IntKind.bits, IntKind.signed]; omega
      have t1 : decide (f < 0) = false := decide_eq_false (by omega)
      have t3 : decide (s < 1) = true := decide_eq_true (by omega)
      go_wp2
      go_ret
      exact ⟨ret_int (by rw [Hr.out, hE.out]), b1⟩
    · have hw : IntKind.i64.wrap ((d.secs.length : Int) - f) = (d.secs.length : Int) - f := by simp [IntKind.wrap, IntKind.bits, IntKind.signed]; omega
      have t1 : decide (f < 0) = false := decide_eq_false (by omega)
      have t3 : decide (s < 1) = false := decide_eq_false (by omega)
      have t2 : decide ((d.secs.length : Int) < f) = false := decide_eq_false (by omega)
      have t4 : decide ((d.secs.length : Int) - f < s) = true := decide_eq_true (by omega)
      go_wp2
      go_ret
      exact ⟨ret_int (by rw [Hr.out, hE.out]), b1⟩
end Go.Proofs.Ytpfbmmeipojodaa
