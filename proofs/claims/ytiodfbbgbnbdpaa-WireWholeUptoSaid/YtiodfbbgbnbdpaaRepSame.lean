/- When two replies are one: the document's answer. -/
import Derived.Test.YtiodfbbgbnbdpaaRepPlain
import Derived.Test.YtiodfbbgbnbdpaaWTexts
import Derived.Deep.QuietTactic
import Derived.BigQuiet
namespace Go.Proofs.Ytiodfbbgbnbdpaa
set_option linter.unusedSimpArgs false
set_option linter.unusedVariables false
open Go.RowKit
open Crc
theorem take_next {l m : List ByteArray} {k : Nat} (h : l.take k = m.take k) (hl : k < l.length) (hm : k < m.length) (he : l[k] = m[k]) : l.take (k + 1) = m.take (k + 1) := by
  rw [List.take_succ_eq_append_getElem hl, List.take_succ_eq_append_getElem hm, h, he]
set_option maxRecDepth 100000 in
set_option maxHeartbeats 1000000 in
theorem sameTexts_w (l m : List ByteArray) (A1 A2 : Option Addr) (c1 c2 : Nat) (w : World) (h1 : Texts w A1 l) (h2 : Texts w A2 m) (hl : l.length ≤ 140737488351232) (hm : m.length ≤ 140737488351232) :
    Calls Try.prog 43 #[.slice A1 l.length c1, .slice A2 m.length c2] w fun e w' => e = .returned (.bool (decide (l = m))) ∧ Below w.heap.size w w' := by
  by_cases hlm : l.length = m.length
  case neg =>
    have d1 : ((l.length : Int) != (m.length : Int)) = true := by simp; omega
    have hno : decide (l = m) = false := by
      rw [decide_eq_false_iff_not]
      rintro rfl
      exact hlm rfl
    rw [hno]
    obtain ⟨a, ha⟩ := named l.length
    obtain ⟨b, hb⟩ := named m.length
    rw [← ha.out, ← hb.out] at d1 ⊢
    clear hlm h1 h2 hl hm hno ha hb
    go_enter Try.func43, Try.ntmps43
    go_wp2
    go_ret
    exact ⟨rfl, Below.refl _ _⟩
  case pos =>
    have d1 : ((l.length : Int) != (m.length : Int)) = false := by simp; omega
    obtain ⟨N, hN⟩ := named l.length
    have HN1 := hide hN.out
    have HN2 : Hid (N = m.length) := hide (by rw [hN.out, hlm])
    have d1' : ((N : Int) != (N : Int)) = false := by simp
    have hlN : N ≤ 140737488351232 := by rw [hN.out]; exact hl
    rw [show (l.length) = N from hN.out.symm, show m.length = N by rw [← hlm, hN.out]]
    clear d1 hlm hN hl hm
    go_enter Try.func43, Try.ntmps43
    go_wp2
    go_loopw [13] (fun i wr => ∃ k : Nat, k ≤ N ∧ i = .int .i64 k ∧ Hid (l.take k = m.take k) ∧ ∃ n, wr = w.drewN n) (fun i _ => N - (intOf i).toNat)
    case atStart => exact ⟨0, by omega, rfl, hide rfl, 0, rfl⟩
    case round =>
      obtain ⟨k, hk, rfl, htk, n, rfl⟩ := hrel
      by_cases hlt : k < N
      · have hkl : k < l.length := by rw [← HN1.out]; exact hlt
        have hkm : k < m.length := by rw [← HN2.out]; exact hlt
        obtain ⟨b1, o1, rfl, hc⟩ := h1.at_ hkl
        obtain ⟨b2, o2, rfl, hc2⟩ := h2.at_ hkm
        have hi0 : (0 : Int) ≤ (k : Int) := by omega
        have hi1 : (k : Int) < (N : Int) := by omega
        by_cases he : l[k] = m[k]
        · have hq : (l[k].toList == m[k].toList) = true := by rw [he]; simp
          have hnx := hide (take_next htk.out hkl hkm he)
          obtain ⟨x, hx⟩ := named l[k]
          obtain ⟨y, hy⟩ := named m[k]
          rw [← hx.out, ← hy.out] at hq
          rw [← hx.out] at hc
          rw [← hy.out] at hc2
          clear hx hy he hkl hkm
          go_wp2_with (go_quiet (fail))
          go_roundw
          case rel => exact ⟨k + 1, by omega, by go_num, hnx, _, rfl⟩
          case measure => simp [intOf]; omega
        · have hq : (l[k].toList == m[k].toList) = false := by
            have : ¬ l[k].toList = m[k].toList := fun h => he ((text_iff _ _).1 h)
            simpa using this
          have hno : Hid (decide (l = m) = false) := hide (by
            rw [decide_eq_false_iff_not]
            rintro rfl
            exact he rfl)
          obtain ⟨x, hx⟩ := named l[k]
          obtain ⟨y, hy⟩ := named m[k]
          rw [← hx.out, ← hy.out] at hq
          rw [← hx.out] at hc
          rw [← hy.out] at hc2
          clear hx hy he hkl hkm
          go_wp2_with (go_quiet (fail))
          go_ret
          exact ⟨by rw [hno.out]; rfl, by first | exact below_drewN (Below.refl _ _) _ | exact below_drewN (below_drewN (Below.refl _ _) _) _⟩
      · obtain rfl : k = N := by omega
        have hyes : Hid (decide (l = m) = true) := hide (by
          rw [decide_eq_true_iff]
          have := htk.out
          rw [List.take_of_length_le (by rw [← HN1.out]; exact Nat.le_refl _), List.take_of_length_le (by rw [← HN2.out]; exact Nat.le_refl _)] at this
          exact this)
        clear hlt hk
        go_wp2
        go_ret
        exact ⟨by rw [hyes.out]; rfl, below_drewN (Below.refl _ _) n⟩
set_option maxRecDepth 100000 in
set_option maxHeartbeats 1000000 in
theorem sameDec_x (a b q1 q2 q3 : Bool) (v1 v2 u1 u2 : Value) (w : World) (d1 : (a == b) = q1)
    (h1 : ∀ W, Below w.heap.size w W → Calls Try.prog 43 #[v1, u1] W fun e w' => e = .returned (.bool q2) ∧ Below W.heap.size W w')
    (h2 : ∀ W, Below w.heap.size w W → Calls Try.prog 43 #[v2, u2] W fun e w' => e = .returned (.bool q3) ∧ Below W.heap.size W w') :
    Calls Try.prog 33 #[.agg #[.bool a, v1, v2], .agg #[.bool b, u1, u2]] w fun e w' => e = .returned (.bool (q1 && (q2 && q3))) ∧ Below w.heap.size w w' := by
  have hA := (Blk.new w [.bool a, v1, v2] 42).alloc (.cells #[.bool b, u1, u2] 42)
  have hB := Blk.new (w.alloc (.cells #[.bool a, v1, v2] 42)) [.bool b, u1, u2] 42
  rw [show (w.alloc (.cells #[.bool a, v1, v2] 42)).heap.size = w.heap.size + 1 by simp] at hB
  have hb := bt (below_alloc w (.cells #[.bool a, v1, v2] 42)) (below_alloc _ (.cells #[.bool b, u1, u2] 42))
  go_enter Try.func33, Try.ntmps33
  go_upto_region 1 with fail
  obtain ⟨w1, hw1⟩ := named ((w.alloc (.cells #[.bool a, v1, v2] 42)).alloc (.cells #[.bool b, u1, u2] 42))
  rw [← hw1.out] at hA hB hb ⊢
  clear hw1
  have xA := hA.cell
  have xB := hB.cell
  cases q1 with
  | false =>
    clear h1 h2
    go_wp2
    go_ret
    exact ⟨rfl, hb⟩
  | true =>
    go_wp2_with fail
    refine (h1 _ hb).mono ?_
    rintro e w2 ⟨rfl, hb2⟩
    have hA2 := hA.below hb2
    have hB2 := hB.below hb2
    have hb3 := bt hb hb2
    clear h1 hA hB xA xB hb hb2
    have xA := hA2.cell
    have xB := hB2.cell
    cases q2 with
    | false =>
      clear h2
      go_wp2
      go_ret
      exact ⟨rfl, hb3⟩
    | true =>
      go_wp2_with fail
      refine (h2 _ hb3).mono ?_
      rintro e w3 ⟨rfl, hb4⟩
      have hb5 := bt hb3 hb4
      clear h2 hA2 hB2 xA xB hb3 hb4
      go_wp2
      go_ret
      exact ⟨by simp, hb5⟩
set_option maxRecDepth 100000 in
set_option maxHeartbeats 1000000 in
theorem same_x (y1 y2 p1 p2 : Int) (n1 n2 : Nat) (a1 a2 q1 q2 q3 q4 : Bool) (v1 v2 u1 u2 : Value) (w : World) (d1 : (y1 == y2) = q1) (d2 : ((n1 : Int) == (n2 : Int)) = q2) (d3 : (p1 == p2) = q3)
    (h1 : ∀ W, Below w.heap.size w W → Calls Try.prog 33 #[.agg #[.bool a1, v1, v2], .agg #[.bool a2, u1, u2]] W fun e w' => e = .returned (.bool q4) ∧ Below W.heap.size W w') :
    Calls Try.prog 18 #[.agg #[.int .i64 y1, .int .u64 (n1 : Int), .int .i64 p1, .bool a1, v1, v2], .agg #[.int .i64 y2, .int .u64 (n2 : Int), .int .i64 p2, .bool a2, u1, u2]] w fun e w' => e = .returned (.bool (q1 && (q2 && (q3 && q4)))) ∧ Below w.heap.size w w' := by
  have hA := (Blk.new w [.int .i64 y1, .int .u64 (n1 : Int), .int .i64 p1, .bool a1, v1, v2] 44).alloc (.cells #[.int .i64 y2, .int .u64 (n2 : Int), .int .i64 p2, .bool a2, u1, u2] 44)
  have hB := Blk.new (w.alloc (.cells #[.int .i64 y1, .int .u64 (n1 : Int), .int .i64 p1, .bool a1, v1, v2] 44)) [.int .i64 y2, .int .u64 (n2 : Int), .int .i64 p2, .bool a2, u1, u2] 44
  rw [show (w.alloc (.cells #[.int .i64 y1, .int .u64 (n1 : Int), .int .i64 p1, .bool a1, v1, v2] 44)).heap.size = w.heap.size + 1 by simp] at hB
  have hb := bt (below_alloc w (.cells #[.int .i64 y1, .int .u64 (n1 : Int), .int .i64 p1, .bool a1, v1, v2] 44)) (below_alloc _ (.cells #[.int .i64 y2, .int .u64 (n2 : Int), .int .i64 p2, .bool a2, u1, u2] 44))
  have HT : ∀ (b : Bool), (true && b) = b := fun b => rfl
  go_enter Try.func18, Try.ntmps18
  go_upto_region 1 with fail
  obtain ⟨w1, hw1⟩ := named ((w.alloc (.cells #[.int .i64 y1, .int .u64 (n1 : Int), .int .i64 p1, .bool a1, v1, v2] 44)).alloc (.cells #[.int .i64 y2, .int .u64 (n2 : Int), .int .i64 p2, .bool a2, u1, u2] 44))
  rw [← hw1.out] at hA hB hb ⊢
  clear hw1 HT
  have xA := hA.cell
  have xB := hB.cell
  cases q1 with
  | false =>
    clear h1
    go_wp2
    go_ret
    exact ⟨rfl, hb⟩
  | true =>
  cases q2 with
  | false =>
    clear h1
    go_wp2
    go_ret
    exact ⟨rfl, hb⟩
  | true =>
  cases q3 with
  | false =>
    clear h1
    go_wp2
    go_ret
    exact ⟨rfl, hb⟩
  | true =>
    go_wp2_with fail
    refine (h1 _ hb).mono ?_
    rintro e w2 ⟨rfl, hb2⟩
    have hb3 := bt hb hb2
    clear h1 hA hB xA xB hb hb2
    go_wp2
    go_ret
    exact ⟨by simp, hb3⟩
/-- Two replies' values that hold r and s: whether they are one. -/
theorem same_w (r s : Rep) (A1 A2 B1 B2 : Option Addr) (c1 c2 e1 e2 : Nat) (w : World) (t1 : Texts w A1 r.ids) (t2 : Texts w A2 r.er) (u1 : Texts w B1 s.ids) (u2 : Texts w B2 s.er)
    (z1 : r.ids.length ≤ 140737488351232) (z2 : r.er.length ≤ 140737488351232) (z3 : s.ids.length ≤ 140737488351232) (z4 : s.er.length ≤ 140737488351232) :
    Calls Try.prog 18 #[.agg #[.int .i64 r.why, .int .u64 (r.n : Int), .int .i64 r.pl, .bool r.al, .slice A1 r.ids.length c1, .slice A2 r.er.length c2], .agg #[.int .i64 s.why, .int .u64 (s.n : Int), .int .i64 s.pl, .bool s.al, .slice B1 s.ids.length e1, .slice B2 s.er.length e2]] w
      fun e w' => e = .returned (.bool (decide (r = s))) ∧ Below w.heap.size w w' := by
  have hh := same_x r.why s.why r.pl s.pl r.n s.n r.al s.al (decide (r.why = s.why)) (decide (r.n = s.n)) (decide (r.pl = s.pl)) ((r.al == s.al) && (decide (r.ids = s.ids) && decide (r.er = s.er)))
    (.slice A1 r.ids.length c1) (.slice A2 r.er.length c2) (.slice B1 s.ids.length e1) (.slice B2 s.er.length e2) w (by by_cases h : r.why = s.why <;> simp [h]) (by by_cases h : r.n = s.n <;> simp [h]; omega) (by by_cases h : r.pl = s.pl <;> simp [h])
    (fun W hW => sameDec_x r.al s.al _ (decide (r.ids = s.ids)) (decide (r.er = s.er)) _ _ _ _ W rfl
      (fun V hV => sameTexts_w r.ids s.ids A1 B1 c1 e1 V ((t1.below hW).below hV) ((u1.below hW).below hV) z1 z3)
      (fun V hV => sameTexts_w r.er s.er A2 B2 c2 e2 V ((t2.below hW).below hV) ((u2.below hW).below hV) z2 z4))
  have he : (decide (r.why = s.why) && (decide (r.n = s.n) && (decide (r.pl = s.pl) && ((r.al == s.al) && (decide (r.ids = s.ids) && decide (r.er = s.er)))))) = decide (r = s) := by
    obtain ⟨a, b, c, d, e, f⟩ := r
    obtain ⟨a', b', c', d', e', f'⟩ := s
    simp only [Rep.mk.injEq]
    by_cases h1 : a = a' <;> by_cases h2 : b = b' <;> by_cases h3 : c = c' <;> by_cases h4 : d = d' <;> by_cases h5 : e = e' <;> by_cases h6 : f = f' <;> simp [h1, h2, h3, h4, h5, h6]
  rw [he] at hh
  exact hh
end Go.Proofs.Ytiodfbbgbnbdpaa
