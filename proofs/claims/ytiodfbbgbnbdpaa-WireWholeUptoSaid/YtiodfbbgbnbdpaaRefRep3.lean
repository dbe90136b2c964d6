/- The document on replies: ReadReply. -/
import Derived.Test.YtiodfbbgbnbdpaaRefRep2
namespace Go.Proofs.Ytiodfbbgbnbdpaa
set_option linter.unusedSimpArgs false
set_option linter.unusedVariables false
open Go.RowKit
open Crc
theorem own_row {w0 w : World} {base : Nat} {v : Value} {l : List ByteArray} (h : w.ownsRow base 9 1 v l.length (strs l)) (hb : w0.heap.size ≤ base) : RowR w0 w v l := by
  have h' := h
  obtain ⟨A0, cc, rfl, _, _, hlies, _⟩ := Lies.of_own h
  refine ⟨A0, cc, rfl, hlies, fun b o' e => ?_⟩
  have e' : (Value.slice A0 l.length cc).ownBlock = some b := by rw [e]; rfl
  obtain ⟨q1, q2⟩ := h'.lt b e'
  refine ⟨Nat.le_trans hb q1, q2, fun cs fz hc => ?_⟩
  rcases h'.2 with ⟨e2, _⟩ | ⟨g, cap, cur, hv, _, hh, _⟩
  · rw [e2] at e'; simp [Value.ownBlock] at e'
  · rw [hv] at e'
    obtain rfl : g = b := by simpa [Value.ownBlock] using e'
    rw [hh] at hc
    injection hc with hc
    injection hc with _ ht
    exact absurd ht (by decide)
theorem wanted_go2 {c p q : Prop} [Decidable c] (h : c) (hp : p) : if c then p else q := by rw [if_pos h]; exact hp
theorem str_at {l : List UInt8} (k : Nat) : ∀ h : k < (str l).size, (str l)[k] = l.getD k 0 := fun h => by
  have h2 : k < l.length := by rw [str_size] at h; exact h
  rw [List.getD_eq_getElem?_getD, List.getElem?_eq_getElem h2]
  rfl
theorem str_from (l : List UInt8) (k : Nat) : (str l).extract k (str l).size = str (l.drop k) := by
  rw [str_extract, str_size, List.take_of_length_le (by simp)]
set_option maxRecDepth 100000 in
set_option maxHeartbeats 2000000 in
theorem refReadReply_w (l : List UInt8) (w : World) (hl : l.length ≤ 140737488351232) :
    Calls Try.prog 17 #[.string (str l)] w fun e w' => (∃ v, e = .returned (.tuple #[v, .int .i64 (rdE (refRp l))]) ∧ RepAt w w' (rdV (refRp l)) v) ∧ Below w.heap.size w w' := by
  have hrd : refRp l = if l.length < 11 ∨ 1 < (l.getD 10 0).toNat then none
      else match someT (l.drop 11) with
        | none => none
        | some (a, q) => match someT q with
          | none => none
          | some (b, s) => if s = [] then some ⟨((l.getD 0 0).toNat : Int), (numL ((l.drop 1).take 8)).1, ((l.getD 9 0).toNat : Int), l.getD 10 0 == 1, a, b⟩ else none := rfl
  have HRD := hide hrd
  obtain ⟨o, ho⟩ := named (refRp l)
  rw [← ho.out] at HRD ⊢
  clear hrd ho
  have hR := Blk.new w [.int .i64 0, .int .u64 0, .int .i64 0, .bool false, .slice none 0 0, .slice none 0 0] 44
  have hb := below_alloc w (.cells #[.int .i64 0, .int .u64 0, .int .i64 0, .bool false, .slice none 0 0, .slice none 0 0] 44)
  have hsz : (str l).size = l.length := str_size l
  by_cases h11 : l.length < 11
  case pos =>
    have HNO : Hid (o = none) := hide (by rw [HRD.out]; exact if_pos (.inl h11))
    have hI : ((str l).size : Int) < 11 := by rw [hsz]; omega
    obtain ⟨S, hS⟩ := named (str l)
    rw [← hS.out] at hI ⊢
    clear HRD hS hsz h11
    go_enter Try.func17, Try.ntmps17
    go_upto_region 1 with fail
    obtain ⟨w1, hw1⟩ := named (w.alloc (.cells #[.int .i64 0, .int .u64 0, .int .i64 0, .bool false, .slice none 0 0, .slice none 0 0] 44))
    rw [← hw1.out] at hR hb ⊢
    clear hw1
    have k6 := hR.row [.int .i64 0, .int .u64 0, .int .i64 0, .bool false, .slice none 0 0, .slice none 0 0]
    have hb6 := below_setRow hb (Nat.le_refl _) #[.int .i64 0, .int .u64 0, .int .i64 0, .bool false, .slice none 0 0, .slice none 0 0]
    go_wp2_with (refine wpList_store_row rfl 44 _ _ rfl _ #[.int .i64 0, .int .u64 0, .int .i64 0, .bool false, .slice none 0 0, .slice none 0 0] rfl rfl 44 #[.int .i64 0, .int .u64 0, .int .i64 0, .bool false, .slice none 0 0, .slice none 0 0] hR kREP rfl (by simp [Value.oneCell']) ?_)
    obtain ⟨w6, hw6⟩ := named (w1.setRow w.heap.size #[.int .i64 0, .int .u64 0, .int .i64 0, .bool false, .slice none 0 0, .slice none 0 0])
    rw [show (w1.setRow w.heap.size [.int .i64 0, .int .u64 0, .int .i64 0, .bool false, .slice none 0 0, .slice none 0 0].toArray) = w6 from hw6.out.symm] at k6
    rw [← hw6.out] at hb6 ⊢
    have hld : (loadVar 44 ⟨w.heap.size, 0, none⟩).run Try.prog w6 = .ok (.agg #[.int .i64 0, .int .u64 0, .int .i64 0, .bool false, .slice none 0 0, .slice none 0 0]) w6 := run_loadVar_row w6 w.heap.size 44 44 #[.int .i64 0, .int .u64 0, .int .i64 0, .bool false, .slice none 0 0, .slice none 0 0] (0, 0) _ k6 Try.underlying44 rfl kREP
    refine bodyPost_ret (v := .tuple #[.agg #[.int .i64 0, .int .u64 0, .int .i64 0, .bool false, .slice none 0 0, .slice none 0 0], .int .i64 14]) (row_ret2 rfl _ _ _ _ _ rfl hld rfl) rfl ?_
    refine ⟨⟨_, by rw [HNO.out]; rfl, ?_⟩, hb6⟩
    rw [HNO.out]
    exact ⟨.slice none 0 0, .slice none 0 0, rfl, RowR.nil _ _, RowR.nil _ _⟩
  case neg =>
  have hI : ¬ ((str l).size : Int) < 11 := by rw [hsz]; omega
  have hg10 := str_at (l := l) 10
  have hg0 := str_at (l := l) 0
  have hg9 := str_at (l := l) 9
  have hge : 11 ≤ (str l).size := by rw [hsz]; omega
  obtain ⟨f, hf⟩ := named (l.getD 10 0)
  obtain ⟨y, hy⟩ := named (l.getD 0 0)
  obtain ⟨p, hp⟩ := named (l.getD 9 0)
  rw [← hf.out] at hg10
  rw [← hy.out] at hg0
  rw [← hp.out] at hg9
  by_cases hff : 1 < f.toNat
  case pos =>
    have HNO : Hid (o = none) := hide (by rw [HRD.out]; exact if_pos (.inr (by rw [← hf.out]; exact hff)))
    have hf1 : (1 : Int) < (f.toNat : Int) := by omega
    obtain ⟨S, hS⟩ := named (str l)
    rw [← hS.out] at hI hge hg10 ⊢
    clear HRD hS hsz h11 hff hg0 hg9 hf hy hp
    go_enter Try.func17, Try.ntmps17
    go_upto_region 1 with fail
    obtain ⟨w1, hw1⟩ := named (w.alloc (.cells #[.int .i64 0, .int .u64 0, .int .i64 0, .bool false, .slice none 0 0, .slice none 0 0] 44))
    rw [← hw1.out] at hR hb ⊢
    clear hw1
    have k6 := hR.row [.int .i64 0, .int .u64 0, .int .i64 0, .bool false, .slice none 0 0, .slice none 0 0]
    have hb6 := below_setRow hb (Nat.le_refl _) #[.int .i64 0, .int .u64 0, .int .i64 0, .bool false, .slice none 0 0, .slice none 0 0]
    go_wp2_with (refine wpList_store_row rfl 44 _ _ rfl _ #[.int .i64 0, .int .u64 0, .int .i64 0, .bool false, .slice none 0 0, .slice none 0 0] rfl rfl 44 #[.int .i64 0, .int .u64 0, .int .i64 0, .bool false, .slice none 0 0, .slice none 0 0] hR kREP rfl (by simp [Value.oneCell']) ?_)
    obtain ⟨w6, hw6⟩ := named (w1.setRow w.heap.size #[.int .i64 0, .int .u64 0, .int .i64 0, .bool false, .slice none 0 0, .slice none 0 0])
    rw [show (w1.setRow w.heap.size [.int .i64 0, .int .u64 0, .int .i64 0, .bool false, .slice none 0 0, .slice none 0 0].toArray) = w6 from hw6.out.symm] at k6
    rw [← hw6.out] at hb6 ⊢
    have hld : (loadVar 44 ⟨w.heap.size, 0, none⟩).run Try.prog w6 = .ok (.agg #[.int .i64 0, .int .u64 0, .int .i64 0, .bool false, .slice none 0 0, .slice none 0 0]) w6 := run_loadVar_row w6 w.heap.size 44 44 #[.int .i64 0, .int .u64 0, .int .i64 0, .bool false, .slice none 0 0, .slice none 0 0] (0, 0) _ k6 Try.underlying44 rfl kREP
    refine bodyPost_ret (v := .tuple #[.agg #[.int .i64 0, .int .u64 0, .int .i64 0, .bool false, .slice none 0 0, .slice none 0 0], .int .i64 14]) (row_ret2 rfl _ _ _ _ _ rfl hld rfl) rfl ?_
    refine ⟨⟨_, by rw [HNO.out]; rfl, ?_⟩, hb6⟩
    rw [HNO.out]
    exact ⟨.slice none 0 0, .slice none 0 0, rfl, RowR.nil _ _, RowR.nil _ _⟩
  case neg =>
  have hf1 : ¬ (1 : Int) < (f.toNat : Int) := by omega
  have HRD2 : Hid (o = match someT (l.drop 11) with
        | none => none
        | some (a, q) => match someT q with
          | none => none
          | some (b, s) => if s = [] then some ⟨(y.toNat : Int), (numL ((l.drop 1).take 8)).1, (p.toNat : Int), f == 1, a, b⟩ else none) := hide (by
    rw [HRD.out, if_neg (by rw [← hf.out]; rintro (h | h); exact h11 h; exact hff h), ← hf.out, ← hy.out, ← hp.out])
  have hx1 : (str l).extract 1 9 = str ((l.drop 1).take 8) := by rw [str_extract]
  have hx2 := str_from l 11
  have hN := fun W => refNumber_w (str ((l.drop 1).take 8)) W (by rw [str_size]; simp; omega)
  simp only [str_data] at hN
  have hS1 := fun W => refSomeT_w (l.drop 11) W (by simp; omega)
  have hS2 := fun q hq W => refSomeT_w q W hq
  have hv1 : (someV (l.drop 11)).2.length ≤ 140737488351232 := by
    unfold someV
    cases hc : someT (l.drop 11) with
    | none => simp
    | some x =>
      obtain ⟨a, b⟩ := x
      have := (someT_len hc).2
      simp at this
      simp
      omega
  have hfb : ((f.toNat : Int) == 1) = (f == 1) := by
    have h := u8_iff f 1
    cases hc : (f == 1) with
    | true => simpa using h.2 (by simpa using hc)
    | false => simpa using fun e => absurd (h.1 e) (by simpa using hc)
  obtain ⟨fb, hfbn⟩ := named (f == 1)
  rw [← hfbn.out] at hfb HRD2
  have hwy : IntKind.i64.wrap (y.toNat : Int) = (y.toNat : Int) := by have := y.toNat_lt; simp [IntKind.wrap, IntKind.bits, IntKind.signed]; omega
  have hwp : IntKind.i64.wrap (p.toNat : Int) = (p.toNat : Int) := by have := p.toNat_lt; simp [IntKind.wrap, IntKind.bits, IntKind.signed]; omega
  have hse := str_empty (someV (someV (l.drop 11)).2).2
  have hsv1 : someV (l.drop 11) = (someT (l.drop 11)).getD ([], []) := rfl
  have hsv2 : someV (someV (l.drop 11)).2 = (someT (someV (l.drop 11)).2).getD ([], []) := rfl
  have HV1 := hide hsv1
  have HV2 := hide hsv2
  replace hS2 := hS2 _ hv1
  obtain ⟨N, hNn⟩ := named (numL ((l.drop 1).take 8))
  rw [← hNn.out] at HRD2
  simp only [← hNn.out] at hN
  obtain ⟨n, rn, on⟩ := N
  obtain ⟨x1, hx1n⟩ := named (str ((l.drop 1).take 8))
  obtain ⟨x2, hx2n⟩ := named (str (l.drop 11))
  rw [← hx1n.out] at hx1
  rw [← hx2n.out] at hx2
  simp only [← hx1n.out] at hN
  simp only [← hx2n.out] at hS1
  obtain ⟨P1, hP1⟩ := named (someV (l.drop 11))
  rw [← hP1.out] at HV1 HV2 hse
  simp only [← hP1.out] at hS1 hS2
  obtain ⟨b1, hb1⟩ := named (someT (l.drop 11)).isSome
  simp only [← hb1.out] at hS1
  obtain ⟨a, r1⟩ := P1
  simp only at HV2 hS1 hS2 hse
  obtain ⟨P2, hP2⟩ := named (someV r1)
  rw [← hP2.out] at HV2 hse
  simp only [← hP2.out] at hS2
  obtain ⟨b2, hb2⟩ := named (someT r1).isSome
  simp only [← hb2.out] at hS2
  obtain ⟨bb, r2⟩ := P2
  simp only at hS2 hse hN
  have HB1 := hide hb1.out
  have HB2 := hide hb2.out
  have hno : b1 = false ∨ b2 = false ∨ r2 ≠ [] → o = none := fun h => by
    rw [HRD2.out]
    cases q1 : someT (l.drop 11) with
    | none => rfl
    | some x =>
      obtain ⟨a', q'⟩ := x
      have e1 := HV1.out
      rw [q1] at e1
      cases e1
      simp only
      cases q2 : someT r1 with
      | none => rfl
      | some x2 =>
        obtain ⟨b', s'⟩ := x2
        have e2 := HV2.out
        rw [q2] at e2
        cases e2
        simp only
        rcases h with h | h | h
        · rw [HB1.out, q1] at h; cases h
        · rw [HB2.out, q2] at h; cases h
        · exact if_neg h
  have hyes : b1 = true → b2 = true → r2 = [] → o = some ⟨(y.toNat : Int), n, (p.toNat : Int), fb, a, bb⟩ := fun h1 h2 h3 => by
    rw [HRD2.out]
    cases q1 : someT (l.drop 11) with
    | none => rw [HB1.out, q1] at h1; cases h1
    | some x =>
      obtain ⟨a', q'⟩ := x
      have e1 := HV1.out
      rw [q1] at e1
      cases e1
      simp only
      cases q2 : someT r1 with
      | none => rw [HB2.out, q2] at h2; cases h2
      | some x2 =>
        obtain ⟨b', s'⟩ := x2
        have e2 := HV2.out
        rw [q2] at e2
        cases e2
        exact if_pos h3
  have HN0 := hide hno
  have HY0 := hide hyes
  obtain ⟨qe, hqe⟩ := named (decide (r2 = []))
  rw [← hqe.out] at hse
  obtain ⟨S, hS⟩ := named (str l)
  rw [← hS.out] at hI hge hx1 hx2 hg10 hg0 hg9 ⊢
  obtain ⟨x3, hx3⟩ := named (str r1)
  simp only [← hx3.out] at hS1 hS2
  obtain ⟨x4, hx4⟩ := named (str r2)
  rw [← hx4.out] at hse
  simp only [← hx4.out] at hS2
  obtain ⟨x5, hx5⟩ := named (str rn)
  simp only [← hx5.out] at hN
  have hgz : 9 ≤ S.size := by omega
  have hz0 : 0 < S.size := by omega
  have hz9 : (9 : Int) < (S.size : Int) := by omega
  have hz10 : (10 : Int) < (S.size : Int) := by omega
  clear HRD HRD2 hno hyes HV1 HV2 hsv1 hsv2 hv1 hNn hx1n hx2n hP1 hP2 hb1 hb2 HB1 HB2 hS hx3 hx4 hx5 hsz h11 hff hf hy hp hl
  go_enter Try.func17, Try.ntmps17
  go_upto_region 1 with fail
  obtain ⟨w1, hw1⟩ := named (w.alloc (.cells #[.int .i64 0, .int .u64 0, .int .i64 0, .bool false, .slice none 0 0, .slice none 0 0] 44))
  have hw1s : w.heap.size < w1.heap.size := by rw [hw1.out]; simp
  rw [← hw1.out] at hR hb ⊢
  clear hw1
  go_wp2_with fail
  refine (hN _).mono ?_
  rintro e w2 ⟨rfl, hq2⟩
  replace hR := hR.below hq2
  replace hb := bt hb hq2
  have hs2 : w.heap.size < w2.heap.size := Nat.lt_of_lt_of_le hw1s hq2.size
  clear hN hq2 hw1s
  go_wp2_with fail
  refine (hS1 _).mono ?_
  rintro e w3 ⟨⟨v1, rfl, ho1⟩, hq3⟩
  replace hR := hR.below hq3
  replace hb := bt hb hq3
  have hs3 := Nat.lt_of_lt_of_le hs2 hq3.size
  clear hS1 hq3
  have rr1 := own_row (w0 := w2) ho1 (Nat.le_refl _)
  clear ho1
  go_wp2_with fail
  refine (hS2 _).mono ?_
  rintro e w4 ⟨⟨v2, rfl, ho2⟩, hq4⟩
  replace hR := hR.below hq4
  replace hb := bt hb hq4
  have rr2 := own_row (w0 := w3) ho2 (Nat.le_refl _)
  replace rr1 := rr1.keep hq4.size (fun b _ h2 => hq4.block b h2)
  clear hS2 hq4 ho2
  cases b1 with
  | false =>
    have HNO := hide (HN0.out (.inl rfl))
    clear HY0 rr1 rr2
    have k6 := hR.row [.int .i64 0, .int .u64 0, .int .i64 0, .bool false, .slice none 0 0, .slice none 0 0]
    have hb6 := below_setRow hb (Nat.le_refl _) #[.int .i64 0, .int .u64 0, .int .i64 0, .bool false, .slice none 0 0, .slice none 0 0]
    go_wp2_with (refine wpList_store_row rfl 44 _ _ rfl _ #[.int .i64 0, .int .u64 0, .int .i64 0, .bool false, .slice none 0 0, .slice none 0 0] rfl rfl 44 #[.int .i64 0, .int .u64 0, .int .i64 0, .bool false, .slice none 0 0, .slice none 0 0] hR kREP rfl (by simp [Value.oneCell']) ?_)
    obtain ⟨w6, hw6⟩ := named (w4.setRow w.heap.size #[.int .i64 0, .int .u64 0, .int .i64 0, .bool false, .slice none 0 0, .slice none 0 0])
    rw [show (w4.setRow w.heap.size [.int .i64 0, .int .u64 0, .int .i64 0, .bool false, .slice none 0 0, .slice none 0 0].toArray) = w6 from hw6.out.symm] at k6
    rw [← hw6.out] at hb6 ⊢
    have hld : (loadVar 44 ⟨w.heap.size, 0, none⟩).run Try.prog w6 = .ok (.agg #[.int .i64 0, .int .u64 0, .int .i64 0, .bool false, .slice none 0 0, .slice none 0 0]) w6 := run_loadVar_row w6 w.heap.size 44 44 #[.int .i64 0, .int .u64 0, .int .i64 0, .bool false, .slice none 0 0, .slice none 0 0] (0, 0) _ k6 Try.underlying44 rfl kREP
    refine bodyPost_ret (v := .tuple #[.agg #[.int .i64 0, .int .u64 0, .int .i64 0, .bool false, .slice none 0 0, .slice none 0 0], .int .i64 14]) (row_ret2 rfl _ _ _ _ _ rfl hld rfl) rfl ?_
    refine ⟨⟨_, by rw [HNO.out]; rfl, ?_⟩, hb6⟩
    rw [HNO.out]
    exact ⟨.slice none 0 0, .slice none 0 0, rfl, RowR.nil _ _, RowR.nil _ _⟩
  | true =>
  cases b2 with
  | false =>
    have HNO := hide (HN0.out (.inr (.inl rfl)))
    clear HY0 rr1 rr2
    have k6 := hR.row [.int .i64 0, .int .u64 0, .int .i64 0, .bool false, .slice none 0 0, .slice none 0 0]
    have hb6 := below_setRow hb (Nat.le_refl _) #[.int .i64 0, .int .u64 0, .int .i64 0, .bool false, .slice none 0 0, .slice none 0 0]
    go_wp2_with (refine wpList_store_row rfl 44 _ _ rfl _ #[.int .i64 0, .int .u64 0, .int .i64 0, .bool false, .slice none 0 0, .slice none 0 0] rfl rfl 44 #[.int .i64 0, .int .u64 0, .int .i64 0, .bool false, .slice none 0 0, .slice none 0 0] hR kREP rfl (by simp [Value.oneCell']) ?_)
    obtain ⟨w6, hw6⟩ := named (w4.setRow w.heap.size #[.int .i64 0, .int .u64 0, .int .i64 0, .bool false, .slice none 0 0, .slice none 0 0])
    rw [show (w4.setRow w.heap.size [.int .i64 0, .int .u64 0, .int .i64 0, .bool false, .slice none 0 0, .slice none 0 0].toArray) = w6 from hw6.out.symm] at k6
    rw [← hw6.out] at hb6 ⊢
    have hld : (loadVar 44 ⟨w.heap.size, 0, none⟩).run Try.prog w6 = .ok (.agg #[.int .i64 0, .int .u64 0, .int .i64 0, .bool false, .slice none 0 0, .slice none 0 0]) w6 := run_loadVar_row w6 w.heap.size 44 44 #[.int .i64 0, .int .u64 0, .int .i64 0, .bool false, .slice none 0 0, .slice none 0 0] (0, 0) _ k6 Try.underlying44 rfl kREP
    refine bodyPost_ret (v := .tuple #[.agg #[.int .i64 0, .int .u64 0, .int .i64 0, .bool false, .slice none 0 0, .slice none 0 0], .int .i64 14]) (row_ret2 rfl _ _ _ _ _ rfl hld rfl) rfl ?_
    refine ⟨⟨_, by rw [HNO.out]; rfl, ?_⟩, hb6⟩
    rw [HNO.out]
    exact ⟨.slice none 0 0, .slice none 0 0, rfl, RowR.nil _ _, RowR.nil _ _⟩
  | true =>
  cases qe with
  | false =>
    have HNO := hide (HN0.out (.inr (.inr (by simpa using hqe.out))))
    clear HY0 rr1 rr2
    have k6 := hR.row [.int .i64 0, .int .u64 0, .int .i64 0, .bool false, .slice none 0 0, .slice none 0 0]
    have hb6 := below_setRow hb (Nat.le_refl _) #[.int .i64 0, .int .u64 0, .int .i64 0, .bool false, .slice none 0 0, .slice none 0 0]
    go_wp2_with (refine wpList_store_row rfl 44 _ _ rfl _ #[.int .i64 0, .int .u64 0, .int .i64 0, .bool false, .slice none 0 0, .slice none 0 0] rfl rfl 44 #[.int .i64 0, .int .u64 0, .int .i64 0, .bool false, .slice none 0 0, .slice none 0 0] hR kREP rfl (by simp [Value.oneCell']) ?_)
    obtain ⟨w6, hw6⟩ := named (w4.setRow w.heap.size #[.int .i64 0, .int .u64 0, .int .i64 0, .bool false, .slice none 0 0, .slice none 0 0])
    rw [show (w4.setRow w.heap.size [.int .i64 0, .int .u64 0, .int .i64 0, .bool false, .slice none 0 0, .slice none 0 0].toArray) = w6 from hw6.out.symm] at k6
    rw [← hw6.out] at hb6 ⊢
    have hld : (loadVar 44 ⟨w.heap.size, 0, none⟩).run Try.prog w6 = .ok (.agg #[.int .i64 0, .int .u64 0, .int .i64 0, .bool false, .slice none 0 0, .slice none 0 0]) w6 := run_loadVar_row w6 w.heap.size 44 44 #[.int .i64 0, .int .u64 0, .int .i64 0, .bool false, .slice none 0 0, .slice none 0 0] (0, 0) _ k6 Try.underlying44 rfl kREP
    refine bodyPost_ret (v := .tuple #[.agg #[.int .i64 0, .int .u64 0, .int .i64 0, .bool false, .slice none 0 0, .slice none 0 0], .int .i64 14]) (row_ret2 rfl _ _ _ _ _ rfl hld rfl) rfl ?_
    refine ⟨⟨_, by rw [HNO.out]; rfl, ?_⟩, hb6⟩
    rw [HNO.out]
    exact ⟨.slice none 0 0, .slice none 0 0, rfl, RowR.nil _ _, RowR.nil _ _⟩
  | true =>
    have HYY := hide (HY0.out rfl rfl (by simpa using hqe.out))
    clear HN0 HY0 hqe
    have rr1' := rr1
    have rr2' := rr2
    obtain ⟨A1, c1, rfl, _⟩ := rr1
    obtain ⟨A2, c2, rfl, _⟩ := rr2
    have HZ1 := hide (rfl : a.length = a.length)
    obtain ⟨n1, hn1⟩ := named a.length
    obtain ⟨n2, hn2⟩ := named bb.length
    rw [← hn1.out] at rr1' ⊢
    rw [← hn2.out] at rr2' ⊢
    go_wp2_with fail
    refine region_flatS _ (fun L u => Blk u w.heap.size (cond (L 14) [.int .i64 (y.toNat : Int), .int .u64 (n : Int), .int .i64 (p.toNat : Int), .bool fb, .slice A1 n1 c1, .slice A2 n2 c2] [.int .i64 0, .int .u64 0, .int .i64 0, .bool false, .slice none 0 0, .slice none 0 0]) 44 ∧ Below w.heap.size w u ∧ Hid (u = cond (L 14) (w4.drew.setRow w.heap.size #[.int .i64 (y.toNat : Int), .int .u64 (n : Int), .int .i64 (p.toNat : Int), .bool fb, .slice A1 n1 c1, .slice A2 n2 c2]) w4.drew)) (fun _ _ _ => True)
      (fun _ => rel [fun v _ => v = .string S,
        fun v _ => v = .int .u8 (y.toNat : Int),
        fun v _ => v = .int .i64 (y.toNat : Int),
        fun v _ => v = .int .u64 (n : Int),
        fun v _ => v = .string S,
        fun v _ => v = .int .u8 (p.toNat : Int),
        fun v _ => v = .int .i64 (p.toNat : Int),
        fun v _ => v = .string S,
        fun v _ => v = .int .u8 (f.toNat : Int),
        fun v _ => v = .bool fb,
        fun v _ => v = .slice A1 n1 c1,
        fun v _ => v = .slice A2 n2 c2,
        fun v _ => v = .agg #[.bool fb, .slice A1 n1 c1, .slice A2 n2 c2],
        fun v _ => v = .agg #[.int .i64 (y.toNat : Int), .int .u64 (n : Int), .int .i64 (p.toNat : Int), .bool fb, .slice A1 n1 c1, .slice A2 n2 c2],
        fun _ _ => True,
        fun v _ => v = .int .i64 0])
      (by kernel_rfl) (by kernel_rfl) (fun v => by simp only [putsV, Act.put, List.toList_toArray, List.setIfInBounds_toArray, List.set_cons_zero, List.set_cons_succ, Nat.reduceAdd, Nat.zero_add]; rfl) ?_ (fun _ _ _ _ _ h => h) ⟨hR, hb.drew, hide rfl⟩ ?_ (fun _ _ _ _ _ _ h => h) (fun L L' u hL h => by rw [← hL 14 (by decide)]; exact h) ?_
    · intro i L j x u u' _ _ hG h
      match j with
      | 0 => exact h
      | 1 => exact h
      | 2 => exact h
      | 3 => exact h
      | 4 => exact h
      | 5 => exact h
      | 6 => exact h
      | 7 => exact h
      | 8 => exact h
      | 9 => exact h
      | 10 => exact h
      | 11 => exact h
      | 12 => exact h
      | 13 => exact h
      | 14 => exact h
      | 15 => exact h
      | _ + 16 => trivial
    · refine ⟨?_, ?_, ?_, ?_, ?_, ?_, ?_, ?_, ?_, ?_, ?_, ?_, ?_, ?_, ?_, ?_, trivial⟩
      · intro L hL hcl v u hS hd K' hK
        simp only [waited, List.toList_toArray, Region.binds, rel, List.getD_cons_zero, List.getD_cons_succ, true_imp_iff, and_true] at hd
        simp only [rel, List.getD_cons_zero, List.getD_cons_succ, Act.put, List.setIfInBounds_toArray, List.set_cons_zero, List.set_cons_succ] at hK
        try simp only [hd] at hK
        go_simp
        exact hK.out _ _ ⟨hS, trivial, rfl⟩
      · intro L hL hcl v u hS hd K' hK
        simp only [waited, List.toList_toArray, Region.binds, rel, List.getD_cons_zero, List.getD_cons_succ, true_imp_iff, and_true] at hd
        simp only [rel, List.getD_cons_zero, List.getD_cons_succ, Act.put, List.setIfInBounds_toArray, List.set_cons_zero, List.set_cons_succ] at hK
        try simp only [hd] at hK
        go_simp
        exact hK.out _ _ ⟨hS, trivial, rfl⟩
      · intro L hL hcl v u hS hd K' hK
        simp only [waited, List.toList_toArray, Region.binds, rel, List.getD_cons_zero, List.getD_cons_succ, true_imp_iff, and_true] at hd
        simp only [rel, List.getD_cons_zero, List.getD_cons_succ, Act.put, List.setIfInBounds_toArray, List.set_cons_zero, List.set_cons_succ] at hK
        try simp only [hd] at hK
        go_simp
        exact hK.out _ _ ⟨hS, trivial, rfl⟩
      · intro L hL hcl v u hS hd K' hK
        simp only [waited, List.toList_toArray, Region.binds, rel, List.getD_cons_zero, List.getD_cons_succ, true_imp_iff, and_true] at hd
        simp only [rel, List.getD_cons_zero, List.getD_cons_succ, Act.put, List.setIfInBounds_toArray, List.set_cons_zero, List.set_cons_succ] at hK
        try simp only [hd] at hK
        go_simp
        exact hK.out _ _ ⟨hS, trivial, rfl⟩
      · intro L hL hcl v u hS hd K' hK
        simp only [waited, List.toList_toArray, Region.binds, rel, List.getD_cons_zero, List.getD_cons_succ, true_imp_iff, and_true] at hd
        simp only [rel, List.getD_cons_zero, List.getD_cons_succ, Act.put, List.setIfInBounds_toArray, List.set_cons_zero, List.set_cons_succ] at hK
        try simp only [hd] at hK
        go_simp
        exact hK.out _ _ ⟨hS, trivial, rfl⟩
      · intro L hL hcl v u hS hd K' hK
        simp only [waited, List.toList_toArray, Region.binds, rel, List.getD_cons_zero, List.getD_cons_succ, true_imp_iff, and_true] at hd
        simp only [rel, List.getD_cons_zero, List.getD_cons_succ, Act.put, List.setIfInBounds_toArray, List.set_cons_zero, List.set_cons_succ] at hK
        try simp only [hd] at hK
        go_simp
        exact hK.out _ _ ⟨hS, trivial, rfl⟩
      · intro L hL hcl v u hS hd K' hK
        simp only [waited, List.toList_toArray, Region.binds, rel, List.getD_cons_zero, List.getD_cons_succ, true_imp_iff, and_true] at hd
        simp only [rel, List.getD_cons_zero, List.getD_cons_succ, Act.put, List.setIfInBounds_toArray, List.set_cons_zero, List.set_cons_succ] at hK
        try simp only [hd] at hK
        go_simp
        exact hK.out _ _ ⟨hS, trivial, rfl⟩
      · intro L hL hcl v u hS hd K' hK
        simp only [waited, List.toList_toArray, Region.binds, rel, List.getD_cons_zero, List.getD_cons_succ, true_imp_iff, and_true] at hd
        simp only [rel, List.getD_cons_zero, List.getD_cons_succ, Act.put, List.setIfInBounds_toArray, List.set_cons_zero, List.set_cons_succ] at hK
        try simp only [hd] at hK
        go_simp
        exact hK.out _ _ ⟨hS, trivial, rfl⟩
      · intro L hL hcl v u hS hd K' hK
        simp only [waited, List.toList_toArray, Region.binds, rel, List.getD_cons_zero, List.getD_cons_succ, true_imp_iff, and_true] at hd
        simp only [rel, List.getD_cons_zero, List.getD_cons_succ, Act.put, List.setIfInBounds_toArray, List.set_cons_zero, List.set_cons_succ] at hK
        try simp only [hd] at hK
        go_simp
        exact hK.out _ _ ⟨hS, trivial, rfl⟩
      · intro L hL hcl v u hS hd K' hK
        simp only [waited, List.toList_toArray, Region.binds, rel, List.getD_cons_zero, List.getD_cons_succ, true_imp_iff, and_true] at hd
        simp only [rel, List.getD_cons_zero, List.getD_cons_succ, Act.put, List.setIfInBounds_toArray, List.set_cons_zero, List.set_cons_succ] at hK
        try simp only [hd] at hK
        go_simp
        exact hK.out _ _ ⟨hS, trivial, rfl⟩
      · intro L hL hcl v u hS hd K' hK
        simp only [waited, List.toList_toArray, Region.binds, rel, List.getD_cons_zero, List.getD_cons_succ, true_imp_iff, and_true] at hd
        simp only [rel, List.getD_cons_zero, List.getD_cons_succ, Act.put, List.setIfInBounds_toArray, List.set_cons_zero, List.set_cons_succ] at hK
        try simp only [hd] at hK
        go_simp
        exact hK.out _ _ ⟨hS, trivial, rfl⟩
      · intro L hL hcl v u hS hd K' hK
        simp only [waited, List.toList_toArray, Region.binds, rel, List.getD_cons_zero, List.getD_cons_succ, true_imp_iff, and_true] at hd
        simp only [rel, List.getD_cons_zero, List.getD_cons_succ, Act.put, List.setIfInBounds_toArray, List.set_cons_zero, List.set_cons_succ] at hK
        try simp only [hd] at hK
        go_simp
        exact hK.out _ _ ⟨hS, trivial, rfl⟩
      · intro L hL hcl v u hS hd K' hK
        simp only [waited, List.toList_toArray, Region.binds, rel, List.getD_cons_zero, List.getD_cons_succ, true_imp_iff, and_true] at hd
        simp only [rel, List.getD_cons_zero, List.getD_cons_succ, Act.put, List.setIfInBounds_toArray, List.set_cons_zero, List.set_cons_succ] at hK
        try simp only [hd] at hK
        go_simp
        exact hK.out _ _ ⟨hS, trivial, rfl⟩
      · intro L hL hcl v u hS hd K' hK
        simp only [waited, List.toList_toArray, Region.binds, rel, List.getD_cons_zero, List.getD_cons_succ, true_imp_iff, and_true] at hd
        simp only [rel, List.getD_cons_zero, List.getD_cons_succ, Act.put, List.setIfInBounds_toArray, List.set_cons_zero, List.set_cons_succ] at hK
        try simp only [hd] at hK
        go_simp
        exact hK.out _ _ ⟨hS, trivial, rfl⟩
      · intro L hL hcl v u hS hd K' hK
        simp only [waited, List.toList_toArray, Region.binds, rel, List.getD_cons_zero, List.getD_cons_succ, true_imp_iff, and_true] at hd
        simp only [rel, List.getD_cons_zero, List.getD_cons_succ, Act.put, List.setIfInBounds_toArray, List.set_cons_zero, List.set_cons_succ] at hK
        obtain ⟨e1, _⟩ := hd
        have hk9 := hS.1
        rw [hL] at hk9
        have hu := hS.2.2.out
        rw [hL] at hu
        have h2 := Blk.row hk9 [.int .i64 (y.toNat : Int), .int .u64 (n : Int), .int .i64 (p.toNat : Int), .bool fb, .slice A1 n1 c1, .slice A2 n2 c2]
        have h3 := below_setRow hS.2.1 (Nat.le_refl _) #[.int .i64 (y.toNat : Int), .int .u64 (n : Int), .int .i64 (p.toNat : Int), .bool fb, .slice A1 n1 c1, .slice A2 n2 c2]
        refine wanted_go2 rfl ?_
        refine wp_store_row 44 _ _ rfl w.heap.size #[.int .i64 (y.toNat : Int), .int .u64 (n : Int), .int .i64 (p.toNat : Int), .bool fb, .slice A1 n1 c1, .slice A2 n2 c2] rfl e1 44 #[.int .i64 0, .int .u64 0, .int .i64 0, .bool false, .slice none 0 0, .slice none 0 0] hk9 kREP rfl (by simp [Value.oneCell']) ?_
        exact hK.out undef _ ⟨⟨h2, h3, hide (by rw [hu]; rfl)⟩, trivial, trivial⟩
      · intro L hL hcl v u hS hd K' hK
        simp only [waited, List.toList_toArray, Region.binds, rel, List.getD_cons_zero, List.getD_cons_succ, true_imp_iff, and_true] at hd
        simp only [rel, List.getD_cons_zero, List.getD_cons_succ, Act.put, List.setIfInBounds_toArray, List.set_cons_zero, List.set_cons_succ] at hK
        try simp only [hd] at hK
        go_simp
        exact hK.out _ _ ⟨hS, trivial, rfl⟩
    · rintro v u hS hR
      simp only [holdAll, List.size_toArray, List.length_cons, List.length_nil, Nat.reduceAdd, rel, List.getD_cons_zero, List.getD_cons_succ] at hR
      obtain ⟨-, h15⟩ := hR
      simp only [h15]
      clear h15
      obtain ⟨k6, hb6, hu⟩ := hS
      replace k6 : Blk u w.heap.size [.int .i64 (y.toNat : Int), .int .u64 (n : Int), .int .i64 (p.toNat : Int), .bool fb, .slice A1 n1 c1, .slice A2 n2 c2] 44 := k6
      have hu' : u = w4.drew.setRow w.heap.size #[.int .i64 (y.toNat : Int), .int .u64 (n : Int), .int .i64 (p.toNat : Int), .bool fb, .slice A1 n1 c1, .slice A2 n2 c2] := hu.out
      clear hu
      have hld : (loadVar 44 ⟨w.heap.size, 0, none⟩).run Try.prog u = .ok (.agg #[.int .i64 (y.toNat : Int), .int .u64 (n : Int), .int .i64 (p.toNat : Int), .bool fb, .slice A1 n1 c1, .slice A2 n2 c2]) u := run_loadVar_row u w.heap.size 44 44 #[.int .i64 (y.toNat : Int), .int .u64 (n : Int), .int .i64 (p.toNat : Int), .bool fb, .slice A1 n1 c1, .slice A2 n2 c2] (0, 0) _ k6 Try.underlying44 rfl kREP
      go_wp2
      refine bodyPost_ret (v := .tuple #[.agg #[.int .i64 (y.toNat : Int), .int .u64 (n : Int), .int .i64 (p.toNat : Int), .bool fb, .slice A1 n1 c1, .slice A2 n2 c2], .int .i64 0]) (row_ret2 rfl _ _ _ _ _ rfl hld rfl) rfl ?_
      refine ⟨⟨_, by rw [HYY.out]; rfl, ?_⟩, hb6⟩
      rw [HYY.out, hu']
      rw [hn1.out] at rr1'
      rw [hn2.out] at rr2'
      rw [hn1.out, hn2.out]
      have g1 : RowR w2 w4.drew _ a := rr1'.keep (Nat.le_refl _) (fun b _ _ => rfl)
      have g2 : RowR w3 w4.drew _ bb := rr2'.keep (Nat.le_refl _) (fun b _ _ => rfl)
      exact ⟨_, _, rfl, (g1.set hs2 _).base (Nat.le_of_lt hs2), (g2.set hs3 _).base (Nat.le_of_lt hs3)⟩
end Go.Proofs.Ytiodfbbgbnbdpaa
