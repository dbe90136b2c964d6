/- wal.Lay. -/
import Derived.Test.YtpfbmmeipojodaaGK
import Derived.Test.YtpfbmmeipojodaaRecSectors
namespace Go.Proofs.Ytpfbmmeipojodaa
set_option linter.unusedSimpArgs false
set_option linter.unusedVariables false
open Go.RowKit
/-- A put's function value, its own number in a block. -/
def LayAt (W : World) (bf bl : Nat) (v : Value) (i : Nat) : Prop := ∃ bi, v = .func (.func 47) #[] #[.pointer (some ⟨bf, 0, none⟩), .pointer (some ⟨bi, 0, none⟩), .pointer (some ⟨bl, 0, none⟩)] ∧ Blk W bi [.int .i64 (i : Int)] 3
theorem LayAt.below {W W' : World} {bf bl i : Nat} {v : Value} (h : LayAt W bf bl v i) (hb : Below W.heap.size W W') : LayAt W' bf bl v i := by
  obtain ⟨bi, e, hk⟩ := h
  exact ⟨bi, e, hk.below hb⟩
theorem lies_blk {W : World} {g n : Nat} {vs : List Value} {t : TypeId} (h : Blk W g vs t) (hn : vs.length = n) : Lies W (some ⟨g, 0, none⟩) n 1 vs :=
  ⟨by omega, fun _ => ⟨g, 0, rfl, fun j u hu => by rw [h.cell, Nat.zero_add]; exact hu⟩⟩
theorem lay_fns {u : World} {bf bl a n c : Nat} {A : Option Addr} {l : List ByteArray} {vs : List Value} {p : Value} (cf : u.cell? ⟨bf, 0, none⟩ = some (.int .i64 (a : Int))) (cl : u.cell? ⟨bl, 0, none⟩ = some (.slice A n c)) (hl : Texts u A l) (hn : l.length = n) (h1 : 1 ≤ n) (hA : a + n ≤ 1000000)
    (hv : vs.length = n - 1) (hvs : ∀ (j : Nat) (v : Value), vs[j]? = some v → LayAt u bf bl v (j + 1)) (hp : LayAt u bf bl p 0) :
    ∀ (i : Nat) (v : Value) (s : Stp), (vs ++ [.func (.func 51) #[] #[], p, .func (.func 51) #[] #[]])[i]? = some v → (laySt a l)[i]? = some s → StpFn u v s := by
  intro i v s h h'
  have hpl : (putsSt a l).length = n - 1 := by rw [putsSt_length, hn]
  rcases Nat.lt_or_ge i (n - 1) with hi | hi
  · rw [List.getElem?_append_left (by omega)] at h
    rw [laySt, List.getElem?_append_left (by omega)] at h'
    obtain ⟨bi, rfl, hk⟩ := hvs i v h
    have : s = .put (a + (i + 1)) (l.getD (i + 1) ⟨#[]⟩) := by
      rw [putsSt, List.getElem?_map, List.getElem?_range (by omega)] at h'
      simpa using h'.symm
    subst this
    exact stpFn_put u bf bi bl a (i + 1) A n c l cf (by rw [hk.cell]; rfl) cl hl hn (by omega) hA
  · obtain ⟨j, rfl⟩ : ∃ j, i = n - 1 + j := ⟨i - (n - 1), by omega⟩
    rw [List.getElem?_append_right (by omega), hv, Nat.add_sub_cancel_left] at h
    rw [laySt, List.getElem?_append_right (by omega), hpl, Nat.add_sub_cancel_left, lastSt] at h'
    match j, h, h' with
    | 0, h, h' =>
      cases h
      cases h'
      exact stpFn_sync u
    | 1, h, h' =>
      cases h
      cases h'
      obtain ⟨bi, rfl, hk⟩ := hp
      exact stpFn_put u bf bi bl a 0 A n c l cf (by rw [hk.cell]; rfl) cl hl hn (by omega) hA
    | 2, h, h' =>
      cases h
      cases h'
      exact stpFn_sync u
    | j + 3, h, h' => simp at h
set_option maxRecDepth 100000 in
set_option maxHeartbeats 8000000 in
theorem lay_w (vd : Value) (d : Dk) (a : Nat) (A : Option Addr) (n c : Nat) (l : List ByteArray) (w : World) (hd : DkIs w vd d) (ht : Texts w A l) (hn : l.length = n) (h1 : 1 ≤ n) (hA : a + n ≤ 9000) (hnc : n ≤ c) :
    Calls Try.prog 26 #[vd, .int .i64 (a : Int), .slice A n c] w (DkRet (layD d a l) (layE d a l) w) := by
  obtain ⟨A1, c1, A2, c2, rfl, h2, h3, hl1, hl2, hf1, hf2⟩ := hd
  have hmf : ∀ fn first cap w, (Instr.makeFunc fn first cap).run Try.prog w = .ok (.func fn first cap) w := fun _ _ _ _ => rfl
  obtain ⟨j0, hj, hy0, hy1, hy2⟩ := info_parts Try.info93
  obtain ⟨i0, hi, hx0, hx1, hx2⟩ := info_parts Try.info9
  obtain ⟨A', HA'⟩ := named (if c = 1 then A else A.map (·.add 1))
  obtain ⟨m, Hm⟩ := named (n - 1)
  have hsl : ∀ W, (Instr.slice 22 (.slice A n c) (some (.int .i64 1)) none none).run Try.prog W = .ok (.slice A' m (c - 1)) W := fun W => by
    have hso : (sizeOf 9).run Try.prog W = .ok 1 W := by simp [sizeOf, typeInfo, hi, hx1]
    have hs := run_slice_l (P := Try.prog) W 22 A n c (by kernel_rfl) .i64 1 (by decide) (by omega)
    rw [hs, show Try.prog.elem 22 = 9 by kernel_rfl, hso]
    simp only [Result.andThen, sliced]
    rw [HA'.out, Hm.out]
    by_cases hc : c = 1
    · simp [hc]
    · simp [hc]
  have hD0 : Hid (DkIs w (.agg #[.slice A1 d.secs.length c1, .slice A2 d.pend.length c2, .bool d.off, .int .i64 d.fuse]) d) := ⟨A1, c1, A2, c2, rfl, h2, h3, hl1, hl2, hf1, hf2⟩
  obtain ⟨D, HD⟩ := named (layD d a l)
  obtain ⟨E, HE⟩ := named (layE d a l)
  obtain ⟨w1, Hw1⟩ := named (w.alloc (.cells #[.slice A1 d.secs.length c1, .slice A2 d.pend.length c2, .bool d.off, .int .i64 d.fuse] 28))
  obtain ⟨w2, Hw2⟩ := named (w1.alloc (.cells #[.int .i64 (a : Int)] 3))
  obtain ⟨w3, Hw3⟩ := named (w2.alloc (.cells #[.slice A n c] 22))
  have z1 : w1.heap.size = w.heap.size + 1 := by rw [Hw1.out]; simp
  have z2 : w2.heap.size = w.heap.size + 1 + 1 := by rw [Hw2.out]; simp [z1]
  have z3 : w3.heap.size = w.heap.size + 1 + 1 + 1 := by rw [Hw3.out]; simp [z2]
  have k0 := (((Blk.new w [.slice A1 d.secs.length c1, .slice A2 d.pend.length c2, .bool d.off, .int .i64 d.fuse] 28).alloc (.cells #[.int .i64 (a : Int)] 3)).alloc (.cells #[.slice A n c] 22)).alloc (.cells #[.slice none 0 0, .slice none 0 0, .bool false, .int .i64 0] 28)
  rw [← Hw1.out, ← Hw2.out, ← Hw3.out] at k0
  have k1 := ((Blk.new w1 [.int .i64 (a : Int)] 3).alloc (.cells #[.slice A n c] 22)).alloc (.cells #[.slice none 0 0, .slice none 0 0, .bool false, .int .i64 0] 28)
  rw [← Hw2.out, ← Hw3.out, z1] at k1
  have k2 := (Blk.new w2 [.slice A n c] 22).alloc (.cells #[.slice none 0 0, .slice none 0 0, .bool false, .int .i64 0] 28)
  rw [← Hw3.out, z2] at k2
  have k3 := Blk.new w3 [.slice none 0 0, .slice none 0 0, .bool false, .int .i64 0] 28
  rw [z3] at k3
  have b0 := bt (bt (bt (below_alloc w (.cells #[.slice A1 d.secs.length c1, .slice A2 d.pend.length c2, .bool d.off, .int .i64 d.fuse] 28)) (below_alloc _ (.cells #[.int .i64 (a : Int)] 3))) (below_alloc _ (.cells #[.slice A n c] 22))) (below_alloc _ (.cells #[.slice none 0 0, .slice none 0 0, .bool false, .int .i64 0] 28))
  rw [← Hw1.out, ← Hw2.out, ← Hw3.out] at b0
  have y2 := k2.cell 0
  rw [Hw3.out, Hw2.out, Hw1.out] at y2
  clear z1 z2 z3 h2 h3
  go_enter Try.func26, Try.ntmps26
  go_wp2_with fail
  rw [← Hw1.out, ← Hw2.out, ← Hw3.out]
  clear y2 hmf hsl
  obtain ⟨W, HW⟩ := named (w3.alloc (.cells #[.slice none 0 0, .slice none 0 0, .bool false, .int .i64 0] 28))
  rw [← HW.out] at k0 k1 k2 k3 b0 ⊢
  clear HW Hw1 Hw2 Hw3
  go_loopw [9, 15] (fun x i wr => ∃ (k : Nat) (vs : List Value), k ≤ m ∧ i = .int .i64 (k : Int) ∧ vs.length = k ∧ wr.ownsRow W.heap.size 93 1 x k vs ∧ (∀ u ∈ vs, u.oneCell' = true) ∧ (∀ (j : Nat) (v : Value), vs[j]? = some v → LayAt wr (w.heap.size + 1) (w.heap.size + 1 + 1) v (j + 1)) ∧ Below W.heap.size W wr) (fun _ i _ => m - (intOf i).toNat)
  case atStart => exact ⟨0, [], Nat.zero_le _, rfl, rfl, World.ownsRow_nil _ _ _ _, by simp, by simp, Below.refl _ _⟩
  case round =>
    obtain ⟨k, vs, hk, rfl, hvl, hO, ho9, hvs, hbW⟩ := hrel
    have m0 := k0.below hbW
    have m1 := k1.below hbW
    have m2 := k2.below hbW
    have m3 := k3.below hbW
    have hbw := bt b0 hbW
    by_cases hlt : k < m
    · have hltI : (k : Int) < (m : Int) := by omega
      have Hvl := hide hvl
      have hkb : k ≤ 9000 := by have := Hm.out; omega
      clear hvl
      go_wp2_with fail
      refine (lay1_w _ _ _ _).mono ?_
      rintro e w4 ⟨rfl, rfl⟩
      have hO2 := own_below hO (bt (below_alloc wr (.cells #[.int .i64 ((k : Int) + 1)] 3)) (below_alloc _ (.cells #[.func (.func 47) #[] #[.pointer (some ⟨w.heap.size + 1, 0, none⟩), .pointer (some ⟨wr.heap.size, 0, none⟩), .pointer (some ⟨w.heap.size + 1 + 1, 0, none⟩)]] 93)))
      have hWs := hbW.size
      have hnb := Blk.new (wr.alloc (.cells #[.int .i64 ((k : Int) + 1)] 3)) [.func (.func 47) #[] #[.pointer (some ⟨w.heap.size + 1, 0, none⟩), .pointer (some ⟨wr.heap.size, 0, none⟩), .pointer (some ⟨w.heap.size + 1 + 1, 0, none⟩)]] 93
      rw [show (wr.alloc (.cells #[.int .i64 ((k : Int) + 1)] 3)).heap.size = wr.heap.size + 1 by simp] at hnb
      go_wp2_with (at_builtin; refine wpList_append_lies _ rfl (.tmp 18) (.tmp 23) _ rfl W.heap.size 93 j0 _ 1 8 Try.underlying96 hj hy0 hy1 hy2 rfl (by omega) _ k _ rfl hO2 ⟨wr.heap.size + 1, 0, none⟩ 1 1 [.func (.func 47) #[] #[.pointer (some ⟨w.heap.size + 1, 0, none⟩), .pointer (some ⟨wr.heap.size, 0, none⟩), .pointer (some ⟨w.heap.size + 1 + 1, 0, none⟩)]] rfl rfl (World.news_of_block (fr := (0, 0)) hnb) (by simp [Value.oneCell']) (by omega) (by simp only [maxLen]; omega) (by omega) (by simp; omega) (wr.heap.size + 1 + 1) (by simp) ?_; intro gg cap w6 hown1 hgrow hat hlt9)
      have hvl := Hvl.out
      have hb5 := bt (below_alloc wr (.cells #[.int .i64 ((k : Int) + 1)] 3)) (below_alloc _ (.cells #[.func (.func 47) #[] #[.pointer (some ⟨w.heap.size + 1, 0, none⟩), .pointer (some ⟨wr.heap.size, 0, none⟩), .pointer (some ⟨w.heap.size + 1 + 1, 0, none⟩)]] 93))
      have hW6 : Below W.heap.size W w6 := (bt hbW hb5).grown hgrow (by simp; omega) (fun k' e => (World.ownsRow.lt hO2 k' e).1)
      have hlay : ∀ (j i : Nat) (v : Value), LayAt wr (w.heap.size + 1) (w.heap.size + 1 + 1) v i → LayAt w6 (w.heap.size + 1) (w.heap.size + 1 + 1) v i := fun j i v ⟨bi, e, hk⟩ => ⟨bi, e, blk_grown (hk.below hb5) hO2 hgrow (by decide)⟩
      have hnew : LayAt w6 (w.heap.size + 1) (w.heap.size + 1 + 1) (.func (.func 47) #[] #[.pointer (some ⟨w.heap.size + 1, 0, none⟩), .pointer (some ⟨wr.heap.size, 0, none⟩), .pointer (some ⟨w.heap.size + 1 + 1, 0, none⟩)]) (k + 1) :=
        ⟨wr.heap.size, rfl, blk_grown ((Blk.new wr [.int .i64 ((k : Int) + 1)] 3).alloc _) hO2 hgrow (by decide)⟩
      go_roundw
      case rel => exact ⟨k + 1, vs ++ [.func (.func 47) #[] #[.pointer (some ⟨w.heap.size + 1, 0, none⟩), .pointer (some ⟨wr.heap.size, 0, none⟩), .pointer (some ⟨w.heap.size + 1 + 1, 0, none⟩)]], by omega, by go_num, by rw [List.length_append]; simp [Hvl.out], hown1, (fun u hu => by
          rcases List.mem_append.1 hu with h | h
          · exact ho9 u h
          · simp only [List.mem_singleton] at h; subst h; simp [Value.oneCell']), (fun j v hj => by
          rcases Nat.lt_or_ge j vs.length with h | h
          · rw [List.getElem?_append_left h] at hj
            exact hlay j _ _ (hvs j v hj)
          · rw [List.getElem?_append_right h] at hj
            have hj0 : j - vs.length = 0 := by
              rcases Nat.eq_zero_or_pos (j - vs.length) with e | e
              · exact e
              · rw [List.getElem?_eq_none (by simp; omega)] at hj; cases hj
            rw [hj0] at hj
            cases hj
            have : j = k := by have := Hvl.out; omega
            subst this
            exact hnew), hW6⟩
      case measure => simp [intOf]; omega
    · obtain rfl : k = m := by omega
      have hge : ¬ ((k : Int) < (k : Int)) := by omega
      obtain ⟨A9, c9, rfl, hc9, _, l9, _⟩ := Lies.of_own hO
      have hk9 : k ≤ 9000 := by have := Hm.out; omega
      have hst : ∀ (u : World) (A' : Option Addr) (c' : Nat) (p : Value), Below wr.heap.size wr u → Lies u A' (k + 3) 1 (vs ++ [.func (.func 51) #[] #[], p, .func (.func 51) #[] #[]]) → LayAt u (w.heap.size + 1) (w.heap.size + 1 + 1) p 0 →
          Calls Try.prog 49 #[.agg #[.slice A1 d.secs.length c1, .slice A2 d.pend.length c2, .bool d.off, .int .i64 d.fuse], .slice A' (k + 3) c'] u fun e w' => ∃ v2, e = .returned (.tuple #[v2, .int .i64 E]) ∧ DkIs w' v2 D ∧ Below u.heap.size u w' := fun u A' c' p hu hl hp => by
        have hbu := hbw.trans (hu.mono hbw.size)
        have := steps_w _ d A' (k + 3) c' _ (laySt a l) u (hD0.out.below hbu) hl (by rw [laySt, List.length_append, putsSt_length, hn, ← Hm.out]; rfl) (by omega)
          (lay_fns (bf := w.heap.size + 1) (bl := w.heap.size + 1 + 1) (a := a) (n := n) (c := c) (A := A) (l := l) (by rw [(m1.below hu).cell]; rfl) (by rw [(m2.below hu).cell]; rfl) (ht.below hbu) hn h1 (by omega) (by rw [hvl, Hm.out]) (fun j v hj => (hvs j v hj).below hu) hp)
        rw [show runD d (laySt a l) = D by rw [HD.out]; rfl, show runE d (laySt a l) = E by rw [HE.out]; rfl] at this
        exact this
      have Hvl := hide hvl
      clear hvl hn hA hnc ht
      go_wp2_with fail
      refine region_tail 10 _ (fun u => Below wr.heap.size wr u) (fun u u' => Below u.heap.size u u')
        (rel [fun v _ => v = .agg #[.slice A1 d.secs.length c1, .slice A2 d.pend.length c2, .bool d.off, .int .i64 d.fuse],
          fun v _ => v = .slice A9 k c9,
          fun v _ => v = .func (.func 46) #[] #[.pointer (some ⟨w.heap.size + 1, 0, none⟩), .pointer (some ⟨w.heap.size + 1 + 1, 0, none⟩)],
          fun v u => LayAt u (w.heap.size + 1) (w.heap.size + 1 + 1) v 0,
          fun v u => ∃ g p, v = .slice (some ⟨g, 0, none⟩) 3 3 ∧ Blk u g [.func (.func 51) #[] #[], p, .func (.func 51) #[] #[]] 93 ∧ LayAt u (w.heap.size + 1) (w.heap.size + 1 + 1) p 0,
          fun v u => ∃ g g2 p, v = .slice (some ⟨g, 0, none⟩) 2 2 ∧ Blk u g [.slice A9 k c9, .slice (some ⟨g2, 0, none⟩) 3 3] 96 ∧ Blk u g2 [.func (.func 51) #[] #[], p, .func (.func 51) #[] #[]] 93 ∧ LayAt u (w.heap.size + 1) (w.heap.size + 1 + 1) p 0,
          fun v u => ∃ A c p, v = .slice A (k + 3) c ∧ Lies u A (k + 3) 1 (vs ++ [.func (.func 51) #[] #[], p, .func (.func 51) #[] #[]]) ∧ LayAt u (w.heap.size + 1) (w.heap.size + 1 + 1) p 0,
          fun v u => ∃ v2, v = .tuple #[v2, .int .i64 E] ∧ DkIs u v2 D,
          fun v u => DkIs u v D,
          fun v _ => v = .int .i64 E])
        (by kernel_rfl) (by kernel_rfl) (by kernel_rfl) (by decide) (fun v => by simp only [putsV, List.take_succ_cons, List.take_zero, Act.put, List.toList_toArray, List.setIfInBounds_toArray, List.set_cons_zero, List.set_cons_succ, Nat.reduceAdd, Nat.zero_add]; rfl) ?_ (Below.refl _ _).drew ?_ ?_
      · intro j x u u' hb h
        match j with
        | 0 => exact h
        | 1 => exact h
        | 2 => exact h
        | 3 => exact h.below hb
        | 4 => exact (let ⟨g, p, e, hg, hp⟩ := h; ⟨g, p, e, hg.below hb, hp.below hb⟩)
        | 5 => exact (let ⟨g, g2, p, e, hg, hg2, hp⟩ := h; ⟨g, g2, p, e, hg.below hb, hg2.below hb, hp.below hb⟩)
        | 6 => exact (let ⟨A, c, p, e, hg, hp⟩ := h; ⟨A, c, p, e, Lies.below hg hb, hp.below hb⟩)
        | 7 => exact (let ⟨v2, e, hd2⟩ := h; ⟨v2, e, hd2.below hb⟩)
        | 8 => exact h.below hb
        | 9 => exact h
        | _ + 10 => trivial
      · refine ⟨?_, ?_, ?_, ?_, ?_, ?_, ?_, ?_, ?_, ?_, trivial⟩
        · intro v u hS hd K' hK
          simp only [waited, List.toList_toArray, Region.binds, rel, List.getD_cons_zero, List.getD_cons_succ, true_imp_iff, and_true] at hd
          simp only [rel, List.getD_cons_zero, List.getD_cons_succ, Act.put, List.setIfInBounds_toArray, List.set_cons_zero, List.set_cons_succ] at hK
          try simp only [hd] at hK
          have hS1 := hS
          have x0 := (m0.below hS1).cell 0
          have x1 := (m0.below hS1).cell 1
          have x2 := (m0.below hS1).cell 2
          have x3 := (m0.below hS1).cell 3
          go_simp
          exact hK.out _ _ ⟨hS1, Below.refl _ _, rfl⟩
        · intro v u hS hd K' hK
          simp only [waited, List.toList_toArray, Region.binds, rel, List.getD_cons_zero, List.getD_cons_succ, true_imp_iff, and_true] at hd
          simp only [rel, List.getD_cons_zero, List.getD_cons_succ, Act.put, List.setIfInBounds_toArray, List.set_cons_zero, List.set_cons_succ] at hK
          try simp only [hd] at hK
          have hS1 := hS
          go_simp
          exact hK.out _ _ ⟨hS1, Below.refl _ _, rfl⟩
        · intro v u hS hd K' hK
          simp only [waited, List.toList_toArray, Region.binds, rel, List.getD_cons_zero, List.getD_cons_succ, true_imp_iff, and_true] at hd
          simp only [rel, List.getD_cons_zero, List.getD_cons_succ, Act.put, List.setIfInBounds_toArray, List.set_cons_zero, List.set_cons_succ] at hK
          try simp only [hd] at hK
          have hS1 := hS
          go_simp
          exact hK.out _ _ ⟨hS1, Below.refl _ _, rfl⟩
        · intro v u hS hd K' hK
          simp only [waited, List.toList_toArray, Region.binds, rel, List.getD_cons_zero, List.getD_cons_succ, true_imp_iff, and_true] at hd
          simp only [rel, List.getD_cons_zero, List.getD_cons_succ, Act.put, List.setIfInBounds_toArray, List.set_cons_zero, List.set_cons_succ] at hK
          try simp only [hd] at hK
          have hS1 := hS
          go_simp
          refine (lay1_w 0 _ _ _).mono ?_
          rintro e w2 ⟨rfl, rfl⟩
          exact hK.out _ _ ⟨bt hS1 (below_alloc _ _), below_alloc _ _, ⟨_, rfl, Blk.new _ _ _⟩⟩
        · intro v u hS hd K' hK
          simp only [waited, List.toList_toArray, Region.binds, rel, List.getD_cons_zero, List.getD_cons_succ, true_imp_iff, and_true] at hd
          simp only [rel, List.getD_cons_zero, List.getD_cons_succ, Act.put, List.setIfInBounds_toArray, List.set_cons_zero, List.set_cons_succ] at hK
          try simp only [hd] at hK
          have hS1 := hS
          obtain ⟨bi, e3, hbi⟩ := hd
          simp only [e3] at hK
          go_simp
          exact hK.out _ _ ⟨bt hS1 (below_alloc _ _), below_alloc _ _, ⟨_, _, rfl, Blk.new _ _ _, ⟨bi, rfl, hbi.alloc _⟩⟩⟩
        · intro v u hS hd K' hK
          simp only [waited, List.toList_toArray, Region.binds, rel, List.getD_cons_zero, List.getD_cons_succ, true_imp_iff, and_true] at hd
          simp only [rel, List.getD_cons_zero, List.getD_cons_succ, Act.put, List.setIfInBounds_toArray, List.set_cons_zero, List.set_cons_succ] at hK
          try simp only [hd] at hK
          have hS1 := hS
          obtain ⟨hd1, g2, p, e2, hg2, hp⟩ := hd
          simp only [hd1, e2] at hK
          go_simp
          exact hK.out _ _ ⟨bt hS1 (below_alloc _ _), below_alloc _ _, ⟨_, _, _, rfl, Blk.new _ _ _, hg2.alloc _, hp.below (below_alloc _ _)⟩⟩
        · intro v u hS hd K' hK
          simp only [waited, List.toList_toArray, Region.binds, rel, List.getD_cons_zero, List.getD_cons_succ, true_imp_iff, and_true] at hd
          simp only [rel, List.getD_cons_zero, List.getD_cons_succ, Act.put, List.setIfInBounds_toArray, List.set_cons_zero, List.set_cons_succ] at hK
          try simp only [hd] at hK
          have hS1 := hS
          obtain ⟨⟨g, g2, p, e2, hg, hg2, hp⟩, _⟩ := hd
          simp only [e2] at hK
          go_simp
          refine (concat_w g A9 (some ⟨g2, 0, none⟩) k c9 3 3 vs _ u hg (l9.below hS1) (lies_blk hg2 rfl) ho9 (by obtain ⟨bi, hbe, hbk⟩ := hp; rw [hbe]; simp [Value.oneCell']) (by omega) (by omega) (by omega)).mono ?_
          rintro e w2 ⟨⟨A', c', rfl, hlies⟩, hb2⟩
          exact hK.out _ _ ⟨bt hS1 hb2, hb2, ⟨_, _, _, rfl, hlies, hp.below hb2⟩⟩
        · intro v u hS hd K' hK
          simp only [waited, List.toList_toArray, Region.binds, rel, List.getD_cons_zero, List.getD_cons_succ, true_imp_iff, and_true] at hd
          simp only [rel, List.getD_cons_zero, List.getD_cons_succ, Act.put, List.setIfInBounds_toArray, List.set_cons_zero, List.set_cons_succ] at hK
          try simp only [hd] at hK
          have hS1 := hS
          obtain ⟨hd0, _, A', c', p, e2, hlies, hp⟩ := hd
          simp only [hd0, e2] at hK
          go_simp
          refine (hst u A' c' p hS1 hlies hp).mono ?_
          rintro e w2 ⟨v2, rfl, hd2, hb2⟩
          exact hK.out _ _ ⟨bt hS1 hb2, hb2, ⟨_, rfl, hd2⟩⟩
        · intro v u hS hd K' hK
          simp only [waited, List.toList_toArray, Region.binds, rel, List.getD_cons_zero, List.getD_cons_succ, true_imp_iff, and_true] at hd
          simp only [rel, List.getD_cons_zero, List.getD_cons_succ, Act.put, List.setIfInBounds_toArray, List.set_cons_zero, List.set_cons_succ] at hK
          try simp only [hd] at hK
          have hS1 := hS
          obtain ⟨v2, e2, hd2⟩ := hd
          simp only [e2] at hK
          go_simp
          exact hK.out _ _ ⟨hS1, Below.refl _ _, hd2⟩
        · intro v u hS hd K' hK
          simp only [waited, List.toList_toArray, Region.binds, rel, List.getD_cons_zero, List.getD_cons_succ, true_imp_iff, and_true] at hd
          simp only [rel, List.getD_cons_zero, List.getD_cons_succ, Act.put, List.setIfInBounds_toArray, List.set_cons_zero, List.set_cons_succ] at hK
          try simp only [hd] at hK
          have hS1 := hS
          obtain ⟨v2, e2, hd2⟩ := hd
          simp only [e2] at hK
          go_simp
          exact hK.out _ _ ⟨hS1, Below.refl _ _, rfl⟩
      · rintro v u hS1 hR
        simp only [holdAll, List.size_toArray, List.length_cons, List.length_nil, Nat.reduceAdd, rel, List.getD_cons_zero, List.getD_cons_succ] at hR
        simp only [List.toList_toArray, List.drop_succ_cons, List.drop_zero]
        obtain ⟨⟨hR0, h9⟩, h10⟩ := hR
        obtain ⟨P1, p1, P2, p2, h9, t1, t2, q1, q2, f1, f2⟩ := h9
        simp only [h9, h10]
        clear h9 h10 hR0
        have mz := m3.below hS1
        have r0 := mz.cell 0
        have r1 := mz.cell 1
        have r2 := mz.cell 2
        have r3 := mz.cell 3
        have z0 := mz.free 0
        have z1 := mz.free 1
        have z2 := mz.free 2
        have z3 := mz.free 3
        refine seqOps_cons fun K hK => ?_
        go_simp
        refine hK.out _ _ ?_
        clear hK
        refine seqOps_cons fun K2 hK2 => ?_
        go_simp
        refine hK2.out _ _ (seqOps_nil ?_)
        clear hK2
        go_wp2_with fail
        refine bodyPost_ret (v := .tuple #[.agg #[.slice P1 D.secs.length p1, .slice P2 D.pend.length p2, .bool D.off, .int .i64 D.fuse], .int .i64 E]) (by simp [results, Try.results26, go_sem, r0, r1, r2, r3]) rfl ?_
        exact dkRet_of (hand_on t1 t2 q1 q2 f1 f2 mz (hbw.trans (hS1.mono hbw.size)) (by omega)) HD.out.symm HE.out.symm
end Go.Proofs.Ytpfbmmeipojodaa
