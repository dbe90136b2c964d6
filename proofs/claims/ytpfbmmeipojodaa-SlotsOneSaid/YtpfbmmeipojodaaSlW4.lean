/- The walk of SlotsTurns. -/
import Derived.Test.YtpfbmmeipojodaaSlSaved
import Derived.Test.YtpfbmmeipojodaaGP
import Derived.Test.YtpfbmmeipojodaaFlat4
namespace Go.Proofs.Ytpfbmmeipojodaa
set_option linter.unusedSimpArgs false
set_option linter.unusedVariables false
open Go.RowKit Go.Shelf
open Crc
theorem four_in (w : World) {A1 A2 : Option Addr} {c1 c2 : Nat} {d : Dk} (h : DkIs w (.agg #[.slice A1 d.secs.length c1, .slice A2 d.pend.length c2, .bool d.off, .int .i64 d.fuse]) d) (s : Int) (x : Int) (S : ByteArray) :
    ∃ W, Hid (W = (((w.alloc (.cells #[.int .i64 0, .int .i64 s] 33)).alloc (.cells #[.int .i64 s, .int .i64 s] 33)).alloc (.cells #[.slice A1 d.secs.length c1, .slice A2 d.pend.length c2, .bool d.off, .int .i64 d.fuse] 28)).alloc (.cells #[.int .u64 x, .string S] 36)) ∧
      Blk W w.heap.size [.int .i64 0, .int .i64 s] 33 ∧ Blk W (w.heap.size + 1) [.int .i64 s, .int .i64 s] 33 ∧ Box W (w.heap.size + 1 + 1) A1 c1 A2 c2 d ∧ Blk W (w.heap.size + 1 + 1 + 1) [.int .u64 x, .string S] 36 ∧ Below w.heap.size w W ∧ W.heap.size = w.heap.size + 1 + 1 + 1 + 1 := by
  have k0 := Blk.new w [.int .i64 0, .int .i64 s] 33
  have k1 := Blk.new (w.alloc (.cells #[.int .i64 0, .int .i64 s] 33)) [.int .i64 s, .int .i64 s] 33
  rw [show (w.alloc (.cells #[.int .i64 0, .int .i64 s] 33)).heap.size = w.heap.size + 1 by simp] at k1
  have b := Box.new ((w.alloc (.cells #[.int .i64 0, .int .i64 s] 33)).alloc (.cells #[.int .i64 s, .int .i64 s] 33)) (h.below (bt (below_alloc _ _) (below_alloc _ _)))
  rw [show ((w.alloc (.cells #[.int .i64 0, .int .i64 s] 33)).alloc (.cells #[.int .i64 s, .int .i64 s] 33)).heap.size = w.heap.size + 1 + 1 by simp] at b
  have k3 := Blk.new (((w.alloc (.cells #[.int .i64 0, .int .i64 s] 33)).alloc (.cells #[.int .i64 s, .int .i64 s] 33)).alloc (.cells #[.slice A1 d.secs.length c1, .slice A2 d.pend.length c2, .bool d.off, .int .i64 d.fuse] 28)) [.int .u64 x, .string S] 36
  rw [show (((w.alloc (.cells #[.int .i64 0, .int .i64 s] 33)).alloc (.cells #[.int .i64 s, .int .i64 s] 33)).alloc (.cells #[.slice A1 d.secs.length c1, .slice A2 d.pend.length c2, .bool d.off, .int .i64 d.fuse] 28)).heap.size = w.heap.size + 1 + 1 + 1 by simp] at k3
  exact ⟨_, hide rfl, ((k0.alloc _).alloc _).alloc _, (k1.alloc _).alloc _, b.alloc _, k3, bt (bt (bt (below_alloc _ _) (below_alloc _ _)) (below_alloc _ _)) (below_alloc _ _), by simp⟩
set_option maxRecDepth 100000 in
set_option maxHeartbeats 1000000 in
theorem slotsturns_w (size : Int) (A : Option Addr) (ca : Nat) (l : List ByteArray) (w : World) (hsz : -9223372036854775808 ≤ size ∧ size ≤ 9223372036854775807) (hl : Texts w A l) (hll : l.length ≤ 140737488351232) :
    Calls Try.prog 5 #[.int .i64 size, .slice A l.length ca] w fun e w' => e = .returned (.bool true) ∧ Below w.heap.size w w' := by
  have hsd := fun W => saved_w size none 0 [] W hsz (Lies.nil _ _ _) (by simp)
  simp only [List.length_nil] at hsd
  have HSD := hide hsd
  clear hsd
  go_enter Try.func5, Try.ntmps5
  go_wp2_with fail
  refine (lives5_w _).mono ?_
  rintro e w1 ⟨rfl, hb1⟩
  go_wp2_with fail
  refine (HSD.out _).mono ?_
  rintro e w2 ⟨⟨D0, x0, j0, S0, ok, A1, c1, B1, e1, rfl, g1, g2, g3, g4, g5, g6, hok⟩, hb2⟩
  obtain ⟨V, HV, ka, kb, Bd, kz, hb, hz⟩ := four_in w2 ⟨A1, c1, B1, e1, rfl, g1, g2, g3, g4, g5, g6⟩ size (x0 : Int) S0
  have hN : w.heap.size ≤ w2.heap.size := by have := hb1.size; have := hb2.size; omega
  replace hb := bt (bt hb1 hb2) hb
  clear HSD hb1 hb2 g1 g2 g3 g4 g5 g6
  have HOK := hide hok
  clear hok
  cases ok with
  | false =>
    clear HOK kz ka kb Bd
    go_upto_region 4 with fail
    rw [← HV.out]
    clear HV
    go_wp2
    go_ret
    exact ⟨by simp, hb⟩
  | true =>
  obtain ⟨n, rfl, hL, hx0, _, hfu⟩ := HOK.out rfl
  simp only [List.length_nil, Nat.le_zero] at hx0
  have hz0 := hL.zero hx0
  have hL0 : SlOn D0 n ⟨0, (⟨#[]⟩ : ByteArray).data.toList⟩ 1 := by
    have h := hL
    rw [hz0.1, hz0.2] at h
    exact h
  have HL0 := hide (And.intro hL0 hfu)
  have hn := hL.size1
  clear HOK hL hfu hz0 hL0 kz hx0
  by_cases h60 : 60 < l.length
  · have h60' : (60 : Int) < (l.length : Int) := by omega
    clear HL0 ka kb Bd hl
    go_upto_region 4 with fail
    rw [← HV.out]
    clear HV
    go_wp2
    go_ret
    exact ⟨by simp, hb⟩
  have h60' : ¬ (60 : Int) < (l.length : Int) := by omega
  have km := Blk.new V [.int .u64 0, .string ⟨#[]⟩] 36
  replace ka := ka.alloc (.cells #[.int .u64 0, .string ⟨#[]⟩] 36)
  replace kb := kb.alloc (.cells #[.int .u64 0, .string ⟨#[]⟩] 36)
  replace Bd := Bd.alloc (.cells #[.int .u64 0, .string ⟨#[]⟩] 36)
  replace hb := bt hb (below_alloc V (.cells #[.int .u64 0, .string ⟨#[]⟩] 36))
  rw [hz] at km
  go_upto_region 8 with fail
  rw [← HV.out]
  obtain ⟨V1, HV1⟩ := named (V.alloc (.cells #[.int .u64 0, .string ⟨#[]⟩] 36))
  obtain ⟨N, HN⟩ := named w2.heap.size
  rw [← HV1.out] at ka kb Bd km hb ⊢
  rw [← HN.out] at ka kb Bd km hN ⊢
  clear HV HV1 HN hz h60'
  go_loopw [11, 45] (fun c i wr => ∃ (k cnt : Nat) (D : Dk) (x j : Nat) (S : ByteArray) (A1 : Option Addr) (c1 : Nat) (B1 : Option Addr) (e1 : Nat), k ≤ l.length ∧ i = .int .i64 (k : Int) ∧ c = .int .i64 (cnt : Int) ∧ cnt ≤ k ∧ x ≤ 10 * k ∧ 1 - j = cnt % 2 ∧ (x = 0 ↔ cnt = 0) ∧ (SlOn D n ⟨x, S.data.toList⟩ j ∧ D.fuse = -1) ∧ Box wr (N + 1 + 1) A1 c1 B1 e1 D ∧ Blk wr (N + 1 + 1 + 1 + 1) [.int .u64 (x : Int), .string S] 36 ∧ Blk wr N [.int .i64 0, .int .i64 (n : Int)] 33 ∧ Blk wr (N + 1) [.int .i64 (n : Int), .int .i64 (n : Int)] 33 ∧ Below w.heap.size w wr) (fun _ i _ => l.length - (intOf i).toNat)
  case atStart => exact ⟨0, 0, D0, 0, 1, ⟨#[]⟩, A1, c1, B1, e1, by omega, rfl, rfl, by omega, by omega, by omega, by simp, HL0.out, Bd, km, ka, kb, hb⟩
  case round =>
    clear Bd km ka kb hb HL0
    obtain ⟨k, cnt, D, x, j, S, A1, c1, B1, e1, hkl, rfl, rfl, hck, hxk, hpar, hx0, ⟨hL, hfu⟩, Bd, km, ka, kb, hb⟩ := hrel
    have hBlt := Bd.lt
    have hMlt := km.lt
    have hj1 : j ≤ 1 := hL.k1
    by_cases hlt : k < l.length
    case neg =>
      obtain rfl : k = l.length := by omega
      obtain ⟨J, E, hJE, hld⟩ := slLoad_w hL
      have xd := Bd.blk.cell
      have xa := ka.cell
      have xb := kb.cell
      clear hL hfu hl
      go_wp2_with fail
      clear xd xa xb
      refine (hld _ _ Bd.is).mono ?_
      rintro e w8 ⟨rfl, hb8⟩
      have kx := Blk.new w8 [.int .u64 (x : Int), .string S] 36
      replace km := (km.below hb8).alloc (.cells #[.int .u64 (x : Int), .string S] 36)
      replace hb := bt (bt hb hb8) (below_alloc w8 (.cells #[.int .u64 (x : Int), .string S] 36))
      have xx := kx.cell
      have xm := km.cell
      clear hb8 hld Bd ka kb
      rcases hJE with ⟨h0, rfl⟩ | ⟨h0, rfl, rfl⟩
      · have t1 : ¬ (0 : Int) < (cnt : Int) := by have := hx0.1 h0; omega
        clear h0 hx0 hpar hck hxk hj1
        go_wp2
        go_ret
        exact ⟨by first | (simp; omega) | simp, hb⟩
      · have t1 : (0 : Int) < (cnt : Int) := by have : cnt ≠ 0 := fun h => (by omega : ¬ x = 0) (hx0.2 h); omega
        clear h0 hx0 hpar hck hxk hj1
        go_wp2
        go_ret
        exact ⟨by first | (simp; omega) | simp, hb⟩
    obtain ⟨pb, po, rfl, hp⟩ := Texts.at_ (Lies.below hl hb) hlt
    obtain ⟨p, HP⟩ := named l[k]
    rw [← HP.out] at hp
    have hlt' : (k : Int) < (l.length : Int) := by omega
    have hk0 : (0 : Int) ≤ (k : Int) := by omega
    obtain ⟨q, HQ⟩ := named (10 * (k + 1))
    have hwk : IntKind.u64.wrap (k : Int) = (k : Int) := wrap_u64_nat _ (by omega)
    have hwk1 : IntKind.u64.wrap ((k : Int) + 1) = (k : Int) + 1 := wrap_u64_nat (k + 1) (by omega)
    have hsq : 10 * ((k : Int) + 1) = (q : Int) := by rw [HQ.out]; omega
    have hwq : IntKind.u64.wrap (q : Int) = (q : Int) := wrap_u64_nat _ (by rw [HQ.out]; omega)
    have hst := hL.step (x := ⟨q, p.data.toList⟩) [] (by show x < q; rw [HQ.out]; omega) (by show q < 18446744073709551616; rw [HQ.out]; omega)
    have hsv := fun W v hv => slSave_w D (n := n) (by omega) q p W v hv
    obtain ⟨D5, HD5⟩ := named (saveR D 0 n n n ⟨q, p.data.toList⟩).1
    obtain ⟨E5, HE5⟩ := named (saveR D 0 n n n ⟨q, p.data.toList⟩).2
    rw [← HD5.out, ← HE5.out] at hst
    simp only [← HD5.out, ← HE5.out] at hsv
    obtain ⟨J, HJ⟩ := named (1 - j)
    have hst' : (E5 = 0 ∧ SlOn D5 n ⟨q, p.data.toList⟩ J ∧ D5.fuse = -1) ∨ ((E5 = 17 ∨ E5 = 3) ∧ D5 = D) := by
      rcases hst with ⟨a, b, _, c⟩ | ⟨_, a, _⟩ | h
      · exact .inl ⟨a, by rw [HJ.out]; exact b, c hfu⟩
      · exact absurd hfu a
      · exact .inr h
    have HST := hide hst'
    have HL := hide hL
    have HFU := hide hfu
    have HX0 := hide hx0
    have HPAR := hide hpar
    clear HD5 HE5 hst hst' hL hfu HP hx0 hpar
    have kf := Blk.new wr [.int .u64 (q : Int), .string p] 36
    have hFN : (N + 1 + 1 + 1 + 1) < wr.heap.size := by omega
    replace Bd := Bd.alloc (.cells #[.int .u64 (q : Int), .string p] 36)
    replace km := km.alloc (.cells #[.int .u64 (q : Int), .string p] 36)
    replace ka := ka.alloc (.cells #[.int .u64 (q : Int), .string p] 36)
    replace kb := kb.alloc (.cells #[.int .u64 (q : Int), .string p] 36)
    replace hb := bt hb (below_alloc _ (.cells #[.int .u64 (q : Int), .string p] 36))
    go_upto_region 11 with fail
    clear hp hsq hwq hwk hwk1 hk0 hlt'
    obtain ⟨F, HF⟩ := named wr.heap.size
    obtain ⟨W2, HW2⟩ := named (wr.alloc (.cells #[.int .u64 (q : Int), .string p] 36))
    rw [← HF.out] at kf hFN hBlt hMlt ⊢
    rw [← HW2.out] at kf Bd km ka kb hb ⊢
    clear HF HW2
    have bN := Bd.blk
    have xd := Bd.blk.cell
    have xa := ka.cell
    have xb := kb.cell
    have xf := kf.cell
    go_wp2_with fail
    clear xd xa xb xf
    refine (hsv _ _ Bd.is).mono ?_
    rintro e w5 ⟨v5, rfl, ⟨A5, c5, B5, e5, rfl, g1, g2, g3, g4, g5, g6⟩, hb5⟩
    have Be := Box.new w5 ⟨A5, c5, B5, e5, rfl, g1, g2, g3, g4, g5, g6⟩
    have hEF : F < w5.heap.size := by have h1 := hb5.size; have h2 := kf.lt; omega
    replace bN := (bN.below hb5).alloc (.cells #[.slice A5 D5.secs.length c5, .slice B5 D5.pend.length e5, .bool D5.off, .int .i64 D5.fuse] 28)
    replace Bd := (Bd.below hb5).alloc (.cells #[.slice A5 D5.secs.length c5, .slice B5 D5.pend.length e5, .bool D5.off, .int .i64 D5.fuse] 28)
    replace kf := (kf.below hb5).alloc (.cells #[.slice A5 D5.secs.length c5, .slice B5 D5.pend.length e5, .bool D5.off, .int .i64 D5.fuse] 28)
    replace km := (km.below hb5).alloc (.cells #[.slice A5 D5.secs.length c5, .slice B5 D5.pend.length e5, .bool D5.off, .int .i64 D5.fuse] 28)
    replace ka := (ka.below hb5).alloc (.cells #[.slice A5 D5.secs.length c5, .slice B5 D5.pend.length e5, .bool D5.off, .int .i64 D5.fuse] 28)
    replace kb := (kb.below hb5).alloc (.cells #[.slice A5 D5.secs.length c5, .slice B5 D5.pend.length e5, .bool D5.off, .int .i64 D5.fuse] 28)
    replace hb := bt (bt hb hb5) (below_alloc w5 (.cells #[.slice A5 D5.secs.length c5, .slice B5 D5.pend.length e5, .bool D5.off, .int .i64 D5.fuse] 28))
    clear hsv hb5 g1 g2 g3 g4 g5 g6
    go_upto_region 12 with fail
    obtain ⟨E, HEb⟩ := named w5.heap.size
    obtain ⟨W5, HW5⟩ := named (w5.alloc (.cells #[.slice A5 D5.secs.length c5, .slice B5 D5.pend.length e5, .bool D5.off, .int .i64 D5.fuse] 28))
    rw [← HEb.out] at Be hEF ⊢
    rw [← HW5.out] at bN Be Bd kf km ka kb hb ⊢
    clear HEb HW5
    rcases HST.out with ⟨hE, hL5, hf5⟩ | ⟨hE, hD⟩
    · subst hE
      have hsv2 := fun W v hv => slSave_w D5 (n := n) (by omega) q p W v hv
      rw [hL5.again (by show 1 ≤ q; rw [HQ.out]; omega)] at hsv2
      obtain ⟨J', E7, hJE, hld⟩ := slLoad_w hL5
      obtain ⟨_, rfl, rfl⟩ : 1 ≤ q ∧ E7 = 0 ∧ J' = J := by
        rcases hJE with ⟨h, _⟩ | h
        · rw [HQ.out] at h; omega
        · exact h
      have hrem : Int.tmod (cnt : Int) 2 = (J' : Int) := by rw [Int.tmod_eq_emod_of_nonneg (by omega), HJ.out, HPAR.out]; omega
      have HL5 := hide hL5
      have HF5 := hide hf5
      clear HST hL5 hf5 HL HFU hJE Bd
      have xd := Be.blk.cell
      have xa := ka.cell
      have xb := kb.cell
      go_wp2_with fail
      clear xd xa xb
      refine (hld _ _ Be.is).mono ?_
      rintro e w8 ⟨rfl, hb8⟩
      have kx := Blk.new w8 [.int .u64 (q : Int), .string p] 36
      replace bN := (bN.below hb8).alloc (.cells #[.int .u64 (q : Int), .string p] 36)
      replace Be := (Be.below hb8).alloc (.cells #[.int .u64 (q : Int), .string p] 36)
      replace kf := (kf.below hb8).alloc (.cells #[.int .u64 (q : Int), .string p] 36)
      replace km := (km.below hb8).alloc (.cells #[.int .u64 (q : Int), .string p] 36)
      replace ka := (ka.below hb8).alloc (.cells #[.int .u64 (q : Int), .string p] 36)
      replace kb := (kb.below hb8).alloc (.cells #[.int .u64 (q : Int), .string p] 36)
      replace hb := bt (bt hb hb8) (below_alloc w8 (.cells #[.int .u64 (q : Int), .string p] 36))
      clear hld hb8
      go_upto_region 14 with fail
      obtain ⟨W9, HW9⟩ := named (w8.alloc (.cells #[.int .u64 (q : Int), .string p] 36))
      rw [← HW9.out] at bN Be kf km ka kb hb kx ⊢
      clear HW9
      have xx := kx.cell
      have xf := kf.cell
      go_upto_region 16 with fail
      clear xx hrem kx
      have xd := Be.blk.cell
      have xa := ka.cell
      have xb := kb.cell
      go_wp2_with fail
      clear xd xa xb xf
      refine (hsv2 _ _ Be.is).mono ?_
      rintro e w10 ⟨v10, rfl, ⟨A6, c6, B6, e6, rfl, g1, g2, g3, g4, g5, g6⟩, hb10⟩
      replace bN := (bN.below hb10).alloc (.cells #[.slice A6 D5.secs.length c6, .slice B6 D5.pend.length e6, .bool D5.off, .int .i64 D5.fuse] 28)
      replace Be := (Be.below hb10).alloc (.cells #[.slice A6 D5.secs.length c6, .slice B6 D5.pend.length e6, .bool D5.off, .int .i64 D5.fuse] 28)
      replace kf := (kf.below hb10).alloc (.cells #[.slice A6 D5.secs.length c6, .slice B6 D5.pend.length e6, .bool D5.off, .int .i64 D5.fuse] 28)
      replace km := (km.below hb10).alloc (.cells #[.slice A6 D5.secs.length c6, .slice B6 D5.pend.length e6, .bool D5.off, .int .i64 D5.fuse] 28)
      replace ka := (ka.below hb10).alloc (.cells #[.slice A6 D5.secs.length c6, .slice B6 D5.pend.length e6, .bool D5.off, .int .i64 D5.fuse] 28)
      replace kb := (kb.below hb10).alloc (.cells #[.slice A6 D5.secs.length c6, .slice B6 D5.pend.length e6, .bool D5.off, .int .i64 D5.fuse] 28)
      replace hb := bt (bt hb hb10) (below_alloc w10 (.cells #[.slice A6 D5.secs.length c6, .slice B6 D5.pend.length e6, .bool D5.off, .int .i64 D5.fuse] 28))
      clear hsv2 hb10 g1 g2 g3 g4 g5 g6
      have hcw : IntKind.i64.wrap ((cnt : Int) + 1) = (cnt : Int) + 1 := wrap_i64_nat' (cnt + 1) (by omega)
      go_upto_region 19 with fail
      obtain ⟨W11, HW11⟩ := named (w10.alloc (.cells #[.slice A6 D5.secs.length c6, .slice B6 D5.pend.length e6, .bool D5.off, .int .i64 D5.fuse] 28))
      rw [← HW11.out] at bN Be kf km ka kb hb ⊢
      clear HW11
      refine region_tailT 6 _ (fun L u => Box u E A5 c5 B5 e5 D5 ∧ Blk u F [.int .u64 (q : Int), .string p] 36 ∧ Blk u (N + 1 + 1) (cond (L 4) [.slice A5 D5.secs.length c5, .slice B5 D5.pend.length e5, .bool D5.off, .int .i64 D5.fuse] [.slice A1 D.secs.length c1, .slice B1 D.pend.length e1, .bool D.off, .int .i64 D.fuse]) 28 ∧ Blk u (N + 1 + 1 + 1 + 1) (cond (L 5) [.int .u64 (q : Int), .string p] [.int .u64 (x : Int), .string S]) 36 ∧ Blk u N [.int .i64 0, .int .i64 (n : Int)] 33 ∧ Blk u (N + 1) [.int .i64 (n : Int), .int .i64 (n : Int)] 33 ∧ Below w.heap.size w u) (fun _ _ _ => True)
        (fun _ => rel [fun v _ => v = .agg #[.slice A5 D5.secs.length c5, .slice B5 D5.pend.length e5, .bool D5.off, .int .i64 D5.fuse],
          fun v _ => v = .agg #[.int .u64 (q : Int), .string p],
          fun v _ => v = .int .i64 (cnt : Int),
          fun v _ => v = .int .i64 ((cnt : Int) + 1),
          fun _ _ => True,
          fun _ _ => True])
        (by kernel_rfl) (by kernel_rfl) (by kernel_rfl) (by decide) (fun v => by simp only [putsV, List.take_succ_cons, List.take_zero, Act.put, List.toList_toArray, List.setIfInBounds_toArray, List.set_cons_zero, List.set_cons_succ, Nat.reduceAdd, Nat.zero_add]; rfl) ?_ (fun _ _ _ _ _ h => h) ⟨Be.drew, kf.drew, bN.drew, km.drew, ka.drew, kb.drew, hb.drew⟩ ?_ (fun _ _ _ _ _ _ h => h) (fun L L' u hL h => by rw [← hL 4 (by decide)]; rw [← hL 5 (by decide)]; exact h) ?_
      · intro i L j x u u' _ _ _ h
        match j with
        | 0 => exact h
        | 1 => exact h
        | 2 => exact h
        | 3 => exact h
        | 4 => exact h
        | 5 => exact h
        | _ + 6 => trivial
      · refine ⟨?_, ?_, ?_, ?_, ?_, ?_, trivial⟩
        · intro L hL hcl hw9 v u hS hd K' hK
          simp only [waited, List.toList_toArray, Region.binds, rel, List.getD_cons_zero, List.getD_cons_succ, true_imp_iff, and_true] at hd
          simp only [rel, List.getD_cons_zero, List.getD_cons_succ, Act.put, List.setIfInBounds_toArray, List.set_cons_zero, List.set_cons_succ] at hK
          try simp only [hd] at hK
          obtain ⟨hE, hF, hN, hM, hA, hB, hb⟩ := hS
          have x0 := hE.blk.cell
          go_simp
          exact hK.out _ _ ⟨⟨hE, hF, hN, hM, hA, hB, hb⟩, trivial, rfl⟩
        · intro L hL hcl hw9 v u hS hd K' hK
          simp only [waited, List.toList_toArray, Region.binds, rel, List.getD_cons_zero, List.getD_cons_succ, true_imp_iff, and_true] at hd
          simp only [rel, List.getD_cons_zero, List.getD_cons_succ, Act.put, List.setIfInBounds_toArray, List.set_cons_zero, List.set_cons_succ] at hK
          try simp only [hd] at hK
          obtain ⟨hE, hF, hN, hM, hA, hB, hb⟩ := hS
          have x0 := hF.cell
          go_simp
          exact hK.out _ _ ⟨⟨hE, hF, hN, hM, hA, hB, hb⟩, trivial, rfl⟩
        · intro L hL hcl hw9 v u hS hd K' hK
          simp only [waited, List.toList_toArray, Region.binds, rel, List.getD_cons_zero, List.getD_cons_succ, true_imp_iff, and_true] at hd
          simp only [rel, List.getD_cons_zero, List.getD_cons_succ, Act.put, List.setIfInBounds_toArray, List.set_cons_zero, List.set_cons_succ] at hK
          try simp only [hd] at hK
          obtain ⟨hE, hF, hN, hM, hA, hB, hb⟩ := hS
          go_simp
          exact hK.out _ _ ⟨⟨hE, hF, hN, hM, hA, hB, hb⟩, trivial, rfl⟩
        · intro L hL hcl hw9 v u hS hd K' hK
          simp only [waited, List.toList_toArray, Region.binds, rel, List.getD_cons_zero, List.getD_cons_succ, true_imp_iff, and_true] at hd
          simp only [rel, List.getD_cons_zero, List.getD_cons_succ, Act.put, List.setIfInBounds_toArray, List.set_cons_zero, List.set_cons_succ] at hK
          try simp only [hd] at hK
          obtain ⟨hE, hF, hN, hM, hA, hB, hb⟩ := hS
          go_simp
          exact hK.out _ _ ⟨⟨hE, hF, hN, hM, hA, hB, hb⟩, trivial, rfl⟩
        · intro L hL hcl hw9 v u hS hd K' hK
          simp only [waited, List.toList_toArray, Region.binds, rel, List.getD_cons_zero, List.getD_cons_succ, true_imp_iff, and_true] at hd
          simp only [rel, List.getD_cons_zero, List.getD_cons_succ, Act.put, List.setIfInBounds_toArray, List.set_cons_zero, List.set_cons_succ] at hK
          try simp only [hd] at hK
          obtain ⟨hE, hF, hN, hM, hA, hB, hb⟩ := hS
          have hX : Blk u (N + 1 + 1) [.slice A1 D.secs.length c1, .slice B1 D.pend.length e1, .bool D.off, .int .i64 D.fuse] 28 := by have h := hN; rw [hL] at h; exact h
          have x0 := hX.cell 0
          have x1 := hX.cell 1
          have x2 := hX.cell 2
          have x3 := hX.cell 3
          have z0 := hX.free 0
          have z1 := hX.free 1
          have z2 := hX.free 2
          have z3 := hX.free 3
          first | (obtain ⟨e0, _⟩ := hd) | (have e0 := hd)
          try simp only [e0] at hK ⊢
          go_simp
          exact hK.out undef _ ⟨⟨hE.far4 hX (by omega) (.slice A5 D5.secs.length c5) (.slice B5 D5.pend.length e5) (.bool D5.off) (.int .i64 D5.fuse), hF.far4 (by omega) (.slice A5 D5.secs.length c5) (.slice B5 D5.pend.length e5) (.bool D5.off) (.int .i64 D5.fuse), hX.set4 (.slice A5 D5.secs.length c5) (.slice B5 D5.pend.length e5) (.bool D5.off) (.int .i64 D5.fuse), hM.far4 (by omega) (.slice A5 D5.secs.length c5) (.slice B5 D5.pend.length e5) (.bool D5.off) (.int .i64 D5.fuse), hA.far4 (by omega) (.slice A5 D5.secs.length c5) (.slice B5 D5.pend.length e5) (.bool D5.off) (.int .i64 D5.fuse), hB.far4 (by omega) (.slice A5 D5.secs.length c5) (.slice B5 D5.pend.length e5) (.bool D5.off) (.int .i64 D5.fuse), below4 hb (by omega) (.slice A5 D5.secs.length c5) (.slice B5 D5.pend.length e5) (.bool D5.off) (.int .i64 D5.fuse)⟩, trivial, trivial⟩
        · intro L hL hcl hw9 v u hS hd K' hK
          simp only [waited, List.toList_toArray, Region.binds, rel, List.getD_cons_zero, List.getD_cons_succ, true_imp_iff, and_true] at hd
          simp only [rel, List.getD_cons_zero, List.getD_cons_succ, Act.put, List.setIfInBounds_toArray, List.set_cons_zero, List.set_cons_succ] at hK
          try simp only [hd] at hK
          obtain ⟨hE, hF, hN, hM, hA, hB, hb⟩ := hS
          have hX : Blk u (N + 1 + 1 + 1 + 1) [.int .u64 (x : Int), .string S] 36 := by have h := hM; rw [hL] at h; exact h
          have x0 := hX.cell 0
          have x1 := hX.cell 1
          have z0 := hX.free 0
          have z1 := hX.free 1
          first | (obtain ⟨e0, _⟩ := hd) | (have e0 := hd)
          try simp only [e0] at hK ⊢
          go_simp
          exact hK.out undef _ ⟨⟨hE.img HL5.out hX (by omega) (.int .u64 (q : Int)) (.string p), hF.far2 (by omega) (.int .u64 (q : Int)) (.string p), hN.far2 (by omega) (.int .u64 (q : Int)) (.string p), hX.set2 (.int .u64 (q : Int)) (.string p), hA.far2 (by omega) (.int .u64 (q : Int)) (.string p), hB.far2 (by omega) (.int .u64 (q : Int)) (.string p), below2 hb (by omega) (.int .u64 (q : Int)) (.string p)⟩, trivial, trivial⟩
      · rintro v u ⟨hE, hF, hN, hM, hA, hB, hb⟩ hR
        replace hN : Blk u (N + 1 + 1) [.slice A5 D5.secs.length c5, .slice B5 D5.pend.length e5, .bool D5.off, .int .i64 D5.fuse] 28 := hN
        replace hM : Blk u (N + 1 + 1 + 1 + 1) [.int .u64 (q : Int), .string p] 36 := hM
        simp only [holdAll, List.size_toArray, List.length_cons, List.length_nil, Nat.reduceAdd, rel, List.getD_cons_zero, List.getD_cons_succ] at hR
        simp only [List.toList_toArray, List.drop_succ_cons, List.drop_zero]
        have hBox := hE.at_ hN
        obtain ⟨⟨⟨_, h3⟩, _⟩, _⟩ := hR
        simp only [h3]
        clear h3
        refine seqOps_cons fun K hK => ?_
        go_simp
        refine hK.out _ _ (seqOps_nil ?_)
        clear hK
        go_wp2
        go_roundw
        case rel => exact ⟨k + 1, cnt + 1, D5, q, J', p, A5, c5, B5, e5, by omega, by first | rfl | go_num, by first | rfl | go_num, by omega, by rw [HQ.out]; omega, by have h1 := HPAR.out; clear hcw; rw [HJ.out]; omega, by rw [HQ.out]; omega, ⟨HL5.out, HF5.out⟩, hBox, hM, hA, hB, hb⟩
        case measure => simp [intOf]; omega
    · subst hD
      rcases hE with rfl | rfl
      · clear HST
        go_wp2
        go_roundw
        case rel => exact ⟨k + 1, cnt, D5, x, j, S, A1, c1, B1, e1, by omega, by first | rfl | go_num, rfl, by omega, by omega, HPAR.out, HX0.out, ⟨HL.out, HFU.out⟩, Bd, km, ka, kb, hb⟩
        case measure => simp [intOf]; omega
      · clear HST
        go_wp2
        go_roundw
        case rel => exact ⟨k + 1, cnt, D5, x, j, S, A1, c1, B1, e1, by omega, by first | rfl | go_num, rfl, by omega, by omega, HPAR.out, HX0.out, ⟨HL.out, HFU.out⟩, Bd, km, ka, kb, hb⟩
        case measure => simp [intOf]; omega
end Go.Proofs.Ytpfbmmeipojodaa
