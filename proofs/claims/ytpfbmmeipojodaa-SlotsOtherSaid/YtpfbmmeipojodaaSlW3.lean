/- The walk of SlotsOther. -/
import Derived.Test.YtpfbmmeipojodaaSlLaws2
import Derived.Test.YtpfbmmeipojodaaGP
import Derived.Test.YtpfbmmeipojodaaGK
import Derived.Test.YtpfbmmeipojodaaGL
namespace Go.Proofs.Ytpfbmmeipojodaa
set_option linter.unusedSimpArgs false
set_option linter.unusedVariables false
open Go.RowKit Go.Shelf
open Crc
theorem text_beq_of {a b : ByteArray} (h : a ≠ b) : (a.toList == b.toList) = false := by
  have : a.toList ≠ b.toList := fun e => h (by
    rw [ByteArray.toList_eq, ByteArray.toList_eq] at e
    cases a; cases b
    simp only [ByteArray.mk.injEq]
    exact Array.toList_inj.1 e)
  simpa using this
/-- A box of two numbers is stored to: no list of texts, no list of writes lies there. -/
theorem Texts.reg {w : World} {A : Option Addr} {l : List ByteArray} {T : Nat} {t : TypeId} {x y : Int} (h : Texts w A l) (hk : Blk w T [.int .i64 x, .int .i64 y] t) (a b : Value) : Texts ((w.setCell ⟨T, 0, none⟩ a).setCell ⟨T, 1, none⟩ b) A l := by
  refine ⟨h.1, fun hn => ?_⟩
  obtain ⟨g, o, e, hc⟩ := h.2 hn
  refine ⟨g, o, e, fun j u hu => ?_⟩
  have h1 := hc j u hu
  have hne : ∀ i : Nat, (⟨T, i, none⟩ : Addr) ≠ ⟨g, o + j, none⟩ := fun i e' => by
    rw [← e', hk.cell] at h1
    obtain ⟨x, _, rfl⟩ : ∃ x ∈ l, Value.string x = u := by
      have := List.mem_of_getElem? hu
      simpa [strs] using this
    match i with
    | 0 => simp at h1
    | 1 => simp at h1
    | _ + 2 => simp at h1
  rw [World.cell?_setCell_other _ _ _ _ (hne 1), World.cell?_setCell_other _ _ _ _ (hne 0)]
  exact h1
theorem Writes.reg {w : World} {A : Option Addr} {l : List Wr} {T : Nat} {t : TypeId} {x y : Int} (h : Writes w A l) (hk : Blk w T [.int .i64 x, .int .i64 y] t) (a b : Value) : Writes ((w.setCell ⟨T, 0, none⟩ a).setCell ⟨T, 1, none⟩ b) A l := by
  refine ⟨h.1, fun hn => ?_⟩
  obtain ⟨g, o, e, hc⟩ := h.2 hn
  have hblk : g ≠ T := by
    rintro rfl
    obtain ⟨z, l', rfl⟩ : ∃ z l', l = z :: l' := by
      cases l with
      | nil => exact absurd rfl hn
      | cons z l' => exact ⟨z, l', rfl⟩
    have h1 := hc 1 (.string z.data) rfl
    rw [hk.cell] at h1
    match o with
    | 0 => simp at h1
    | _ + 1 => simp at h1
  refine ⟨g, o, e, fun j u hu => ?_⟩
  rw [World.cell?_setCell_other _ _ _ _ (fun e' => hblk (congrArg Addr.block e').symm), World.cell?_setCell_other _ _ _ _ (fun e' => hblk (congrArg Addr.block e').symm)]
  exact hc j u hu
theorem Box.reg {w : World} {N T : Nat} {A1 A2 : Option Addr} {c1 c2 : Nat} {d : Dk} {t : TypeId} {x y : Int} (h : Box w N A1 c1 A2 c2 d) (hk : Blk w T [.int .i64 x, .int .i64 y] t) (hne : N ≠ T) (a b : Value) : Box ((w.setCell ⟨T, 0, none⟩ a).setCell ⟨T, 1, none⟩ b) N A1 c1 A2 c2 d :=
  ⟨(h.blk.far (p := ⟨T, 0, none⟩) hne a).far (p := ⟨T, 1, none⟩) hne b, h.tx.reg hk a b, h.wr.reg hk a b, h.l1, h.l2, h.f1, h.f2⟩
set_option maxRecDepth 100000 in
set_option maxHeartbeats 1000000 in
theorem slotsother_w (A1 A2 : Option Addr) (c1 c2 : Nat) (d : Dk) (fa sa fb sb : Int) (ep : Nat) (p : ByteArray) (w : World) (h1 : Texts w A1 d.secs) (h2 : Writes w A2 d.pend) (hl1 : d.secs.length * 16 ≤ 140737488351232) (hl2 : d.pend.length * 24 ≤ 140737488351232) (hf1 : -9223372036854775808 ≤ d.fuse) (hf2 : d.fuse ≤ 9223372036854775807) (hfa : -9223372036854775808 ≤ fa ∧ fa ≤ 9223372036854775807) (hsa : -9223372036854775808 ≤ sa ∧ sa ≤ 9223372036854775807) (hfb : -9223372036854775808 ≤ fb ∧ fb ≤ 9223372036854775807) (hsb : -9223372036854775808 ≤ sb ∧ sb ≤ 9223372036854775807) (he : ep < 18446744073709551616) :
    Calls Try.prog 6 #[.agg #[.slice A1 d.secs.length c1, .slice A2 d.pend.length c2, .bool d.off, .int .i64 d.fuse], .agg #[.int .i64 fa, .int .i64 sa], .agg #[.int .i64 fb, .int .i64 sb], .agg #[.int .u64 (ep : Int), .string p]] w fun e w' => e = .returned (.bool true) ∧ Below w.heap.size w w' := by
  obtain ⟨W, HW, Bd, ka, kb, km, hb, hz⟩ := dabm_in w ⟨A1, c1, A2, c2, rfl, h1, h2, by omega, by omega, hf1, hf2⟩ fa sa fb sb ep p
  have hy1 := fun W hv => load_w (.agg #[.slice A1 d.secs.length c1, .slice A2 d.pend.length c2, .bool d.off, .int .i64 d.fuse]) d fa sa fb sb W hv hfa hsa hfb hsb
  have hy3 := fun W hv => save_w (.agg #[.slice A1 d.secs.length c1, .slice A2 d.pend.length c2, .bool d.off, .int .i64 d.fuse]) d fa sa fb sb ep p W hv hfa hsa hfb hsb
  have hy4 := fun W v hv => load_w v (saveR d fa sa fb sb ⟨ep, p.data.toList⟩).1 fa sa fb sb W hv hfa hsa hfb hsb
  have hO := fun h : (saveR d fa sa fb sb ⟨ep, p.data.toList⟩).2 = 0 => other_law (m := ⟨ep, p.data.toList⟩) he h
  have hends := fun h : (saveR d fa sa fb sb ⟨ep, p.data.toList⟩).2 = 0 => save_ends h
  have h17 := fun h : (saveR d fa sa fb sb ⟨ep, p.data.toList⟩).2 = 17 => save_17 h
  obtain ⟨R1, HR1⟩ := named (loadR d fa sa fb sb)
  obtain ⟨D, HD⟩ := named (saveR d fa sa fb sb ⟨ep, p.data.toList⟩).1
  obtain ⟨E, HE⟩ := named (saveR d fa sa fb sb ⟨ep, p.data.toList⟩).2
  rw [← HD.out] at hO h17
  rw [← HE.out, ← HR1.out] at hO
  rw [← HE.out] at hends
  rw [← HE.out] at h17
  simp only [← HR1.out] at hy1
  simp only [← HD.out, ← HE.out] at hy3
  simp only [← HD.out] at hy4
  obtain ⟨R2, HR2⟩ := named (loadR D fa sa fb sb)
  rw [← HR2.out] at hO
  simp only [← HR2.out] at hy4
  clear HR1 HD HE HR2
  obtain ⟨⟨x1, p1⟩, K1, E1⟩ := R1
  obtain ⟨⟨x2, p2⟩, K2, E2⟩ := R2
  have HO := hide hO
  have HEN := hide hends
  have H17 := hide h17
  clear hO h17 hends
  simp only [show ∀ a b c p, loadVal (⟨a, p⟩, b, c) = .tuple #[.agg #[.int .u64 (a : Int), .string (str p)], .int .i64 (b : Int), .int .i64 c] from fun _ _ _ _ => rfl] at hy1 hy4
  obtain ⟨S1, HS1⟩ := named (str p1)
  simp only [← HS1.out] at hy1
  clear HS1
  go_enter Try.func6, Try.ntmps6
  go_wp2_with fail
  rw [← HW.out]
  clear HW hz
  refine (lives5_w _).mono ?_
  rintro e w1 ⟨rfl, hb1⟩
  replace Bd := Bd.below hb1
  replace ka := ka.below hb1
  replace kb := kb.below hb1
  replace km := km.below hb1
  replace hb := bt hb hb1
  clear hb1
  have xg := Bd.blk.cell
  have xa := ka.cell
  have xb := kb.cell
  go_wp2_with fail
  clear xg xa xb
  refine (hy1 _ Bd.is).mono ?_
  rintro e w2 ⟨rfl, hb2⟩
  replace Bd := (Bd.below hb2).alloc (.cells #[.int .u64 (x1 : Int), .string S1] 36)
  replace ka := (ka.below hb2).alloc (.cells #[.int .u64 (x1 : Int), .string S1] 36)
  replace kb := (kb.below hb2).alloc (.cells #[.int .u64 (x1 : Int), .string S1] 36)
  replace km := (km.below hb2).alloc (.cells #[.int .u64 (x1 : Int), .string S1] 36)
  replace hb := bt (bt hb hb2) (below_alloc w2 (.cells #[.int .u64 (x1 : Int), .string S1] 36))
  clear hb2 hy1
  have xg := Bd.blk.cell
  have xa := ka.cell
  have xb := kb.cell
  have xm := km.cell
  go_wp2_with fail
  clear xg xa xb xm
  refine (hy3 _ Bd.is).mono ?_
  rintro e w4 ⟨v4, rfl, ⟨A4, c4, B4, e4, rfl, g1, g2, g3, g4, g5, g6⟩, hb4⟩
  clear hy3
  have Be := Box.new w4 ⟨A4, c4, B4, e4, rfl, g1, g2, g3, g4, g5, g6⟩
  replace Bd := (Bd.below hb4).alloc (.cells #[.slice A4 D.secs.length c4, .slice B4 D.pend.length e4, .bool D.off, .int .i64 D.fuse] 28)
  replace ka := (ka.below hb4).alloc (.cells #[.slice A4 D.secs.length c4, .slice B4 D.pend.length e4, .bool D.off, .int .i64 D.fuse] 28)
  replace kb := (kb.below hb4).alloc (.cells #[.slice A4 D.secs.length c4, .slice B4 D.pend.length e4, .bool D.off, .int .i64 D.fuse] 28)
  replace km := (km.below hb4).alloc (.cells #[.slice A4 D.secs.length c4, .slice B4 D.pend.length e4, .bool D.off, .int .i64 D.fuse] 28)
  replace hb := bt (bt hb hb4) (below_alloc w4 (.cells #[.slice A4 D.secs.length c4, .slice B4 D.pend.length e4, .bool D.off, .int .i64 D.fuse] 28))
  clear hb4 g1 g2 g3 g4 g5 g6
  go_upto_region 5 with fail
  obtain ⟨V4, HV4⟩ := named (w4.alloc (.cells #[.slice A4 D.secs.length c4, .slice B4 D.pend.length e4, .bool D.off, .int .i64 D.fuse] 28))
  obtain ⟨N4, HN4⟩ := named w4.heap.size
  rw [← HN4.out] at Be ⊢
  rw [← HV4.out] at Be Bd ka kb km hb ⊢
  clear HV4 HN4
  by_cases hE : E = 0
  case neg =>
    have t1 : (E == 0) = false := by simp [hE]
    have t2 : (E != 0) = true := by simp [hE]
    clear hE HO HEN hy4
    by_cases h17 : E = 17
    · obtain rfl : D = d := H17.out h17
      have t3 : (E == 17) = true := by simp [h17]
      have t4 : (E != 17) = false := by simp [h17]
      clear h17 H17
      have xd := Bd.blk.cell
      have xe := Be.blk.cell
      go_wp2_with fail
      refine (refSame_w _ _ D _ Bd.is Be.is).mono ?_
      rintro e w5 ⟨rfl, hb5⟩
      replace hb := bt hb hb5
      clear xd xe hb5
      go_wp2
      go_ret
      exact ⟨by simp, hb⟩
    · have t3 : (E == 17) = false := by simp [h17]
      have t4 : (E != 17) = true := by simp [h17]
      clear h17 H17
      go_wp2
      go_ret
      exact ⟨by simp, hb⟩
  have hO := HO.out hE
  have hends := HEN.out hE
  subst hE
  obtain ⟨o1, o2, o3, o4, o5, o6, rfl, o8⟩ := hO
  have HP : Hid (x2 = ep ∧ p2 = p.data.toList) := ⟨congrArg Img.ep o6, congrArg Img.pay o6⟩
  have hlen := right_len o1
  have hpd := (right_iff.1 o1).2.1
  have hpD := (right_iff.1 o3).2.1
  have H5 := hide o5
  have HN := hide hends
  have hrd : ∀ u (B : Box u w.heap.size A1 c1 A2 c2 d) (i : Nat), i < d.secs.length → Calls Try.prog 22 #[.agg #[.slice A1 d.secs.length c1, .slice A2 d.pend.length c2, .bool d.off, .int .i64 d.fuse], .int .i64 (i : Int)] u fun e w' => e = .returned (.tuple #[.string (holdsOf d (i : Int)), .int .i64 0]) ∧ Below u.heap.size u w' := fun u B i hi =>
    read_ok A1 A2 c1 c2 d (i : Int) u B.tx B.wr B.l1 B.l2 o1 o2 (by simp [there]; omega)
  have hre : ∀ u (B : Box u N4 A4 c4 B4 e4 D) (i : Nat), i < d.secs.length → Calls Try.prog 22 #[.agg #[.slice A4 D.secs.length c4, .slice B4 D.pend.length e4, .bool D.off, .int .i64 D.fuse], .int .i64 (i : Int)] u fun e w' => e = .returned (.tuple #[.string (holdsOf D (i : Int)), .int .i64 0]) ∧ Below u.heap.size u w' := fun u B i hi =>
    read_ok A4 B4 c4 e4 D (i : Int) u B.tx B.wr B.l1 B.l2 o3 o4 (by have := H5.out; simp [there]; omega)
  have HRD := hide hrd
  have HRE := hide hre
  have H8 := hide o8
  clear o1 o2 o3 o4 o5 o6 o8 hrd hre hends HO HEN H17
  rcases H8.out with ⟨rfl, hK0, hoth⟩ | ⟨hne, hoth⟩
  · have HOTH := hide hoth
    have tk : ((K1 : Int) == 0) = true := by simp [hK0]
    clear hoth H8 hK0
    have xa := ka.cell
    have kt := Blk.new V4 [.int .i64 fa, .int .i64 sa] 33
    have hT := hb.size
    have hbo := below_alloc V4 (.cells #[.int .i64 fa, .int .i64 sa] 33)
    have hlm := km.lt
    have hle := Be.lt
    replace Bd := Bd.below hbo
    replace Be := Be.below hbo
    replace ka := ka.below hbo
    replace kb := kb.below hbo
    replace km := km.below hbo
    replace hb := bt hb hbo
    go_upto_region 8 with fail
    obtain ⟨V8, HV8⟩ := named (V4.alloc (.cells #[.int .i64 fa, .int .i64 sa] 33))
    obtain ⟨T, HT⟩ := named V4.heap.size
    rw [← HT.out] at kt hlm hle ⊢
    rw [← HV8.out] at kt Bd Be ka kb km hb ⊢
    clear HV8 HT hbo xa hT
    have xb := kb.cell
    have xt := kt.cell
    have ft := kt.free
    go_upto_region 10 with fail
    clear xb xt ft
    have hTd : w.heap.size ≠ T := by omega
    have hbs := (hb.setCell (p := ⟨T, 0, none⟩) (by show w.heap.size ≤ T; omega) (.int .i64 fb)).setCell (p := ⟨T, 1, none⟩) (by show w.heap.size ≤ T; omega) (.int .i64 sb)
    replace Bd := Bd.reg kt hTd (.int .i64 fb) (.int .i64 sb)
    replace Be := Be.reg kt (by omega : N4 ≠ T) (.int .i64 fb) (.int .i64 sb)
    replace ka := (ka.far (p := ⟨T, 0, none⟩) (by show w.heap.size + 1 ≠ T; omega) (.int .i64 fb)).far (p := ⟨T, 1, none⟩) (by show w.heap.size + 1 ≠ T; omega) (.int .i64 sb)
    replace kb := (kb.far (p := ⟨T, 0, none⟩) (by show w.heap.size + 1 + 1 ≠ T; omega) (.int .i64 fb)).far (p := ⟨T, 1, none⟩) (by show w.heap.size + 1 + 1 ≠ T; omega) (.int .i64 sb)
    replace km := (km.far (p := ⟨T, 0, none⟩) (by show w.heap.size + 1 + 1 + 1 ≠ T; omega) (.int .i64 fb)).far (p := ⟨T, 1, none⟩) (by show w.heap.size + 1 + 1 + 1 ≠ T; omega) (.int .i64 sb)
    replace kt := (kt.set 0 (.int .i64 fb)).set 1 (.int .i64 sb)
    replace hb := hbs
    obtain ⟨V9, HV9⟩ := named ((V8.setCell ⟨T, 0, none⟩ (.int .i64 fb)).setCell ⟨T, 1, none⟩ (.int .i64 sb))
    rw [← HV9.out] at kt Bd Be ka kb km hb ⊢
    clear HV9 hbs hlm hle hTd
    have xd := Bd.blk.cell
    go_wp2_with fail
    clear xd
    go_loopw [61] (fun i wr => ∃ k : Nat, k ≤ d.secs.length ∧ i = .int .i64 (k : Int) ∧ Box wr w.heap.size A1 c1 A2 c2 d ∧ Box wr N4 A4 c4 B4 e4 D ∧ Blk wr T [.int .i64 fb, .int .i64 sb] 33 ∧ Blk wr (w.heap.size + 1) [.int .i64 fa, .int .i64 sa] 33 ∧ Blk wr (w.heap.size + 1 + 1) [.int .i64 fb, .int .i64 sb] 33 ∧ Blk wr (w.heap.size + 1 + 1 + 1) [.int .u64 (ep : Int), .string p] 36 ∧ Below w.heap.size w wr) (fun i _ => d.secs.length - (intOf i).toNat)
    case atStart => exact ⟨0, by omega, rfl, Bd, Be, kt, ka, kb, km, hb⟩
    case round =>
      obtain ⟨k, hk, rfl, Bd, Be, kt, ka, kb, km, hb⟩ := hrel
      by_cases hlt : k < d.secs.length
      · have hlt' : (k : Int) < (d.secs.length : Int) := by omega
        have hwk : IntKind.i64.wrap ((k : Int) + 1) = (k : Int) + 1 := by simp [IntKind.wrap, IntKind.bits, IntKind.signed]; omega
        have hx := HRD.out _ Bd k hlt
        have hy := fun u B => HRE.out u B k hlt
        have hoth := HOTH.out k hlt
        obtain ⟨X, HX⟩ := named (holdsOf d (k : Int))
        obtain ⟨Y, HY⟩ := named (holdsOf D (k : Int))
        rw [← HX.out] at hx hoth
        rw [← HY.out] at hoth
        simp only [← HY.out] at hy
        have Hoth := hide hoth
        clear hoth HX HY
        have xd := Bd.blk.cell
        go_wp2_with fail
        clear xd
        refine hx.mono ?_
        rintro e w5 ⟨rfl, hb5⟩
        replace Bd := Bd.below hb5
        replace Be := Be.below hb5
        replace kt := kt.below hb5
        replace ka := ka.below hb5
        replace kb := kb.below hb5
        replace km := km.below hb5
        replace hb := bt hb hb5
        clear hb5 hx
        have xe := Be.blk.cell
        go_wp2_with fail
        clear xe
        refine (hy _ Be).mono ?_
        rintro e w6 ⟨rfl, hb6⟩
        replace Bd := Bd.below hb6
        replace Be := Be.below hb6
        replace kt := kt.below hb6
        replace ka := ka.below hb6
        replace kb := kb.below hb6
        replace km := km.below hb6
        replace hb := bt hb hb6
        clear hb6 hy
        have xt := kt.cell
        by_cases hXY : X = Y
        · subst hXY
          clear Hoth xt
          go_wp2
          go_roundw
          case rel => exact ⟨k + 1, by omega, by first | rfl | go_num, Bd, Be, kt, ka, kb, km, hb⟩
          case measure => simp [intOf]; omega
        · have hin : fb ≤ (k : Int) ∧ (k : Int) < fb + sb := by
            by_cases h9 : (k : Int) < fb ∨ fb + sb ≤ (k : Int)
            · exact absurd (Hoth.out h9).symm hXY
            · omega
          have hen := HN.out
          have t1 := text_beq_of hXY
          have t2 : ¬ (k : Int) < fb := by omega
          have t3 : ¬ fb + sb ≤ (k : Int) := by omega
          have hws : IntKind.i64.wrap (fb + sb) = fb + sb := by
            obtain ⟨z, hz⟩ := Int.eq_ofNat_of_zero_le (show 0 ≤ fb + sb by omega)
            rw [hz]
            exact wrap_i64_nat' z (by omega)
          clear hXY Hoth hin hen
          go_wp2
          go_roundw
          case rel => exact ⟨k + 1, by omega, by first | rfl | go_num, Bd, Be, kt, ka, kb, km, hb⟩
          case measure => simp [intOf]; omega
      · have hge : ¬ (k : Int) < (d.secs.length : Int) := by omega
        have xe := Be.blk.cell
        have xa := ka.cell
        have xb := kb.cell
        clear HRD HRE HOTH
        go_wp2_with fail
        clear xe xa xb
        refine (hy4 _ _ Be.is).mono ?_
        rintro e w7 ⟨rfl, hb7⟩
        obtain ⟨e2, e3⟩ := HP.out
        rw [e2, e3, str_of]
        clear e2 e3 HP
        have kx := Blk.new w7 [.int .u64 (ep : Int), .string p] 36
        replace km := (km.below hb7).alloc (.cells #[.int .u64 (ep : Int), .string p] 36)
        replace hb := bt (bt hb hb7) (below_alloc w7 (.cells #[.int .u64 (ep : Int), .string p] 36))
        clear hb7 hy4
        have xm := km.cell
        have xx := kx.cell
        go_wp2
        go_ret
        exact ⟨by simp, hb⟩
  · have HOTH := hide hoth
    clear hoth H8
    by_cases hE1 : E1 = 0
    · have hK1 : K1 ≠ 0 := fun h => hne ⟨hE1, h⟩
      subst hE1
      have t1 : ((K1 : Int) == 0) = false := by simp [hK1]
      clear hne hK1
      have xa := ka.cell
      have kt := Blk.new V4 [.int .i64 fa, .int .i64 sa] 33
      have hT := hb.size
      have hbo := below_alloc V4 (.cells #[.int .i64 fa, .int .i64 sa] 33)
      have hlm := km.lt
      have hle := Be.lt
      replace Bd := Bd.below hbo
      replace Be := Be.below hbo
      replace ka := ka.below hbo
      replace kb := kb.below hbo
      replace km := km.below hbo
      replace hb := bt hb hbo
      go_upto_region 8 with fail
      obtain ⟨V8, HV8⟩ := named (V4.alloc (.cells #[.int .i64 fa, .int .i64 sa] 33))
      obtain ⟨T, HT⟩ := named V4.heap.size
      rw [← HT.out] at kt hlm hle ⊢
      rw [← HV8.out] at kt Bd Be ka kb km hb ⊢
      clear HV8 HT hbo xa hT
      go_upto_region 10 with fail
      clear hlm hle
      have xd := Bd.blk.cell
      go_wp2_with fail
      clear xd
      go_loopw [61] (fun i wr => ∃ k : Nat, k ≤ d.secs.length ∧ i = .int .i64 (k : Int) ∧ Box wr w.heap.size A1 c1 A2 c2 d ∧ Box wr N4 A4 c4 B4 e4 D ∧ Blk wr T [.int .i64 fa, .int .i64 sa] 33 ∧ Blk wr (w.heap.size + 1) [.int .i64 fa, .int .i64 sa] 33 ∧ Blk wr (w.heap.size + 1 + 1) [.int .i64 fb, .int .i64 sb] 33 ∧ Blk wr (w.heap.size + 1 + 1 + 1) [.int .u64 (ep : Int), .string p] 36 ∧ Below w.heap.size w wr) (fun i _ => d.secs.length - (intOf i).toNat)
      case atStart => exact ⟨0, by omega, rfl, Bd, Be, kt, ka, kb, km, hb⟩
      case round =>
        obtain ⟨k, hk, rfl, Bd, Be, kt, ka, kb, km, hb⟩ := hrel
        by_cases hlt : k < d.secs.length
        · have hlt' : (k : Int) < (d.secs.length : Int) := by omega
          have hwk : IntKind.i64.wrap ((k : Int) + 1) = (k : Int) + 1 := by simp [IntKind.wrap, IntKind.bits, IntKind.signed]; omega
          have hx := HRD.out _ Bd k hlt
          have hy := fun u B => HRE.out u B k hlt
          have hoth := HOTH.out k hlt
          obtain ⟨X, HX⟩ := named (holdsOf d (k : Int))
          obtain ⟨Y, HY⟩ := named (holdsOf D (k : Int))
          rw [← HX.out] at hx hoth
          rw [← HY.out] at hoth
          simp only [← HY.out] at hy
          have Hoth := hide hoth
          clear hoth HX HY
          have xd := Bd.blk.cell
          go_wp2_with fail
          clear xd
          refine hx.mono ?_
          rintro e w5 ⟨rfl, hb5⟩
          replace Bd := Bd.below hb5
          replace Be := Be.below hb5
          replace kt := kt.below hb5
          replace ka := ka.below hb5
          replace kb := kb.below hb5
          replace km := km.below hb5
          replace hb := bt hb hb5
          clear hb5 hx
          have xe := Be.blk.cell
          go_wp2_with fail
          clear xe
          refine (hy _ Be).mono ?_
          rintro e w6 ⟨rfl, hb6⟩
          replace Bd := Bd.below hb6
          replace Be := Be.below hb6
          replace kt := kt.below hb6
          replace ka := ka.below hb6
          replace kb := kb.below hb6
          replace km := km.below hb6
          replace hb := bt hb hb6
          clear hb6 hy
          have xt := kt.cell
          by_cases hXY : X = Y
          · subst hXY
            clear Hoth xt
            go_wp2
            go_roundw
            case rel => exact ⟨k + 1, by omega, by first | rfl | go_num, Bd, Be, kt, ka, kb, km, hb⟩
            case measure => simp [intOf]; omega
          · have hin : fa ≤ (k : Int) ∧ (k : Int) < fa + sa := by
              by_cases h9 : (k : Int) < fa ∨ fa + sa ≤ (k : Int)
              · exact absurd (Hoth.out h9).symm hXY
              · omega
            have hen := HN.out
            have t1 := text_beq_of hXY
            have t2 : ¬ (k : Int) < fa := by omega
            have t3 : ¬ fa + sa ≤ (k : Int) := by omega
            have hws : IntKind.i64.wrap (fa + sa) = fa + sa := by
              obtain ⟨z, hz⟩ := Int.eq_ofNat_of_zero_le (show 0 ≤ fa + sa by omega)
              rw [hz]
              exact wrap_i64_nat' z (by omega)
            clear hXY Hoth hin hen
            go_wp2
            go_roundw
            case rel => exact ⟨k + 1, by omega, by first | rfl | go_num, Bd, Be, kt, ka, kb, km, hb⟩
            case measure => simp [intOf]; omega
        · have hge : ¬ (k : Int) < (d.secs.length : Int) := by omega
          have xe := Be.blk.cell
          have xa := ka.cell
          have xb := kb.cell
          clear HRD HRE HOTH
          go_wp2_with fail
          clear xe xa xb
          refine (hy4 _ _ Be.is).mono ?_
          rintro e w7 ⟨rfl, hb7⟩
          obtain ⟨e2, e3⟩ := HP.out
          rw [e2, e3, str_of]
          clear e2 e3 HP
          have kx := Blk.new w7 [.int .u64 (ep : Int), .string p] 36
          replace km := (km.below hb7).alloc (.cells #[.int .u64 (ep : Int), .string p] 36)
          replace hb := bt (bt hb hb7) (below_alloc w7 (.cells #[.int .u64 (ep : Int), .string p] 36))
          clear hb7 hy4
          have xm := km.cell
          have xx := kx.cell
          go_wp2
          go_ret
          exact ⟨by simp, hb⟩
    · have t1 : (E1 == 0) = false := by simp [hE1]
      have t2 : (E1 != 0) = true := by simp [hE1]
      clear hne hE1
      have xa := ka.cell
      have kt := Blk.new V4 [.int .i64 fa, .int .i64 sa] 33
      have hT := hb.size
      have hbo := below_alloc V4 (.cells #[.int .i64 fa, .int .i64 sa] 33)
      have hlm := km.lt
      have hle := Be.lt
      replace Bd := Bd.below hbo
      replace Be := Be.below hbo
      replace ka := ka.below hbo
      replace kb := kb.below hbo
      replace km := km.below hbo
      replace hb := bt hb hbo
      go_upto_region 8 with fail
      obtain ⟨V8, HV8⟩ := named (V4.alloc (.cells #[.int .i64 fa, .int .i64 sa] 33))
      obtain ⟨T, HT⟩ := named V4.heap.size
      rw [← HT.out] at kt hlm hle ⊢
      rw [← HV8.out] at kt Bd Be ka kb km hb ⊢
      clear HV8 HT hbo xa hT
      go_upto_region 10 with fail
      clear hlm hle
      have xd := Bd.blk.cell
      go_wp2_with fail
      clear xd
      go_loopw [61] (fun i wr => ∃ k : Nat, k ≤ d.secs.length ∧ i = .int .i64 (k : Int) ∧ Box wr w.heap.size A1 c1 A2 c2 d ∧ Box wr N4 A4 c4 B4 e4 D ∧ Blk wr T [.int .i64 fa, .int .i64 sa] 33 ∧ Blk wr (w.heap.size + 1) [.int .i64 fa, .int .i64 sa] 33 ∧ Blk wr (w.heap.size + 1 + 1) [.int .i64 fb, .int .i64 sb] 33 ∧ Blk wr (w.heap.size + 1 + 1 + 1) [.int .u64 (ep : Int), .string p] 36 ∧ Below w.heap.size w wr) (fun i _ => d.secs.length - (intOf i).toNat)
      case atStart => exact ⟨0, by omega, rfl, Bd, Be, kt, ka, kb, km, hb⟩
      case round =>
        obtain ⟨k, hk, rfl, Bd, Be, kt, ka, kb, km, hb⟩ := hrel
        by_cases hlt : k < d.secs.length
        · have hlt' : (k : Int) < (d.secs.length : Int) := by omega
          have hwk : IntKind.i64.wrap ((k : Int) + 1) = (k : Int) + 1 := by simp [IntKind.wrap, IntKind.bits, IntKind.signed]; omega
          have hx := HRD.out _ Bd k hlt
          have hy := fun u B => HRE.out u B k hlt
          have hoth := HOTH.out k hlt
          obtain ⟨X, HX⟩ := named (holdsOf d (k : Int))
          obtain ⟨Y, HY⟩ := named (holdsOf D (k : Int))
          rw [← HX.out] at hx hoth
          rw [← HY.out] at hoth
          simp only [← HY.out] at hy
          have Hoth := hide hoth
          clear hoth HX HY
          have xd := Bd.blk.cell
          go_wp2_with fail
          clear xd
          refine hx.mono ?_
          rintro e w5 ⟨rfl, hb5⟩
          replace Bd := Bd.below hb5
          replace Be := Be.below hb5
          replace kt := kt.below hb5
          replace ka := ka.below hb5
          replace kb := kb.below hb5
          replace km := km.below hb5
          replace hb := bt hb hb5
          clear hb5 hx
          have xe := Be.blk.cell
          go_wp2_with fail
          clear xe
          refine (hy _ Be).mono ?_
          rintro e w6 ⟨rfl, hb6⟩
          replace Bd := Bd.below hb6
          replace Be := Be.below hb6
          replace kt := kt.below hb6
          replace ka := ka.below hb6
          replace kb := kb.below hb6
          replace km := km.below hb6
          replace hb := bt hb hb6
          clear hb6 hy
          have xt := kt.cell
          by_cases hXY : X = Y
          · subst hXY
            clear Hoth xt
            go_wp2
            go_roundw
            case rel => exact ⟨k + 1, by omega, by first | rfl | go_num, Bd, Be, kt, ka, kb, km, hb⟩
            case measure => simp [intOf]; omega
          · have hin : fa ≤ (k : Int) ∧ (k : Int) < fa + sa := by
              by_cases h9 : (k : Int) < fa ∨ fa + sa ≤ (k : Int)
              · exact absurd (Hoth.out h9).symm hXY
              · omega
            have hen := HN.out
            have t1 := text_beq_of hXY
            have t2 : ¬ (k : Int) < fa := by omega
            have t3 : ¬ fa + sa ≤ (k : Int) := by omega
            have hws : IntKind.i64.wrap (fa + sa) = fa + sa := by
              obtain ⟨z, hz⟩ := Int.eq_ofNat_of_zero_le (show 0 ≤ fa + sa by omega)
              rw [hz]
              exact wrap_i64_nat' z (by omega)
            clear hXY Hoth hin hen
            go_wp2
            go_roundw
            case rel => exact ⟨k + 1, by omega, by first | rfl | go_num, Bd, Be, kt, ka, kb, km, hb⟩
            case measure => simp [intOf]; omega
        · have hge : ¬ (k : Int) < (d.secs.length : Int) := by omega
          have xe := Be.blk.cell
          have xa := ka.cell
          have xb := kb.cell
          clear HRD HRE HOTH
          go_wp2_with fail
          clear xe xa xb
          refine (hy4 _ _ Be.is).mono ?_
          rintro e w7 ⟨rfl, hb7⟩
          obtain ⟨e2, e3⟩ := HP.out
          rw [e2, e3, str_of]
          clear e2 e3 HP
          have kx := Blk.new w7 [.int .u64 (ep : Int), .string p] 36
          replace km := (km.below hb7).alloc (.cells #[.int .u64 (ep : Int), .string p] 36)
          replace hb := bt (bt hb hb7) (below_alloc w7 (.cells #[.int .u64 (ep : Int), .string p] 36))
          clear hb7 hy4
          have xm := km.cell
          have xx := kx.cell
          go_wp2
          go_ret
          exact ⟨by simp, hb⟩
end Go.Proofs.Ytpfbmmeipojodaa
