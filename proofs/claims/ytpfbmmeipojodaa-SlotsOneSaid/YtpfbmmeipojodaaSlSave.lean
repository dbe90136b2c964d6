/- slots.Save. -/
import Derived.Test.YtpfbmmeipojodaaGN
import Derived.Test.YtpfbmmeipojodaaWalLay
import Derived.Test.YtpfbmmeipojodaaGB
import Derived.Test.YtpfbmmeipojodaaGJ
import Derived.Deep.DeepCutAuto
import Derived.Deep.CutBlock
namespace Go.Proofs.Ytpfbmmeipojodaa
set_option linter.unusedSimpArgs false
set_option linter.unusedVariables false
open Go.RowKit Go.Shelf
open Crc
theorem best_cases (x y : Option Img) : best x y = (img0, 0, 9) ∨ ∃ m, best x y = (m, 0, 0) ∨ best x y = (m, 1, 0) := by
  cases x with
  | none => cases y with
    | none => exact .inl rfl
    | some b => exact .inr ⟨b, .inr rfl⟩
  | some a => cases y with
    | none => exact .inr ⟨a, .inl rfl⟩
    | some b =>
      by_cases h : b.ep ≤ a.ep
      · exact .inr ⟨a, .inl (by simp [best, h])⟩
      · exact .inr ⟨b, .inr (by simp [best, h])⟩
theorem load_cases {d : Dk} {fa sa fb sb : Int} (h : slE d fa sa fb sb = 0) : loadR d fa sa fb sb = (img0, 0, 15) ∨ loadR d fa sa fb sb = (img0, 0, 9) ∨ ∃ m, loadR d fa sa fb sb = (m, 0, 0) ∨ loadR d fa sa fb sb = (m, 1, 0) := by
  unfold loadR
  rw [if_neg (by simp [h])]
  by_cases ho : d.off = true
  · rw [if_pos ho]; exact .inl rfl
  · rw [if_neg ho]; exact .inr (best_cases _ _)
theorem img_check (ep : Nat) (pay : List UInt8) : frCheck ⟨2, ep, 0, pay⟩ = if 16384 < pay.length then 3 else 0 := by
  unfold frCheck
  rw [if_neg (by show ¬ (2 : UInt8) = 0; decide)]
theorem imgSecs_len (m : Img) : (imgSecs m).length = piecesN m.pay.length + 1 := by rw [imgSecs, List.length_map, sectorsL_length]; rfl

set_option maxHeartbeats 4000000 in
set_option maxRecDepth 100000 in
theorem save_w (v : Value) (d : Dk) (fa sa fb sb : Int) (ep : Nat) (p : ByteArray) (w : World) (hv : DkIs w v d) (hfa : -9223372036854775808 ≤ fa ∧ fa ≤ 9223372036854775807) (hsa : -9223372036854775808 ≤ sa ∧ sa ≤ 9223372036854775807) (hfb : -9223372036854775808 ≤ fb ∧ fb ≤ 9223372036854775807) (hsb : -9223372036854775808 ≤ sb ∧ sb ≤ 9223372036854775807) :
    Calls Try.prog 11 #[v, .agg #[.int .i64 fa, .int .i64 sa], .agg #[.int .i64 fb, .int .i64 sb], .agg #[.int .u64 (ep : Int), .string p]] w (DkRet (saveR d fa sa fb sb ⟨ep, p.data.toList⟩).1 (saveR d fa sa fb sb ⟨ep, p.data.toList⟩).2 w) := by
  have hv0 := hv
  obtain ⟨A1, c1, A2, c2, rfl, h1, h2, hl1, hl2, hf1, hf2⟩ := hv
  obtain ⟨W, HW, Bd, ka, kb, km, hb, hz⟩ := dabm_in w hv0 fa sa fb sb ep p
  have kz := Blk.new W [.slice none 0 0, .slice none 0 0, .bool false, .int .i64 0] 28
  rw [hz] at kz
  have hbz := below_alloc W (.cells #[.slice none 0 0, .slice none 0 0, .bool false, .int .i64 0] 28)
  replace Bd := Bd.below hbz
  replace ka := ka.below hbz
  replace kb := kb.below hbz
  replace km := km.below hbz
  replace hb := bt hb hbz
  obtain ⟨V, HV⟩ := named (W.alloc (.cells #[.slice none 0 0, .slice none 0 0, .bool false, .int .i64 0] 28))
  rw [← HV.out] at Bd ka kb km kz hb
  rw [HW.out] at HV
  have hck := slCheck_w _ d fa sa fb sb V (hv0.below hb) hfa hsa hfb hsb
  have hld := fun W (h : Below w.heap.size w W) => load_w _ d fa sa fb sb W (hv0.below h) hfa hsa hfb hsb
  obtain ⟨D, HD⟩ := named (saveR d fa sa fb sb ⟨ep, p.data.toList⟩).1
  obtain ⟨E, HE⟩ := named (saveR d fa sa fb sb ⟨ep, p.data.toList⟩).2
  rw [← HD.out, ← HE.out]
  have hlc := fun h : slE d fa sa fb sb = 0 => load_cases h
  have hsz := fun h : slE d fa sa fb sb = 0 => sl_zero h
  have hbad : slE d fa sa fb sb ≠ 0 → D = dk0 ∧ E = slE d fa sa fb sb := fun h => by
    rw [HD.out, HE.out]; unfold saveR; rw [if_pos h]; exact ⟨rfl, rfl⟩
  have hgood : slE d fa sa fb sb = 0 → D = (saveOn d fa sa fb sb ⟨ep, p.data.toList⟩ (loadR d fa sa fb sb)).1 ∧ E = (saveOn d fa sa fb sb ⟨ep, p.data.toList⟩ (loadR d fa sa fb sb)).2 := fun h => by
    rw [HD.out, HE.out]; unfold saveR; rw [if_neg (by simp [h])]; exact ⟨rfl, rfl⟩
  obtain ⟨X, HX⟩ := named (slE d fa sa fb sb)
  rw [← HX.out] at hck hlc hsz hbad hgood
  clear hz HW HX HD HE hbz
  go_enter Try.func11, Try.ntmps11
  have xd := Bd.blk.cell
  have xa := ka.cell
  have xb := kb.cell
  rw [HV.out] at xd xa xb
  go_wp2_with fail
  rw [← HV.out]
  clear xd xa xb HV
  refine hck.mono ?_
  rintro e W2 ⟨rfl, hb2⟩
  replace Bd := Bd.below hb2
  replace ka := ka.below hb2
  replace kb := kb.below hb2
  replace km := km.below hb2
  replace kz := kz.below hb2
  replace hb := bt hb hb2
  clear hb2 hck
  by_cases hX : X = 0
  case neg =>
    have t1 : (X == 0) = false := by simp [hX]
    have t2 : (X != 0) = true := by simp [hX]
    have HN := hide (hbad hX)
    clear hX hsz hbad hgood hlc hld
    have r0 := kz.cell 0
    have r1 := kz.cell 1
    have r2 := kz.cell 2
    have r3 := kz.cell 3
    have z0 := kz.free 0
    have z1 := kz.free 1
    have z2 := kz.free 2
    have z3 := kz.free 3
    go_wp2_with fail
    refine bodyPost_ret (v := .tuple #[.agg #[.slice none 0 0, .slice none 0 0, .bool false, .int .i64 0], .int .i64 X]) (by simp [results, Try.results11, go_sem, r0, r1, r2, r3]) rfl ?_
    obtain ⟨e1, e2⟩ := HN.out
    rw [e1, e2]
    exact ⟨_, rfl, DkIs.zero _, below4 hb (by omega) (.slice none 0 0) (.slice none 0 0) (.bool false) (.int .i64 0)⟩
  have t1 : (X == 0) = true := by simp [hX]
  have t2 : (X != 0) = false := by simp [hX]
  obtain ⟨ha0, hb0, _⟩ := hsz hX
  obtain ⟨hr, a1, a2, a3, a4⟩ := wal_zero ha0
  obtain ⟨_, b1, b2, b3, b4⟩ := wal_zero hb0
  have hlen := right_len hr
  have hpd := (right_iff.1 hr).2.1
  have hRc := hlc hX
  obtain ⟨gD, gE⟩ := hgood hX
  have xd := Bd.blk.cell
  have xa := ka.cell
  have xb := kb.cell
  obtain ⟨R, HR⟩ := named (loadR d fa sa fb sb)
  rw [← HR.out] at hRc gD gE
  simp only [← HR.out] at hld
  have HG := hide (And.intro gD gE)
  clear hX hsz ha0 hb0 hbad hgood hlc gD gE HR hr
  go_wp2_with fail
  refine (hld _ hb).mono ?_
  rintro e W3 ⟨rfl, hb3⟩
  replace Bd := Bd.below hb3
  replace ka := ka.below hb3
  replace kb := kb.below hb3
  replace km := km.below hb3
  replace kz := kz.below hb3
  replace hb := bt hb hb3
  clear hb3 hld xd xa xb t1 t2
  obtain ⟨fa', rfl⟩ := Int.eq_ofNat_of_zero_le a1
  obtain ⟨fb', rfl⟩ := Int.eq_ofNat_of_zero_le b1
  obtain ⟨sa', rfl⟩ := Int.eq_ofNat_of_zero_le (show 0 ≤ sa by omega)
  obtain ⟨sb', rfl⟩ := Int.eq_ofNat_of_zero_le (show 0 ≤ sb by omega)
  have hsc := fun W (h : p.size ≤ 16384) => recSectors_yes 2 ep 0 p W (by decide) h
  have hsn := fun W (h : 16384 < p.size) => recSectors_no 2 ep 0 p W (by rw [img_check, if_pos (by rw [Array.length_toList]; exact h)]; decide)
  have hpl : p.data.toList.length = p.size := Array.length_toList
  have hnl : ∀ h : p.size ≤ 16384, 1 ≤ piecesN p.size + 1 ∧ piecesN p.size + 1 ≤ 270 := fun h => by unfold piecesN; omega
  obtain ⟨LL, HLL⟩ := named (imgSecs ⟨ep, p.data.toList⟩)
  have hLn : LL.length = piecesN p.size + 1 := by rw [HLL.out, imgSecs_len]; show piecesN p.data.toList.length + 1 = _; rw [hpl]
  simp only [show (sectorsL ⟨2, ep, 0, p.data.toList⟩).map str = LL from HLL.out.symm] at hsc
  have hst15 : 16384 < p.size → frCheck ⟨2, ep, 0, p.data.toList⟩ = 3 := fun h => by rw [img_check, if_pos (by rw [hpl]; exact h)]
  have hsn3 := fun W (h : 16384 < p.size) => hst15 h ▸ hsn W h
  obtain ⟨n, Hn⟩ := named (piecesN p.size + 1)
  simp only [← Hn.out] at hsc hnl hLn
  have HLn := hide hLn
  have HPL := hide hpl
  clear hsn hst15 Hn hLn hpl
  rcases hRc with rfl | rfl | ⟨x, rfl | rfl⟩
  · rw [show loadVal (img0, 0, 15) = .tuple #[.agg #[.int .u64 0, .string ⟨#[]⟩], .int .i64 0, .int .i64 15] from by rfl]
    have ko := Blk.new W3 [.int .u64 0, .string ⟨#[]⟩] 36
    have hbo := below_alloc W3 (.cells #[.int .u64 0, .string ⟨#[]⟩] 36)
    replace Bd := Bd.below hbo
    replace ka := ka.below hbo
    replace kb := kb.below hbo
    replace km := km.below hbo
    replace kz := kz.below hbo
    replace hb := bt hb hbo
    go_upto_region 5 with fail
    obtain ⟨W4, HW4⟩ := named (W3.alloc (.cells #[.int .u64 0, .string ⟨#[]⟩] 36))
    obtain ⟨O, HO⟩ := named W3.heap.size
    rw [← HO.out] at ko ⊢
    rw [← HW4.out] at ko Bd ka kb km kz hb ⊢
    clear HW4 HO hbo
    have xa := ka.cell
    have xb := kb.cell
    have hp0 := pick0 (.int .i64 (fa' : Int)) (.int .i64 (sa' : Int)) (.int .i64 (fb' : Int)) (.int .i64 (sb' : Int))
    have hp1 := pick1 (.int .i64 (fa' : Int)) (.int .i64 (sa' : Int)) (.int .i64 (fb' : Int)) (.int .i64 (sb' : Int))
    have ks := Blk.new W4 [.int .i64 (fb' : Int), .int .i64 (sb' : Int)] 33
    have hOS := ko.lt
    have hz4 := kz.lt
    have hbo := below_alloc W4 (.cells #[.int .i64 (fb' : Int), .int .i64 (sb' : Int)] 33)
    replace ko := ko.below hbo
    replace Bd := Bd.below hbo
    replace ka := ka.below hbo
    replace kb := kb.below hbo
    replace km := km.below hbo
    replace kz := kz.below hbo
    replace hb := bt hb hbo
    go_upto_region 6 with fail
    obtain ⟨W5, HW5⟩ := named (W4.alloc (.cells #[.int .i64 (fb' : Int), .int .i64 (sb' : Int)] 33))
    obtain ⟨Q, HQ⟩ := named W4.heap.size
    have hQ9 : w.heap.size + 1 + 1 + 1 + 1 < Q := by rw [HQ.out]; exact hz4
    rw [← HQ.out] at ks hOS ⊢
    rw [← HW5.out] at ko ks Bd ka kb km kz hb ⊢
    clear HW5 HQ hbo xa xb hp0 hp1
    go_upto_region 8 with fail
    have xm := km.cell
    clear hOS hz4 hQ9
    go_wp2_with fail
    clear xm
    by_cases hps : p.size ≤ 16384
    · refine (hsc _ hps).mono ?_
      rintro e W6 ⟨⟨A9, c9, rfl, hc9, ht9⟩, hb6⟩
      replace ko := ko.below hb6
      replace ks := ks.below hb6
      replace Bd := Bd.below hb6
      replace ka := ka.below hb6
      replace kb := kb.below hb6
      replace km := km.below hb6
      replace kz := kz.below hb6
      replace hb := bt hb hb6
      obtain ⟨hn1, hn2⟩ := hnl hps
      clear hsc hsn3 hnl hb6
      go_upto_block 0 with fail
      go_cut [16] (fun x wx => ∃ z : Int, x = .int .i64 z ∧ Hid (D = d ∧ E = z) ∧ Box wx w.heap.size A1 c1 A2 c2 d ∧ Blk wx (w.heap.size + 1 + 1 + 1 + 1) [.slice none 0 0, .slice none 0 0, .bool false, .int .i64 0] 28 ∧ Below w.heap.size w wx)
      case first =>
        have HE : Hid (D = d ∧ E = 15) := by
          obtain ⟨e1, e2⟩ := HG.out
          rw [e1, e2]
          exact ⟨rfl, rfl⟩
        clear HG
        go_wp2
        go_meet
        case rel => exact ⟨15, rfl, HE, Bd, kz, hb⟩
      case rest =>
        obtain ⟨z, rfl, HE, Bd, kz, hb⟩ := hcut
        clear ka kb km ks ko
        go_wp2_with fail
        refine region_flat _ (fun u => (∃ X1 m1 X2 m2, Box u w.heap.size X1 m1 X2 m2 d) ∧ Below w.heap.size w u ∧ Blk u (w.heap.size + 1 + 1 + 1 + 1) [.slice none 0 0, .slice none 0 0, .bool false, .int .i64 0] 28) (fun u u' => KeepCell w.heap.size u u')
          (rel [fun v _ => v = .pointer (some ⟨w.heap.size, 0, none⟩),
            fun v u => ∃ A c, v = .slice A d.secs.length c ∧ Texts u A d.secs,
            fun v u => ∃ A c, v = .slice A d.secs.length c ∧ Texts u A d.secs,
            fun v _ => v = .pointer (some ⟨w.heap.size, 1, none⟩),
            fun v u => ∃ A c, v = .slice A d.pend.length c ∧ Writes u A d.pend,
            fun v u => ∃ A c, v = .slice A d.pend.length c ∧ Writes u A d.pend,
            fun v _ => v = .pointer (some ⟨w.heap.size, 0, none⟩),
            fun _ _ => True,
            fun v _ => v = .pointer (some ⟨w.heap.size, 1, none⟩),
            fun _ _ => True])
          (by kernel_rfl) (by kernel_rfl) (fun v => by simp only [putsV, Act.put, List.toList_toArray, List.setIfInBounds_toArray, List.set_cons_zero, List.set_cons_succ, Nat.reduceAdd, Nat.zero_add]; rfl) ?_ ⟨⟨A1, c1, A2, c2, ⟨Bd.blk, Bd.tx.drew, Bd.wr.drew, hl1, hl2, hf1, hf2⟩⟩, hb.drew, kz⟩ ?_ ?_
        · intro j x u u' hb h
          match j with
          | 0 => exact h
          | 1 => exact (let ⟨A, c, e, t⟩ := h; ⟨A, c, e, texts_keep t hb⟩)
          | 2 => exact (let ⟨A, c, e, t⟩ := h; ⟨A, c, e, texts_keep t hb⟩)
          | 3 => exact h
          | 4 => exact (let ⟨A, c, e, t⟩ := h; ⟨A, c, e, writes_keep t hb⟩)
          | 5 => exact (let ⟨A, c, e, t⟩ := h; ⟨A, c, e, writes_keep t hb⟩)
          | 6 => exact h
          | 7 => exact trivial
          | 8 => exact h
          | 9 => exact trivial
          | _ + 10 => trivial
        · refine ⟨?_, ?_, ?_, ?_, ?_, ?_, ?_, ?_, ?_, ?_, trivial⟩
          · intro v u hS hd K' hK
            simp only [waited, List.toList_toArray, Region.binds, rel, List.getD_cons_zero, List.getD_cons_succ, true_imp_iff, and_true] at hd
            simp only [rel, List.getD_cons_zero, List.getD_cons_succ, Act.put, List.setIfInBounds_toArray, List.set_cons_zero, List.set_cons_succ] at hK
            try simp only [hd] at hK
            obtain ⟨hS1, hS2, hS3⟩ := hS
            obtain ⟨X1, m1, X2, m2, hBB⟩ := hS1
            go_simp
            exact hK.out _ _ ⟨⟨⟨X1, m1, X2, m2, hBB⟩, hS2, hS3⟩, .inl (Below.refl _ _), rfl⟩
          · intro v u hS hd K' hK
            simp only [waited, List.toList_toArray, Region.binds, rel, List.getD_cons_zero, List.getD_cons_succ, true_imp_iff, and_true] at hd
            simp only [rel, List.getD_cons_zero, List.getD_cons_succ, Act.put, List.setIfInBounds_toArray, List.set_cons_zero, List.set_cons_succ] at hK
            try simp only [hd] at hK
            obtain ⟨hS1, hS2, hS3⟩ := hS
            obtain ⟨X1, m1, X2, m2, hBB⟩ := hS1
            have x0 := hBB.blk.cell 0
            go_simp
            exact hK.out _ _ ⟨⟨⟨X1, m1, X2, m2, hBB⟩, hS2, hS3⟩, .inl (Below.refl _ _), ⟨_, _, rfl, hBB.tx⟩⟩
          · intro v u hS hd K' hK
            simp only [waited, List.toList_toArray, Region.binds, rel, List.getD_cons_zero, List.getD_cons_succ, true_imp_iff, and_true] at hd
            simp only [rel, List.getD_cons_zero, List.getD_cons_succ, Act.put, List.setIfInBounds_toArray, List.set_cons_zero, List.set_cons_succ] at hK
            try simp only [hd] at hK
            obtain ⟨hS1, hS2, hS3⟩ := hS
            obtain ⟨X1, m1, X2, m2, hBB⟩ := hS1
            obtain ⟨A, c, e1, t⟩ := hd
            simp only [e1] at hK
            go_simp
            refine (cloneS_w A c _ u t (by omega)).mono ?_
            rintro e w2 ⟨v2, rfl, ho, hb2⟩
            obtain ⟨A', c', rfl, _, _, hl', _⟩ := Lies.of_own ho
            exact hK.out _ _ ⟨⟨⟨X1, m1, X2, m2, hBB.below hb2⟩, bt hS2 hb2, hS3.below hb2⟩, .inl hb2, ⟨_, _, rfl, hl'⟩⟩
          · intro v u hS hd K' hK
            simp only [waited, List.toList_toArray, Region.binds, rel, List.getD_cons_zero, List.getD_cons_succ, true_imp_iff, and_true] at hd
            simp only [rel, List.getD_cons_zero, List.getD_cons_succ, Act.put, List.setIfInBounds_toArray, List.set_cons_zero, List.set_cons_succ] at hK
            try simp only [hd] at hK
            obtain ⟨hS1, hS2, hS3⟩ := hS
            obtain ⟨X1, m1, X2, m2, hBB⟩ := hS1
            go_simp
            exact hK.out _ _ ⟨⟨⟨X1, m1, X2, m2, hBB⟩, hS2, hS3⟩, .inl (Below.refl _ _), rfl⟩
          · intro v u hS hd K' hK
            simp only [waited, List.toList_toArray, Region.binds, rel, List.getD_cons_zero, List.getD_cons_succ, true_imp_iff, and_true] at hd
            simp only [rel, List.getD_cons_zero, List.getD_cons_succ, Act.put, List.setIfInBounds_toArray, List.set_cons_zero, List.set_cons_succ] at hK
            try simp only [hd] at hK
            obtain ⟨hS1, hS2, hS3⟩ := hS
            obtain ⟨X1, m1, X2, m2, hBB⟩ := hS1
            have x0 := hBB.blk.cell 1
            go_simp
            exact hK.out _ _ ⟨⟨⟨X1, m1, X2, m2, hBB⟩, hS2, hS3⟩, .inl (Below.refl _ _), ⟨_, _, rfl, hBB.wr⟩⟩
          · intro v u hS hd K' hK
            simp only [waited, List.toList_toArray, Region.binds, rel, List.getD_cons_zero, List.getD_cons_succ, true_imp_iff, and_true] at hd
            simp only [rel, List.getD_cons_zero, List.getD_cons_succ, Act.put, List.setIfInBounds_toArray, List.set_cons_zero, List.set_cons_succ] at hK
            try simp only [hd] at hK
            obtain ⟨hS1, hS2, hS3⟩ := hS
            obtain ⟨X1, m1, X2, m2, hBB⟩ := hS1
            obtain ⟨⟨A, c, e1, t⟩, _⟩ := hd
            simp only [e1] at hK
            go_simp
            refine (cloneW_w A c _ u t (by omega)).mono ?_
            rintro e w2 ⟨v2, rfl, ho, hb2⟩
            obtain ⟨A', c', rfl, _, _, hl', _⟩ := Lies.of_own ho
            exact hK.out _ _ ⟨⟨⟨X1, m1, X2, m2, hBB.below hb2⟩, bt hS2 hb2, hS3.below hb2⟩, .inl hb2, ⟨_, _, rfl, hl'⟩⟩
          · intro v u hS hd K' hK
            simp only [waited, List.toList_toArray, Region.binds, rel, List.getD_cons_zero, List.getD_cons_succ, true_imp_iff, and_true] at hd
            simp only [rel, List.getD_cons_zero, List.getD_cons_succ, Act.put, List.setIfInBounds_toArray, List.set_cons_zero, List.set_cons_succ] at hK
            try simp only [hd] at hK
            obtain ⟨hS1, hS2, hS3⟩ := hS
            obtain ⟨X1, m1, X2, m2, hBB⟩ := hS1
            go_simp
            exact hK.out _ _ ⟨⟨⟨X1, m1, X2, m2, hBB⟩, hS2, hS3⟩, .inl (Below.refl _ _), rfl⟩
          · intro v u hS hd K' hK
            simp only [waited, List.toList_toArray, Region.binds, rel, List.getD_cons_zero, List.getD_cons_succ, true_imp_iff, and_true] at hd
            simp only [rel, List.getD_cons_zero, List.getD_cons_succ, Act.put, List.setIfInBounds_toArray, List.set_cons_zero, List.set_cons_succ] at hK
            try simp only [hd] at hK
            obtain ⟨hS1, hS2, hS3⟩ := hS
            obtain ⟨X1, m1, X2, m2, hBB⟩ := hS1
            obtain ⟨h0, ⟨A, c, e1, t⟩, _⟩ := hd
            try simp only [h0, e1] at hK ⊢
            have y0 := hBB.blk.cell 0
            have y1 := hBB.blk.free 0
            go_simp
            have hG := keepCell_set hBB 0 (.slice A d.secs.length c)
            exact hK.out undef _ ⟨⟨⟨_, _, _, _, hBB.set0 t⟩, below_keepCell hS2 hG (Nat.le_refl _), hS3.keepCell hG (by omega)⟩, hG, trivial⟩
          · intro v u hS hd K' hK
            simp only [waited, List.toList_toArray, Region.binds, rel, List.getD_cons_zero, List.getD_cons_succ, true_imp_iff, and_true] at hd
            simp only [rel, List.getD_cons_zero, List.getD_cons_succ, Act.put, List.setIfInBounds_toArray, List.set_cons_zero, List.set_cons_succ] at hK
            try simp only [hd] at hK
            obtain ⟨hS1, hS2, hS3⟩ := hS
            obtain ⟨X1, m1, X2, m2, hBB⟩ := hS1
            go_simp
            exact hK.out _ _ ⟨⟨⟨X1, m1, X2, m2, hBB⟩, hS2, hS3⟩, .inl (Below.refl _ _), rfl⟩
          · intro v u hS hd K' hK
            simp only [waited, List.toList_toArray, Region.binds, rel, List.getD_cons_zero, List.getD_cons_succ, true_imp_iff, and_true] at hd
            simp only [rel, List.getD_cons_zero, List.getD_cons_succ, Act.put, List.setIfInBounds_toArray, List.set_cons_zero, List.set_cons_succ] at hK
            try simp only [hd] at hK
            obtain ⟨hS1, hS2, hS3⟩ := hS
            obtain ⟨X1, m1, X2, m2, hBB⟩ := hS1
            obtain ⟨h0, ⟨A, c, e1, t⟩, _⟩ := hd
            try simp only [h0, e1] at hK ⊢
            have y0 := hBB.blk.cell 1
            have y1 := hBB.blk.free 1
            go_simp
            have hG := keepCell_set hBB 1 (.slice A d.pend.length c)
            exact hK.out undef _ ⟨⟨⟨_, _, _, _, hBB.set1 t⟩, below_keepCell hS2 hG (Nat.le_refl _), hS3.keepCell hG (by omega)⟩, hG, trivial⟩
        · rintro v u ⟨hS1, hS2, hS3⟩ hR
          simp only [holdAll, List.size_toArray, List.length_cons, List.length_nil, Nat.reduceAdd, rel, List.getD_cons_zero, List.getD_cons_succ] at hR
          clear hR
          obtain ⟨X1, m1, X2, m2, hBB⟩ := hS1
          have q0 := hBB.blk.cell 0
          have q1 := hBB.blk.cell 1
          have q2 := hBB.blk.cell 2
          have q3 := hBB.blk.cell 3
          have r0 := hS3.cell 0
          have r1 := hS3.cell 1
          have r2 := hS3.cell 2
          have r3 := hS3.cell 3
          have z0 := hS3.free 0
          have z1 := hS3.free 1
          have z2 := hS3.free 2
          have z3 := hS3.free 3
          go_wp2_with fail
          refine bodyPost_ret (v := .tuple #[.agg #[.slice X1 d.secs.length m1, .slice X2 d.pend.length m2, .bool d.off, .int .i64 d.fuse], .int .i64 z]) (by simp [results, Try.results11, go_sem, r0, r1, r2, r3]) rfl ?_
          obtain ⟨e1, e2⟩ := HE.out
          rw [e1, e2]
          exact ⟨_, rfl, hand_on hBB.tx hBB.wr hBB.l1 hBB.l2 hBB.f1 hBB.f2 hS3 hS2 (by omega)⟩
    · refine (hsn3 _ (by omega)).mono ?_
      rintro e W6 ⟨rfl, hb6⟩
      replace ko := ko.below hb6
      replace ks := ks.below hb6
      replace Bd := Bd.below hb6
      replace ka := ka.below hb6
      replace kb := kb.below hb6
      replace km := km.below hb6
      replace kz := kz.below hb6
      replace hb := bt hb hb6
      clear hsc hsn3 hnl hb6
      go_upto_block 0 with fail
      go_cut [16] (fun x wx => ∃ z : Int, x = .int .i64 z ∧ Hid (D = d ∧ E = z) ∧ Box wx w.heap.size A1 c1 A2 c2 d ∧ Blk wx (w.heap.size + 1 + 1 + 1 + 1) [.slice none 0 0, .slice none 0 0, .bool false, .int .i64 0] 28 ∧ Below w.heap.size w wx)
      case first =>
        have HE : Hid (D = d ∧ E = 15) := by
          obtain ⟨e1, e2⟩ := HG.out
          rw [e1, e2]
          exact ⟨rfl, rfl⟩
        clear HG
        go_wp2
        go_meet
        case rel => exact ⟨15, rfl, HE, Bd, kz, hb⟩
      case rest =>
        obtain ⟨z, rfl, HE, Bd, kz, hb⟩ := hcut
        clear ka kb km ks ko
        go_wp2_with fail
        refine region_flat _ (fun u => (∃ X1 m1 X2 m2, Box u w.heap.size X1 m1 X2 m2 d) ∧ Below w.heap.size w u ∧ Blk u (w.heap.size + 1 + 1 + 1 + 1) [.slice none 0 0, .slice none 0 0, .bool false, .int .i64 0] 28) (fun u u' => KeepCell w.heap.size u u')
          (rel [fun v _ => v = .pointer (some ⟨w.heap.size, 0, none⟩),
            fun v u => ∃ A c, v = .slice A d.secs.length c ∧ Texts u A d.secs,
            fun v u => ∃ A c, v = .slice A d.secs.length c ∧ Texts u A d.secs,
            fun v _ => v = .pointer (some ⟨w.heap.size, 1, none⟩),
            fun v u => ∃ A c, v = .slice A d.pend.length c ∧ Writes u A d.pend,
            fun v u => ∃ A c, v = .slice A d.pend.length c ∧ Writes u A d.pend,
            fun v _ => v = .pointer (some ⟨w.heap.size, 0, none⟩),
            fun _ _ => True,
            fun v _ => v = .pointer (some ⟨w.heap.size, 1, none⟩),
            fun _ _ => True])
          (by kernel_rfl) (by kernel_rfl) (fun v => by simp only [putsV, Act.put, List.toList_toArray, List.setIfInBounds_toArray, List.set_cons_zero, List.set_cons_succ, Nat.reduceAdd, Nat.zero_add]; rfl) ?_ ⟨⟨A1, c1, A2, c2, ⟨Bd.blk, Bd.tx.drew, Bd.wr.drew, hl1, hl2, hf1, hf2⟩⟩, hb.drew, kz⟩ ?_ ?_
        · intro j x u u' hb h
          match j with
          | 0 => exact h
          | 1 => exact (let ⟨A, c, e, t⟩ := h; ⟨A, c, e, texts_keep t hb⟩)
          | 2 => exact (let ⟨A, c, e, t⟩ := h; ⟨A, c, e, texts_keep t hb⟩)
          | 3 => exact h
          | 4 => exact (let ⟨A, c, e, t⟩ := h; ⟨A, c, e, writes_keep t hb⟩)
          | 5 => exact (let ⟨A, c, e, t⟩ := h; ⟨A, c, e, writes_keep t hb⟩)
          | 6 => exact h
          | 7 => exact trivial
          | 8 => exact h
          | 9 => exact trivial
          | _ + 10 => trivial
        · refine ⟨?_, ?_, ?_, ?_, ?_, ?_, ?_, ?_, ?_, ?_, trivial⟩
          · intro v u hS hd K' hK
            simp only [waited, List.toList_toArray, Region.binds, rel, List.getD_cons_zero, List.getD_cons_succ, true_imp_iff, and_true] at hd
            simp only [rel, List.getD_cons_zero, List.getD_cons_succ, Act.put, List.setIfInBounds_toArray, List.set_cons_zero, List.set_cons_succ] at hK
            try simp only [hd] at hK
            obtain ⟨hS1, hS2, hS3⟩ := hS
            obtain ⟨X1, m1, X2, m2, hBB⟩ := hS1
            go_simp
            exact hK.out _ _ ⟨⟨⟨X1, m1, X2, m2, hBB⟩, hS2, hS3⟩, .inl (Below.refl _ _), rfl⟩
          · intro v u hS hd K' hK
            simp only [waited, List.toList_toArray, Region.binds, rel, List.getD_cons_zero, List.getD_cons_succ, true_imp_iff, and_true] at hd
            simp only [rel, List.getD_cons_zero, List.getD_cons_succ, Act.put, List.setIfInBounds_toArray, List.set_cons_zero, List.set_cons_succ] at hK
            try simp only [hd] at hK
            obtain ⟨hS1, hS2, hS3⟩ := hS
            obtain ⟨X1, m1, X2, m2, hBB⟩ := hS1
            have x0 := hBB.blk.cell 0
            go_simp
            exact hK.out _ _ ⟨⟨⟨X1, m1, X2, m2, hBB⟩, hS2, hS3⟩, .inl (Below.refl _ _), ⟨_, _, rfl, hBB.tx⟩⟩
          · intro v u hS hd K' hK
            simp only [waited, List.toList_toArray, Region.binds, rel, List.getD_cons_zero, List.getD_cons_succ, true_imp_iff, and_true] at hd
            simp only [rel, List.getD_cons_zero, List.getD_cons_succ, Act.put, List.setIfInBounds_toArray, List.set_cons_zero, List.set_cons_succ] at hK
            try simp only [hd] at hK
            obtain ⟨hS1, hS2, hS3⟩ := hS
            obtain ⟨X1, m1, X2, m2, hBB⟩ := hS1
            obtain ⟨A, c, e1, t⟩ := hd
            simp only [e1] at hK
            go_simp
            refine (cloneS_w A c _ u t (by omega)).mono ?_
            rintro e w2 ⟨v2, rfl, ho, hb2⟩
            obtain ⟨A', c', rfl, _, _, hl', _⟩ := Lies.of_own ho
            exact hK.out _ _ ⟨⟨⟨X1, m1, X2, m2, hBB.below hb2⟩, bt hS2 hb2, hS3.below hb2⟩, .inl hb2, ⟨_, _, rfl, hl'⟩⟩
          · intro v u hS hd K' hK
            simp only [waited, List.toList_toArray, Region.binds, rel, List.getD_cons_zero, List.getD_cons_succ, true_imp_iff, and_true] at hd
            simp only [rel, List.getD_cons_zero, List.getD_cons_succ, Act.put, List.setIfInBounds_toArray, List.set_cons_zero, List.set_cons_succ] at hK
            try simp only [hd] at hK
            obtain ⟨hS1, hS2, hS3⟩ := hS
            obtain ⟨X1, m1, X2, m2, hBB⟩ := hS1
            go_simp
            exact hK.out _ _ ⟨⟨⟨X1, m1, X2, m2, hBB⟩, hS2, hS3⟩, .inl (Below.refl _ _), rfl⟩
          · intro v u hS hd K' hK
            simp only [waited, List.toList_toArray, Region.binds, rel, List.getD_cons_zero, List.getD_cons_succ, true_imp_iff, and_true] at hd
            simp only [rel, List.getD_cons_zero, List.getD_cons_succ, Act.put, List.setIfInBounds_toArray, List.set_cons_zero, List.set_cons_succ] at hK
            try simp only [hd] at hK
            obtain ⟨hS1, hS2, hS3⟩ := hS
            obtain ⟨X1, m1, X2, m2, hBB⟩ := hS1
            have x0 := hBB.blk.cell 1
            go_simp
            exact hK.out _ _ ⟨⟨⟨X1, m1, X2, m2, hBB⟩, hS2, hS3⟩, .inl (Below.refl _ _), ⟨_, _, rfl, hBB.wr⟩⟩
          · intro v u hS hd K' hK
            simp only [waited, List.toList_toArray, Region.binds, rel, List.getD_cons_zero, List.getD_cons_succ, true_imp_iff, and_true] at hd
            simp only [rel, List.getD_cons_zero, List.getD_cons_succ, Act.put, List.setIfInBounds_toArray, List.set_cons_zero, List.set_cons_succ] at hK
            try simp only [hd] at hK
            obtain ⟨hS1, hS2, hS3⟩ := hS
            obtain ⟨X1, m1, X2, m2, hBB⟩ := hS1
            obtain ⟨⟨A, c, e1, t⟩, _⟩ := hd
            simp only [e1] at hK
            go_simp
            refine (cloneW_w A c _ u t (by omega)).mono ?_
            rintro e w2 ⟨v2, rfl, ho, hb2⟩
            obtain ⟨A', c', rfl, _, _, hl', _⟩ := Lies.of_own ho
            exact hK.out _ _ ⟨⟨⟨X1, m1, X2, m2, hBB.below hb2⟩, bt hS2 hb2, hS3.below hb2⟩, .inl hb2, ⟨_, _, rfl, hl'⟩⟩
          · intro v u hS hd K' hK
            simp only [waited, List.toList_toArray, Region.binds, rel, List.getD_cons_zero, List.getD_cons_succ, true_imp_iff, and_true] at hd
            simp only [rel, List.getD_cons_zero, List.getD_cons_succ, Act.put, List.setIfInBounds_toArray, List.set_cons_zero, List.set_cons_succ] at hK
            try simp only [hd] at hK
            obtain ⟨hS1, hS2, hS3⟩ := hS
            obtain ⟨X1, m1, X2, m2, hBB⟩ := hS1
            go_simp
            exact hK.out _ _ ⟨⟨⟨X1, m1, X2, m2, hBB⟩, hS2, hS3⟩, .inl (Below.refl _ _), rfl⟩
          · intro v u hS hd K' hK
            simp only [waited, List.toList_toArray, Region.binds, rel, List.getD_cons_zero, List.getD_cons_succ, true_imp_iff, and_true] at hd
            simp only [rel, List.getD_cons_zero, List.getD_cons_succ, Act.put, List.setIfInBounds_toArray, List.set_cons_zero, List.set_cons_succ] at hK
            try simp only [hd] at hK
            obtain ⟨hS1, hS2, hS3⟩ := hS
            obtain ⟨X1, m1, X2, m2, hBB⟩ := hS1
            obtain ⟨h0, ⟨A, c, e1, t⟩, _⟩ := hd
            try simp only [h0, e1] at hK ⊢
            have y0 := hBB.blk.cell 0
            have y1 := hBB.blk.free 0
            go_simp
            have hG := keepCell_set hBB 0 (.slice A d.secs.length c)
            exact hK.out undef _ ⟨⟨⟨_, _, _, _, hBB.set0 t⟩, below_keepCell hS2 hG (Nat.le_refl _), hS3.keepCell hG (by omega)⟩, hG, trivial⟩
          · intro v u hS hd K' hK
            simp only [waited, List.toList_toArray, Region.binds, rel, List.getD_cons_zero, List.getD_cons_succ, true_imp_iff, and_true] at hd
            simp only [rel, List.getD_cons_zero, List.getD_cons_succ, Act.put, List.setIfInBounds_toArray, List.set_cons_zero, List.set_cons_succ] at hK
            try simp only [hd] at hK
            obtain ⟨hS1, hS2, hS3⟩ := hS
            obtain ⟨X1, m1, X2, m2, hBB⟩ := hS1
            go_simp
            exact hK.out _ _ ⟨⟨⟨X1, m1, X2, m2, hBB⟩, hS2, hS3⟩, .inl (Below.refl _ _), rfl⟩
          · intro v u hS hd K' hK
            simp only [waited, List.toList_toArray, Region.binds, rel, List.getD_cons_zero, List.getD_cons_succ, true_imp_iff, and_true] at hd
            simp only [rel, List.getD_cons_zero, List.getD_cons_succ, Act.put, List.setIfInBounds_toArray, List.set_cons_zero, List.set_cons_succ] at hK
            try simp only [hd] at hK
            obtain ⟨hS1, hS2, hS3⟩ := hS
            obtain ⟨X1, m1, X2, m2, hBB⟩ := hS1
            obtain ⟨h0, ⟨A, c, e1, t⟩, _⟩ := hd
            try simp only [h0, e1] at hK ⊢
            have y0 := hBB.blk.cell 1
            have y1 := hBB.blk.free 1
            go_simp
            have hG := keepCell_set hBB 1 (.slice A d.pend.length c)
            exact hK.out undef _ ⟨⟨⟨_, _, _, _, hBB.set1 t⟩, below_keepCell hS2 hG (Nat.le_refl _), hS3.keepCell hG (by omega)⟩, hG, trivial⟩
        · rintro v u ⟨hS1, hS2, hS3⟩ hR
          simp only [holdAll, List.size_toArray, List.length_cons, List.length_nil, Nat.reduceAdd, rel, List.getD_cons_zero, List.getD_cons_succ] at hR
          clear hR
          obtain ⟨X1, m1, X2, m2, hBB⟩ := hS1
          have q0 := hBB.blk.cell 0
          have q1 := hBB.blk.cell 1
          have q2 := hBB.blk.cell 2
          have q3 := hBB.blk.cell 3
          have r0 := hS3.cell 0
          have r1 := hS3.cell 1
          have r2 := hS3.cell 2
          have r3 := hS3.cell 3
          have z0 := hS3.free 0
          have z1 := hS3.free 1
          have z2 := hS3.free 2
          have z3 := hS3.free 3
          go_wp2_with fail
          refine bodyPost_ret (v := .tuple #[.agg #[.slice X1 d.secs.length m1, .slice X2 d.pend.length m2, .bool d.off, .int .i64 d.fuse], .int .i64 z]) (by simp [results, Try.results11, go_sem, r0, r1, r2, r3]) rfl ?_
          obtain ⟨e1, e2⟩ := HE.out
          rw [e1, e2]
          exact ⟨_, rfl, hand_on hBB.tx hBB.wr hBB.l1 hBB.l2 hBB.f1 hBB.f2 hS3 hS2 (by omega)⟩
  · rw [show loadVal (img0, 0, 9) = .tuple #[.agg #[.int .u64 0, .string ⟨#[]⟩], .int .i64 0, .int .i64 9] from by rfl]
    have ko := Blk.new W3 [.int .u64 0, .string ⟨#[]⟩] 36
    have hbo := below_alloc W3 (.cells #[.int .u64 0, .string ⟨#[]⟩] 36)
    replace Bd := Bd.below hbo
    replace ka := ka.below hbo
    replace kb := kb.below hbo
    replace km := km.below hbo
    replace kz := kz.below hbo
    replace hb := bt hb hbo
    go_upto_region 5 with fail
    obtain ⟨W4, HW4⟩ := named (W3.alloc (.cells #[.int .u64 0, .string ⟨#[]⟩] 36))
    obtain ⟨O, HO⟩ := named W3.heap.size
    rw [← HO.out] at ko ⊢
    rw [← HW4.out] at ko Bd ka kb km kz hb ⊢
    clear HW4 HO hbo
    have xa := ka.cell
    have xb := kb.cell
    have hp0 := pick0 (.int .i64 (fa' : Int)) (.int .i64 (sa' : Int)) (.int .i64 (fb' : Int)) (.int .i64 (sb' : Int))
    have hp1 := pick1 (.int .i64 (fa' : Int)) (.int .i64 (sa' : Int)) (.int .i64 (fb' : Int)) (.int .i64 (sb' : Int))
    have ks := Blk.new W4 [.int .i64 (fb' : Int), .int .i64 (sb' : Int)] 33
    have hOS := ko.lt
    have hz4 := kz.lt
    have hbo := below_alloc W4 (.cells #[.int .i64 (fb' : Int), .int .i64 (sb' : Int)] 33)
    replace ko := ko.below hbo
    replace Bd := Bd.below hbo
    replace ka := ka.below hbo
    replace kb := kb.below hbo
    replace km := km.below hbo
    replace kz := kz.below hbo
    replace hb := bt hb hbo
    go_upto_region 6 with fail
    obtain ⟨W5, HW5⟩ := named (W4.alloc (.cells #[.int .i64 (fb' : Int), .int .i64 (sb' : Int)] 33))
    obtain ⟨Q, HQ⟩ := named W4.heap.size
    have hQ9 : w.heap.size + 1 + 1 + 1 + 1 < Q := by rw [HQ.out]; exact hz4
    rw [← HQ.out] at ks hOS ⊢
    rw [← HW5.out] at ko ks Bd ka kb km kz hb ⊢
    clear HW5 HQ hbo xa xb hp0 hp1
    have xa := ka.cell
    have xs := ks.cell
    have fs := ks.free
    go_upto_region 8 with fail
    replace ks := (ks.set 0 (.int .i64 (fa' : Int))).set 1 (.int .i64 (sa' : Int))
    replace ko := (ko.far (p := ⟨Q, 0, none⟩) (by show O ≠ Q; omega) (.int .i64 (fa' : Int))).far (p := ⟨Q, 1, none⟩) (by show O ≠ Q; omega) (.int .i64 (sa' : Int))
    replace ka := (ka.far (p := ⟨Q, 0, none⟩) (by show w.heap.size + 1 ≠ Q; omega) (.int .i64 (fa' : Int))).far (p := ⟨Q, 1, none⟩) (by show w.heap.size + 1 ≠ Q; omega) (.int .i64 (sa' : Int))
    replace kb := (kb.far (p := ⟨Q, 0, none⟩) (by show w.heap.size + 1 + 1 ≠ Q; omega) (.int .i64 (fa' : Int))).far (p := ⟨Q, 1, none⟩) (by show w.heap.size + 1 + 1 ≠ Q; omega) (.int .i64 (sa' : Int))
    replace km := (km.far (p := ⟨Q, 0, none⟩) (by show w.heap.size + 1 + 1 + 1 ≠ Q; omega) (.int .i64 (fa' : Int))).far (p := ⟨Q, 1, none⟩) (by show w.heap.size + 1 + 1 + 1 ≠ Q; omega) (.int .i64 (sa' : Int))
    replace kz := (kz.far (p := ⟨Q, 0, none⟩) (by show w.heap.size + 1 + 1 + 1 + 1 ≠ Q; omega) (.int .i64 (fa' : Int))).far (p := ⟨Q, 1, none⟩) (by show w.heap.size + 1 + 1 + 1 + 1 ≠ Q; omega) (.int .i64 (sa' : Int))
    replace hb := (hb.setCell (p := ⟨Q, 0, none⟩) (by show w.heap.size ≤ Q; omega) (.int .i64 (fa' : Int))).setCell (p := ⟨Q, 1, none⟩) (by show w.heap.size ≤ Q; omega) (.int .i64 (sa' : Int))
    have kd := (Bd.blk.far (p := ⟨Q, 0, none⟩) (by show w.heap.size ≠ Q; omega) (.int .i64 (fa' : Int))).far (p := ⟨Q, 1, none⟩) (by show w.heap.size ≠ Q; omega) (.int .i64 (sa' : Int))
    obtain ⟨W7, HW7⟩ := named ((W5.setCell ⟨Q, 0, none⟩ (.int .i64 (fa' : Int))).setCell ⟨Q, 1, none⟩ (.int .i64 (sa' : Int)))
    rw [← HW7.out] at ks ko ka kb km kz hb kd ⊢
    replace Bd : Box W7 w.heap.size A1 c1 A2 c2 d := ⟨kd, h1.below hb, h2.below hb, hl1, hl2, hf1, hf2⟩
    clear HW7 kd xa xs fs
    have xm := km.cell
    clear hOS hz4 hQ9
    go_wp2_with fail
    clear xm
    by_cases hps : p.size ≤ 16384
    case neg =>
      refine (hsn3 _ (by omega)).mono ?_
      rintro e W6 ⟨rfl, hb6⟩
      replace ko := ko.below hb6
      replace ks := ks.below hb6
      replace Bd := Bd.below hb6
      replace ka := ka.below hb6
      replace kb := kb.below hb6
      replace km := km.below hb6
      replace kz := kz.below hb6
      replace hb := bt hb hb6
      clear hsc hsn3 hnl hb6
      go_upto_block 0 with fail
      go_cut [16] (fun x wx => ∃ z : Int, x = .int .i64 z ∧ Hid (D = d ∧ E = z) ∧ Box wx w.heap.size A1 c1 A2 c2 d ∧ Blk wx (w.heap.size + 1 + 1 + 1 + 1) [.slice none 0 0, .slice none 0 0, .bool false, .int .i64 0] 28 ∧ Below w.heap.size w wx)
      case first =>
        have HE : Hid (D = d ∧ E = 3) := by
          obtain ⟨e1, e2⟩ := HG.out
          rw [e1, e2]
          unfold saveOn
          rw [if_neg (by simp), if_pos (by show 16384 < p.data.toList.length; rw [HPL.out]; omega)]
          exact ⟨rfl, rfl⟩
        clear HG
        go_wp2
        go_meet
        case rel => exact ⟨3, rfl, HE, Bd, kz, hb⟩
      case rest =>
        obtain ⟨z, rfl, HE, Bd, kz, hb⟩ := hcut
        clear ka kb km ks ko
        go_wp2_with fail
        refine region_flat _ (fun u => (∃ X1 m1 X2 m2, Box u w.heap.size X1 m1 X2 m2 d) ∧ Below w.heap.size w u ∧ Blk u (w.heap.size + 1 + 1 + 1 + 1) [.slice none 0 0, .slice none 0 0, .bool false, .int .i64 0] 28) (fun u u' => KeepCell w.heap.size u u')
          (rel [fun v _ => v = .pointer (some ⟨w.heap.size, 0, none⟩),
            fun v u => ∃ A c, v = .slice A d.secs.length c ∧ Texts u A d.secs,
            fun v u => ∃ A c, v = .slice A d.secs.length c ∧ Texts u A d.secs,
            fun v _ => v = .pointer (some ⟨w.heap.size, 1, none⟩),
            fun v u => ∃ A c, v = .slice A d.pend.length c ∧ Writes u A d.pend,
            fun v u => ∃ A c, v = .slice A d.pend.length c ∧ Writes u A d.pend,
            fun v _ => v = .pointer (some ⟨w.heap.size, 0, none⟩),
            fun _ _ => True,
            fun v _ => v = .pointer (some ⟨w.heap.size, 1, none⟩),
            fun _ _ => True])
          (by kernel_rfl) (by kernel_rfl) (fun v => by simp only [putsV, Act.put, List.toList_toArray, List.setIfInBounds_toArray, List.set_cons_zero, List.set_cons_succ, Nat.reduceAdd, Nat.zero_add]; rfl) ?_ ⟨⟨A1, c1, A2, c2, ⟨Bd.blk, Bd.tx.drew, Bd.wr.drew, hl1, hl2, hf1, hf2⟩⟩, hb.drew, kz⟩ ?_ ?_
        · intro j x u u' hb h
          match j with
          | 0 => exact h
          | 1 => exact (let ⟨A, c, e, t⟩ := h; ⟨A, c, e, texts_keep t hb⟩)
          | 2 => exact (let ⟨A, c, e, t⟩ := h; ⟨A, c, e, texts_keep t hb⟩)
          | 3 => exact h
          | 4 => exact (let ⟨A, c, e, t⟩ := h; ⟨A, c, e, writes_keep t hb⟩)
          | 5 => exact (let ⟨A, c, e, t⟩ := h; ⟨A, c, e, writes_keep t hb⟩)
          | 6 => exact h
          | 7 => exact trivial
          | 8 => exact h
          | 9 => exact trivial
          | _ + 10 => trivial
        · refine ⟨?_, ?_, ?_, ?_, ?_, ?_, ?_, ?_, ?_, ?_, trivial⟩
          · intro v u hS hd K' hK
            simp only [waited, List.toList_toArray, Region.binds, rel, List.getD_cons_zero, List.getD_cons_succ, true_imp_iff, and_true] at hd
            simp only [rel, List.getD_cons_zero, List.getD_cons_succ, Act.put, List.setIfInBounds_toArray, List.set_cons_zero, List.set_cons_succ] at hK
            try simp only [hd] at hK
            obtain ⟨hS1, hS2, hS3⟩ := hS
            obtain ⟨X1, m1, X2, m2, hBB⟩ := hS1
            go_simp
            exact hK.out _ _ ⟨⟨⟨X1, m1, X2, m2, hBB⟩, hS2, hS3⟩, .inl (Below.refl _ _), rfl⟩
          · intro v u hS hd K' hK
            simp only [waited, List.toList_toArray, Region.binds, rel, List.getD_cons_zero, List.getD_cons_succ, true_imp_iff, and_true] at hd
            simp only [rel, List.getD_cons_zero, List.getD_cons_succ, Act.put, List.setIfInBounds_toArray, List.set_cons_zero, List.set_cons_succ] at hK
            try simp only [hd] at hK
            obtain ⟨hS1, hS2, hS3⟩ := hS
            obtain ⟨X1, m1, X2, m2, hBB⟩ := hS1
            have x0 := hBB.blk.cell 0
            go_simp
            exact hK.out _ _ ⟨⟨⟨X1, m1, X2, m2, hBB⟩, hS2, hS3⟩, .inl (Below.refl _ _), ⟨_, _, rfl, hBB.tx⟩⟩
          · intro v u hS hd K' hK
            simp only [waited, List.toList_toArray, Region.binds, rel, List.getD_cons_zero, List.getD_cons_succ, true_imp_iff, and_true] at hd
            simp only [rel, List.getD_cons_zero, List.getD_cons_succ, Act.put, List.setIfInBounds_toArray, List.set_cons_zero, List.set_cons_succ] at hK
            try simp only [hd] at hK
            obtain ⟨hS1, hS2, hS3⟩ := hS
            obtain ⟨X1, m1, X2, m2, hBB⟩ := hS1
            obtain ⟨A, c, e1, t⟩ := hd
            simp only [e1] at hK
            go_simp
            refine (cloneS_w A c _ u t (by omega)).mono ?_
            rintro e w2 ⟨v2, rfl, ho, hb2⟩
            obtain ⟨A', c', rfl, _, _, hl', _⟩ := Lies.of_own ho
            exact hK.out _ _ ⟨⟨⟨X1, m1, X2, m2, hBB.below hb2⟩, bt hS2 hb2, hS3.below hb2⟩, .inl hb2, ⟨_, _, rfl, hl'⟩⟩
          · intro v u hS hd K' hK
            simp only [waited, List.toList_toArray, Region.binds, rel, List.getD_cons_zero, List.getD_cons_succ, true_imp_iff, and_true] at hd
            simp only [rel, List.getD_cons_zero, List.getD_cons_succ, Act.put, List.setIfInBounds_toArray, List.set_cons_zero, List.set_cons_succ] at hK
            try simp only [hd] at hK
            obtain ⟨hS1, hS2, hS3⟩ := hS
            obtain ⟨X1, m1, X2, m2, hBB⟩ := hS1
            go_simp
            exact hK.out _ _ ⟨⟨⟨X1, m1, X2, m2, hBB⟩, hS2, hS3⟩, .inl (Below.refl _ _), rfl⟩
          · intro v u hS hd K' hK
            simp only [waited, List.toList_toArray, Region.binds, rel, List.getD_cons_zero, List.getD_cons_succ, true_imp_iff, and_true] at hd
            simp only [rel, List.getD_cons_zero, List.getD_cons_succ, Act.put, List.setIfInBounds_toArray, List.set_cons_zero, List.set_cons_succ] at hK
            try simp only [hd] at hK
            obtain ⟨hS1, hS2, hS3⟩ := hS
            obtain ⟨X1, m1, X2, m2, hBB⟩ := hS1
            have x0 := hBB.blk.cell 1
            go_simp
            exact hK.out _ _ ⟨⟨⟨X1, m1, X2, m2, hBB⟩, hS2, hS3⟩, .inl (Below.refl _ _), ⟨_, _, rfl, hBB.wr⟩⟩
          · intro v u hS hd K' hK
            simp only [waited, List.toList_toArray, Region.binds, rel, List.getD_cons_zero, List.getD_cons_succ, true_imp_iff, and_true] at hd
            simp only [rel, List.getD_cons_zero, List.getD_cons_succ, Act.put, List.setIfInBounds_toArray, List.set_cons_zero, List.set_cons_succ] at hK
            try simp only [hd] at hK
            obtain ⟨hS1, hS2, hS3⟩ := hS
            obtain ⟨X1, m1, X2, m2, hBB⟩ := hS1
            obtain ⟨⟨A, c, e1, t⟩, _⟩ := hd
            simp only [e1] at hK
            go_simp
            refine (cloneW_w A c _ u t (by omega)).mono ?_
            rintro e w2 ⟨v2, rfl, ho, hb2⟩
            obtain ⟨A', c', rfl, _, _, hl', _⟩ := Lies.of_own ho
            exact hK.out _ _ ⟨⟨⟨X1, m1, X2, m2, hBB.below hb2⟩, bt hS2 hb2, hS3.below hb2⟩, .inl hb2, ⟨_, _, rfl, hl'⟩⟩
          · intro v u hS hd K' hK
            simp only [waited, List.toList_toArray, Region.binds, rel, List.getD_cons_zero, List.getD_cons_succ, true_imp_iff, and_true] at hd
            simp only [rel, List.getD_cons_zero, List.getD_cons_succ, Act.put, List.setIfInBounds_toArray, List.set_cons_zero, List.set_cons_succ] at hK
            try simp only [hd] at hK
            obtain ⟨hS1, hS2, hS3⟩ := hS
            obtain ⟨X1, m1, X2, m2, hBB⟩ := hS1
            go_simp
            exact hK.out _ _ ⟨⟨⟨X1, m1, X2, m2, hBB⟩, hS2, hS3⟩, .inl (Below.refl _ _), rfl⟩
          · intro v u hS hd K' hK
            simp only [waited, List.toList_toArray, Region.binds, rel, List.getD_cons_zero, List.getD_cons_succ, true_imp_iff, and_true] at hd
            simp only [rel, List.getD_cons_zero, List.getD_cons_succ, Act.put, List.setIfInBounds_toArray, List.set_cons_zero, List.set_cons_succ] at hK
            try simp only [hd] at hK
            obtain ⟨hS1, hS2, hS3⟩ := hS
            obtain ⟨X1, m1, X2, m2, hBB⟩ := hS1
            obtain ⟨h0, ⟨A, c, e1, t⟩, _⟩ := hd
            try simp only [h0, e1] at hK ⊢
            have y0 := hBB.blk.cell 0
            have y1 := hBB.blk.free 0
            go_simp
            have hG := keepCell_set hBB 0 (.slice A d.secs.length c)
            exact hK.out undef _ ⟨⟨⟨_, _, _, _, hBB.set0 t⟩, below_keepCell hS2 hG (Nat.le_refl _), hS3.keepCell hG (by omega)⟩, hG, trivial⟩
          · intro v u hS hd K' hK
            simp only [waited, List.toList_toArray, Region.binds, rel, List.getD_cons_zero, List.getD_cons_succ, true_imp_iff, and_true] at hd
            simp only [rel, List.getD_cons_zero, List.getD_cons_succ, Act.put, List.setIfInBounds_toArray, List.set_cons_zero, List.set_cons_succ] at hK
            try simp only [hd] at hK
            obtain ⟨hS1, hS2, hS3⟩ := hS
            obtain ⟨X1, m1, X2, m2, hBB⟩ := hS1
            go_simp
            exact hK.out _ _ ⟨⟨⟨X1, m1, X2, m2, hBB⟩, hS2, hS3⟩, .inl (Below.refl _ _), rfl⟩
          · intro v u hS hd K' hK
            simp only [waited, List.toList_toArray, Region.binds, rel, List.getD_cons_zero, List.getD_cons_succ, true_imp_iff, and_true] at hd
            simp only [rel, List.getD_cons_zero, List.getD_cons_succ, Act.put, List.setIfInBounds_toArray, List.set_cons_zero, List.set_cons_succ] at hK
            try simp only [hd] at hK
            obtain ⟨hS1, hS2, hS3⟩ := hS
            obtain ⟨X1, m1, X2, m2, hBB⟩ := hS1
            obtain ⟨h0, ⟨A, c, e1, t⟩, _⟩ := hd
            try simp only [h0, e1] at hK ⊢
            have y0 := hBB.blk.cell 1
            have y1 := hBB.blk.free 1
            go_simp
            have hG := keepCell_set hBB 1 (.slice A d.pend.length c)
            exact hK.out undef _ ⟨⟨⟨_, _, _, _, hBB.set1 t⟩, below_keepCell hS2 hG (Nat.le_refl _), hS3.keepCell hG (by omega)⟩, hG, trivial⟩
        · rintro v u ⟨hS1, hS2, hS3⟩ hR
          simp only [holdAll, List.size_toArray, List.length_cons, List.length_nil, Nat.reduceAdd, rel, List.getD_cons_zero, List.getD_cons_succ] at hR
          clear hR
          obtain ⟨X1, m1, X2, m2, hBB⟩ := hS1
          have q0 := hBB.blk.cell 0
          have q1 := hBB.blk.cell 1
          have q2 := hBB.blk.cell 2
          have q3 := hBB.blk.cell 3
          have r0 := hS3.cell 0
          have r1 := hS3.cell 1
          have r2 := hS3.cell 2
          have r3 := hS3.cell 3
          have z0 := hS3.free 0
          have z1 := hS3.free 1
          have z2 := hS3.free 2
          have z3 := hS3.free 3
          go_wp2_with fail
          refine bodyPost_ret (v := .tuple #[.agg #[.slice X1 d.secs.length m1, .slice X2 d.pend.length m2, .bool d.off, .int .i64 d.fuse], .int .i64 z]) (by simp [results, Try.results11, go_sem, r0, r1, r2, r3]) rfl ?_
          obtain ⟨e1, e2⟩ := HE.out
          rw [e1, e2]
          exact ⟨_, rfl, hand_on hBB.tx hBB.wr hBB.l1 hBB.l2 hBB.f1 hBB.f2 hS3 hS2 (by omega)⟩
    refine (hsc _ hps).mono ?_
    rintro e W6 ⟨⟨A9, c9, rfl, hc9, ht9⟩, hb6⟩
    replace ko := ko.below hb6
    replace ks := ks.below hb6
    replace Bd := Bd.below hb6
    replace ka := ka.below hb6
    replace kb := kb.below hb6
    replace km := km.below hb6
    replace kz := kz.below hb6
    replace hb := bt hb hb6
    obtain ⟨hn1, hn2⟩ := hnl hps
    clear hsc hsn3 hnl hb6
    go_upto_block 0 with fail
    go_cut [16] (fun x wx => ∃ z : Int, x = .int .i64 z ∧ Hid (D = d ∧ E = z) ∧ Box wx w.heap.size A1 c1 A2 c2 d ∧ Blk wx (w.heap.size + 1 + 1 + 1 + 1) [.slice none 0 0, .slice none 0 0, .bool false, .int .i64 0] 28 ∧ Below w.heap.size w wx)
    case first =>
      have xm := km.cell
      have xs := ks.cell
      have xo := ko.cell
      by_cases hfull : sa' < n
      · have t6 : (sa' : Int) < (n : Int) := by omega
        have t7 : decide (sa' < n) = true := decide_eq_true hfull
        have HE : Hid (D = d ∧ E = 17) := by
          obtain ⟨e1, e2⟩ := HG.out
          rw [e1, e2]
          unfold saveOn
          rw [← HLL.out]
          rw [if_neg (by simp), if_neg (by show ¬ 16384 < p.data.toList.length; rw [HPL.out]; omega), if_neg (by simp), if_neg (by simp), if_pos (by rw [HLn.out]; omega)]
          exact ⟨rfl, rfl⟩
        clear HG
        go_wp2
        go_meet
        case rel => exact ⟨17, rfl, HE, Bd, kz, hb⟩
      have t6 : ¬ ((sa' : Int) < (n : Int)) := by omega
      have t7 : decide (sa' < n) = false := decide_eq_false hfull
      have HDE : Hid (D = layD d fa' LL ∧ E = layE d fa' LL) := by
        obtain ⟨e1, e2⟩ := HG.out
        rw [e1, e2]
        unfold saveOn
        rw [← HLL.out]
        rw [if_neg (by simp), if_neg (by show ¬ 16384 < p.data.toList.length; rw [HPL.out]; omega), if_neg (by simp), if_neg (by simp), if_neg (by rw [HLn.out]; omega)]
        exact ⟨rfl, rfl⟩
      have hly := lay_w _ d fa' A9 n c9 LL W6 (hv0.below hb) ht9 HLn.out hn1 (by omega) hc9
      rw [← HDE.out.1, ← HDE.out.2] at hly
      have xd := Bd.blk.cell
      go_wp2_with fail
      refine hly.mono ?_
      rintro e w9 ⟨v9, rfl, ⟨X1, m1, X2, m2, rfl, u1, u2, l1, l2, f1, f2⟩, hb9⟩
      replace kz := kz.below hb9
      replace hb := bt hb hb9
      clear hly xd hb9 Bd ka kb km ks ko
      have r0 := kz.cell 0
      have r1 := kz.cell 1
      have r2 := kz.cell 2
      have r3 := kz.cell 3
      have z0 := kz.free 0
      have z1 := kz.free 1
      have z2 := kz.free 2
      have z3 := kz.free 3
      go_wp2_with fail
      refine bodyPost_ret (v := .tuple #[.agg #[.slice X1 D.secs.length m1, .slice X2 D.pend.length m2, .bool D.off, .int .i64 D.fuse], .int .i64 E]) (by simp [results, Try.results11, go_sem, r0, r1, r2, r3]) rfl ?_
      exact ⟨_, rfl, hand_on u1 u2 l1 l2 f1 f2 kz hb (by omega)⟩
    case rest =>
      obtain ⟨z, rfl, HE, Bd, kz, hb⟩ := hcut
      clear ka kb km ks ko
      go_wp2_with fail
      refine region_flat _ (fun u => (∃ X1 m1 X2 m2, Box u w.heap.size X1 m1 X2 m2 d) ∧ Below w.heap.size w u ∧ Blk u (w.heap.size + 1 + 1 + 1 + 1) [.slice none 0 0, .slice none 0 0, .bool false, .int .i64 0] 28) (fun u u' => KeepCell w.heap.size u u')
        (rel [fun v _ => v = .pointer (some ⟨w.heap.size, 0, none⟩),
          fun v u => ∃ A c, v = .slice A d.secs.length c ∧ Texts u A d.secs,
          fun v u => ∃ A c, v = .slice A d.secs.length c ∧ Texts u A d.secs,
          fun v _ => v = .pointer (some ⟨w.heap.size, 1, none⟩),
          fun v u => ∃ A c, v = .slice A d.pend.length c ∧ Writes u A d.pend,
          fun v u => ∃ A c, v = .slice A d.pend.length c ∧ Writes u A d.pend,
          fun v _ => v = .pointer (some ⟨w.heap.size, 0, none⟩),
          fun _ _ => True,
          fun v _ => v = .pointer (some ⟨w.heap.size, 1, none⟩),
          fun _ _ => True])
        (by kernel_rfl) (by kernel_rfl) (fun v => by simp only [putsV, Act.put, List.toList_toArray, List.setIfInBounds_toArray, List.set_cons_zero, List.set_cons_succ, Nat.reduceAdd, Nat.zero_add]; rfl) ?_ ⟨⟨A1, c1, A2, c2, ⟨Bd.blk, Bd.tx.drew, Bd.wr.drew, hl1, hl2, hf1, hf2⟩⟩, hb.drew, kz⟩ ?_ ?_
      · intro j x u u' hb h
        match j with
        | 0 => exact h
        | 1 => exact (let ⟨A, c, e, t⟩ := h; ⟨A, c, e, texts_keep t hb⟩)
        | 2 => exact (let ⟨A, c, e, t⟩ := h; ⟨A, c, e, texts_keep t hb⟩)
        | 3 => exact h
        | 4 => exact (let ⟨A, c, e, t⟩ := h; ⟨A, c, e, writes_keep t hb⟩)
        | 5 => exact (let ⟨A, c, e, t⟩ := h; ⟨A, c, e, writes_keep t hb⟩)
        | 6 => exact h
        | 7 => exact trivial
        | 8 => exact h
        | 9 => exact trivial
        | _ + 10 => trivial
      · refine ⟨?_, ?_, ?_, ?_, ?_, ?_, ?_, ?_, ?_, ?_, trivial⟩
        · intro v u hS hd K' hK
          simp only [waited, List.toList_toArray, Region.binds, rel, List.getD_cons_zero, List.getD_cons_succ, true_imp_iff, and_true] at hd
          simp only [rel, List.getD_cons_zero, List.getD_cons_succ, Act.put, List.setIfInBounds_toArray, List.set_cons_zero, List.set_cons_succ] at hK
          try simp only [hd] at hK
          obtain ⟨hS1, hS2, hS3⟩ := hS
          obtain ⟨X1, m1, X2, m2, hBB⟩ := hS1
          go_simp
          exact hK.out _ _ ⟨⟨⟨X1, m1, X2, m2, hBB⟩, hS2, hS3⟩, .inl (Below.refl _ _), rfl⟩
        · intro v u hS hd K' hK
          simp only [waited, List.toList_toArray, Region.binds, rel, List.getD_cons_zero, List.getD_cons_succ, true_imp_iff, and_true] at hd
          simp only [rel, List.getD_cons_zero, List.getD_cons_succ, Act.put, List.setIfInBounds_toArray, List.set_cons_zero, List.set_cons_succ] at hK
          try simp only [hd] at hK
          obtain ⟨hS1, hS2, hS3⟩ := hS
          obtain ⟨X1, m1, X2, m2, hBB⟩ := hS1
          have x0 := hBB.blk.cell 0
          go_simp
          exact hK.out _ _ ⟨⟨⟨X1, m1, X2, m2, hBB⟩, hS2, hS3⟩, .inl (Below.refl _ _), ⟨_, _, rfl, hBB.tx⟩⟩
        · intro v u hS hd K' hK
          simp only [waited, List.toList_toArray, Region.binds, rel, List.getD_cons_zero, List.getD_cons_succ, true_imp_iff, and_true] at hd
          simp only [rel, List.getD_cons_zero, List.getD_cons_succ, Act.put, List.setIfInBounds_toArray, List.set_cons_zero, List.set_cons_succ] at hK
          try simp only [hd] at hK
          obtain ⟨hS1, hS2, hS3⟩ := hS
          obtain ⟨X1, m1, X2, m2, hBB⟩ := hS1
          obtain ⟨A, c, e1, t⟩ := hd
          simp only [e1] at hK
          go_simp
          refine (cloneS_w A c _ u t (by omega)).mono ?_
          rintro e w2 ⟨v2, rfl, ho, hb2⟩
          obtain ⟨A', c', rfl, _, _, hl', _⟩ := Lies.of_own ho
          exact hK.out _ _ ⟨⟨⟨X1, m1, X2, m2, hBB.below hb2⟩, bt hS2 hb2, hS3.below hb2⟩, .inl hb2, ⟨_, _, rfl, hl'⟩⟩
        · intro v u hS hd K' hK
          simp only [waited, List.toList_toArray, Region.binds, rel, List.getD_cons_zero, List.getD_cons_succ, true_imp_iff, and_true] at hd
          simp only [rel, List.getD_cons_zero, List.getD_cons_succ, Act.put, List.setIfInBounds_toArray, List.set_cons_zero, List.set_cons_succ] at hK
          try simp only [hd] at hK
          obtain ⟨hS1, hS2, hS3⟩ := hS
          obtain ⟨X1, m1, X2, m2, hBB⟩ := hS1
          go_simp
          exact hK.out _ _ ⟨⟨⟨X1, m1, X2, m2, hBB⟩, hS2, hS3⟩, .inl (Below.refl _ _), rfl⟩
        · intro v u hS hd K' hK
          simp only [waited, List.toList_toArray, Region.binds, rel, List.getD_cons_zero, List.getD_cons_succ, true_imp_iff, and_true] at hd
          simp only [rel, List.getD_cons_zero, List.getD_cons_succ, Act.put, List.setIfInBounds_toArray, List.set_cons_zero, List.set_cons_succ] at hK
          try simp only [hd] at hK
          obtain ⟨hS1, hS2, hS3⟩ := hS
          obtain ⟨X1, m1, X2, m2, hBB⟩ := hS1
          have x0 := hBB.blk.cell 1
          go_simp
          exact hK.out _ _ ⟨⟨⟨X1, m1, X2, m2, hBB⟩, hS2, hS3⟩, .inl (Below.refl _ _), ⟨_, _, rfl, hBB.wr⟩⟩
        · intro v u hS hd K' hK
          simp only [waited, List.toList_toArray, Region.binds, rel, List.getD_cons_zero, List.getD_cons_succ, true_imp_iff, and_true] at hd
          simp only [rel, List.getD_cons_zero, List.getD_cons_succ, Act.put, List.setIfInBounds_toArray, List.set_cons_zero, List.set_cons_succ] at hK
          try simp only [hd] at hK
          obtain ⟨hS1, hS2, hS3⟩ := hS
          obtain ⟨X1, m1, X2, m2, hBB⟩ := hS1
          obtain ⟨⟨A, c, e1, t⟩, _⟩ := hd
          simp only [e1] at hK
          go_simp
          refine (cloneW_w A c _ u t (by omega)).mono ?_
          rintro e w2 ⟨v2, rfl, ho, hb2⟩
          obtain ⟨A', c', rfl, _, _, hl', _⟩ := Lies.of_own ho
          exact hK.out _ _ ⟨⟨⟨X1, m1, X2, m2, hBB.below hb2⟩, bt hS2 hb2, hS3.below hb2⟩, .inl hb2, ⟨_, _, rfl, hl'⟩⟩
        · intro v u hS hd K' hK
          simp only [waited, List.toList_toArray, Region.binds, rel, List.getD_cons_zero, List.getD_cons_succ, true_imp_iff, and_true] at hd
          simp only [rel, List.getD_cons_zero, List.getD_cons_succ, Act.put, List.setIfInBounds_toArray, List.set_cons_zero, List.set_cons_succ] at hK
          try simp only [hd] at hK
          obtain ⟨hS1, hS2, hS3⟩ := hS
          obtain ⟨X1, m1, X2, m2, hBB⟩ := hS1
          go_simp
          exact hK.out _ _ ⟨⟨⟨X1, m1, X2, m2, hBB⟩, hS2, hS3⟩, .inl (Below.refl _ _), rfl⟩
        · intro v u hS hd K' hK
          simp only [waited, List.toList_toArray, Region.binds, rel, List.getD_cons_zero, List.getD_cons_succ, true_imp_iff, and_true] at hd
          simp only [rel, List.getD_cons_zero, List.getD_cons_succ, Act.put, List.setIfInBounds_toArray, List.set_cons_zero, List.set_cons_succ] at hK
          try simp only [hd] at hK
          obtain ⟨hS1, hS2, hS3⟩ := hS
          obtain ⟨X1, m1, X2, m2, hBB⟩ := hS1
          obtain ⟨h0, ⟨A, c, e1, t⟩, _⟩ := hd
          try simp only [h0, e1] at hK ⊢
          have y0 := hBB.blk.cell 0
          have y1 := hBB.blk.free 0
          go_simp
          have hG := keepCell_set hBB 0 (.slice A d.secs.length c)
          exact hK.out undef _ ⟨⟨⟨_, _, _, _, hBB.set0 t⟩, below_keepCell hS2 hG (Nat.le_refl _), hS3.keepCell hG (by omega)⟩, hG, trivial⟩
        · intro v u hS hd K' hK
          simp only [waited, List.toList_toArray, Region.binds, rel, List.getD_cons_zero, List.getD_cons_succ, true_imp_iff, and_true] at hd
          simp only [rel, List.getD_cons_zero, List.getD_cons_succ, Act.put, List.setIfInBounds_toArray, List.set_cons_zero, List.set_cons_succ] at hK
          try simp only [hd] at hK
          obtain ⟨hS1, hS2, hS3⟩ := hS
          obtain ⟨X1, m1, X2, m2, hBB⟩ := hS1
          go_simp
          exact hK.out _ _ ⟨⟨⟨X1, m1, X2, m2, hBB⟩, hS2, hS3⟩, .inl (Below.refl _ _), rfl⟩
        · intro v u hS hd K' hK
          simp only [waited, List.toList_toArray, Region.binds, rel, List.getD_cons_zero, List.getD_cons_succ, true_imp_iff, and_true] at hd
          simp only [rel, List.getD_cons_zero, List.getD_cons_succ, Act.put, List.setIfInBounds_toArray, List.set_cons_zero, List.set_cons_succ] at hK
          try simp only [hd] at hK
          obtain ⟨hS1, hS2, hS3⟩ := hS
          obtain ⟨X1, m1, X2, m2, hBB⟩ := hS1
          obtain ⟨h0, ⟨A, c, e1, t⟩, _⟩ := hd
          try simp only [h0, e1] at hK ⊢
          have y0 := hBB.blk.cell 1
          have y1 := hBB.blk.free 1
          go_simp
          have hG := keepCell_set hBB 1 (.slice A d.pend.length c)
          exact hK.out undef _ ⟨⟨⟨_, _, _, _, hBB.set1 t⟩, below_keepCell hS2 hG (Nat.le_refl _), hS3.keepCell hG (by omega)⟩, hG, trivial⟩
      · rintro v u ⟨hS1, hS2, hS3⟩ hR
        simp only [holdAll, List.size_toArray, List.length_cons, List.length_nil, Nat.reduceAdd, rel, List.getD_cons_zero, List.getD_cons_succ] at hR
        clear hR
        obtain ⟨X1, m1, X2, m2, hBB⟩ := hS1
        have q0 := hBB.blk.cell 0
        have q1 := hBB.blk.cell 1
        have q2 := hBB.blk.cell 2
        have q3 := hBB.blk.cell 3
        have r0 := hS3.cell 0
        have r1 := hS3.cell 1
        have r2 := hS3.cell 2
        have r3 := hS3.cell 3
        have z0 := hS3.free 0
        have z1 := hS3.free 1
        have z2 := hS3.free 2
        have z3 := hS3.free 3
        go_wp2_with fail
        refine bodyPost_ret (v := .tuple #[.agg #[.slice X1 d.secs.length m1, .slice X2 d.pend.length m2, .bool d.off, .int .i64 d.fuse], .int .i64 z]) (by simp [results, Try.results11, go_sem, r0, r1, r2, r3]) rfl ?_
        obtain ⟨e1, e2⟩ := HE.out
        rw [e1, e2]
        exact ⟨_, rfl, hand_on hBB.tx hBB.wr hBB.l1 hBB.l2 hBB.f1 hBB.f2 hS3 hS2 (by omega)⟩
  · obtain ⟨S, HS⟩ := named (str x.pay)
    rw [show loadVal (x, 0, 0) = .tuple #[.agg #[.int .u64 (x.ep : Int), .string S], .int .i64 0, .int .i64 0] from by rw [HS.out]; rfl]
    have ko := Blk.new W3 [.int .u64 (x.ep : Int), .string S] 36
    have hbo := below_alloc W3 (.cells #[.int .u64 (x.ep : Int), .string S] 36)
    replace Bd := Bd.below hbo
    replace ka := ka.below hbo
    replace kb := kb.below hbo
    replace km := km.below hbo
    replace kz := kz.below hbo
    replace hb := bt hb hbo
    go_upto_region 5 with fail
    obtain ⟨W4, HW4⟩ := named (W3.alloc (.cells #[.int .u64 (x.ep : Int), .string S] 36))
    obtain ⟨O, HO⟩ := named W3.heap.size
    rw [← HO.out] at ko ⊢
    rw [← HW4.out] at ko Bd ka kb km kz hb ⊢
    clear HW4 HO hbo
    have xa := ka.cell
    have xb := kb.cell
    have hp0 := pick0 (.int .i64 (fa' : Int)) (.int .i64 (sa' : Int)) (.int .i64 (fb' : Int)) (.int .i64 (sb' : Int))
    have hp1 := pick1 (.int .i64 (fa' : Int)) (.int .i64 (sa' : Int)) (.int .i64 (fb' : Int)) (.int .i64 (sb' : Int))
    have ks := Blk.new W4 [.int .i64 (fb' : Int), .int .i64 (sb' : Int)] 33
    have hOS := ko.lt
    have hz4 := kz.lt
    have hbo := below_alloc W4 (.cells #[.int .i64 (fb' : Int), .int .i64 (sb' : Int)] 33)
    replace ko := ko.below hbo
    replace Bd := Bd.below hbo
    replace ka := ka.below hbo
    replace kb := kb.below hbo
    replace km := km.below hbo
    replace kz := kz.below hbo
    replace hb := bt hb hbo
    go_upto_region 6 with fail
    obtain ⟨W5, HW5⟩ := named (W4.alloc (.cells #[.int .i64 (fb' : Int), .int .i64 (sb' : Int)] 33))
    obtain ⟨Q, HQ⟩ := named W4.heap.size
    have hQ9 : w.heap.size + 1 + 1 + 1 + 1 < Q := by rw [HQ.out]; exact hz4
    rw [← HQ.out] at ks hOS ⊢
    rw [← HW5.out] at ko ks Bd ka kb km kz hb ⊢
    clear HW5 HQ hbo xa xb hp0 hp1
    go_upto_region 8 with fail
    have xm := km.cell
    clear hOS hz4 hQ9
    go_wp2_with fail
    clear xm
    by_cases hps : p.size ≤ 16384
    case neg =>
      refine (hsn3 _ (by omega)).mono ?_
      rintro e W6 ⟨rfl, hb6⟩
      replace ko := ko.below hb6
      replace ks := ks.below hb6
      replace Bd := Bd.below hb6
      replace ka := ka.below hb6
      replace kb := kb.below hb6
      replace km := km.below hb6
      replace kz := kz.below hb6
      replace hb := bt hb hb6
      clear hsc hsn3 hnl hb6
      go_upto_block 0 with fail
      go_cut [16] (fun x wx => ∃ z : Int, x = .int .i64 z ∧ Hid (D = d ∧ E = z) ∧ Box wx w.heap.size A1 c1 A2 c2 d ∧ Blk wx (w.heap.size + 1 + 1 + 1 + 1) [.slice none 0 0, .slice none 0 0, .bool false, .int .i64 0] 28 ∧ Below w.heap.size w wx)
      case first =>
        have HE : Hid (D = d ∧ E = 3) := by
          obtain ⟨e1, e2⟩ := HG.out
          rw [e1, e2]
          unfold saveOn
          rw [if_neg (by simp), if_pos (by show 16384 < p.data.toList.length; rw [HPL.out]; omega)]
          exact ⟨rfl, rfl⟩
        clear HG
        go_wp2
        go_meet
        case rel => exact ⟨3, rfl, HE, Bd, kz, hb⟩
      case rest =>
        obtain ⟨z, rfl, HE, Bd, kz, hb⟩ := hcut
        clear ka kb km ks ko
        go_wp2_with fail
        refine region_flat _ (fun u => (∃ X1 m1 X2 m2, Box u w.heap.size X1 m1 X2 m2 d) ∧ Below w.heap.size w u ∧ Blk u (w.heap.size + 1 + 1 + 1 + 1) [.slice none 0 0, .slice none 0 0, .bool false, .int .i64 0] 28) (fun u u' => KeepCell w.heap.size u u')
          (rel [fun v _ => v = .pointer (some ⟨w.heap.size, 0, none⟩),
            fun v u => ∃ A c, v = .slice A d.secs.length c ∧ Texts u A d.secs,
            fun v u => ∃ A c, v = .slice A d.secs.length c ∧ Texts u A d.secs,
            fun v _ => v = .pointer (some ⟨w.heap.size, 1, none⟩),
            fun v u => ∃ A c, v = .slice A d.pend.length c ∧ Writes u A d.pend,
            fun v u => ∃ A c, v = .slice A d.pend.length c ∧ Writes u A d.pend,
            fun v _ => v = .pointer (some ⟨w.heap.size, 0, none⟩),
            fun _ _ => True,
            fun v _ => v = .pointer (some ⟨w.heap.size, 1, none⟩),
            fun _ _ => True])
          (by kernel_rfl) (by kernel_rfl) (fun v => by simp only [putsV, Act.put, List.toList_toArray, List.setIfInBounds_toArray, List.set_cons_zero, List.set_cons_succ, Nat.reduceAdd, Nat.zero_add]; rfl) ?_ ⟨⟨A1, c1, A2, c2, ⟨Bd.blk, Bd.tx.drew, Bd.wr.drew, hl1, hl2, hf1, hf2⟩⟩, hb.drew, kz⟩ ?_ ?_
        · intro j x u u' hb h
          match j with
          | 0 => exact h
          | 1 => exact (let ⟨A, c, e, t⟩ := h; ⟨A, c, e, texts_keep t hb⟩)
          | 2 => exact (let ⟨A, c, e, t⟩ := h; ⟨A, c, e, texts_keep t hb⟩)
          | 3 => exact h
          | 4 => exact (let ⟨A, c, e, t⟩ := h; ⟨A, c, e, writes_keep t hb⟩)
          | 5 => exact (let ⟨A, c, e, t⟩ := h; ⟨A, c, e, writes_keep t hb⟩)
          | 6 => exact h
          | 7 => exact trivial
          | 8 => exact h
          | 9 => exact trivial
          | _ + 10 => trivial
        · refine ⟨?_, ?_, ?_, ?_, ?_, ?_, ?_, ?_, ?_, ?_, trivial⟩
          · intro v u hS hd K' hK
            simp only [waited, List.toList_toArray, Region.binds, rel, List.getD_cons_zero, List.getD_cons_succ, true_imp_iff, and_true] at hd
            simp only [rel, List.getD_cons_zero, List.getD_cons_succ, Act.put, List.setIfInBounds_toArray, List.set_cons_zero, List.set_cons_succ] at hK
            try simp only [hd] at hK
            obtain ⟨hS1, hS2, hS3⟩ := hS
            obtain ⟨X1, m1, X2, m2, hBB⟩ := hS1
            go_simp
            exact hK.out _ _ ⟨⟨⟨X1, m1, X2, m2, hBB⟩, hS2, hS3⟩, .inl (Below.refl _ _), rfl⟩
          · intro v u hS hd K' hK
            simp only [waited, List.toList_toArray, Region.binds, rel, List.getD_cons_zero, List.getD_cons_succ, true_imp_iff, and_true] at hd
            simp only [rel, List.getD_cons_zero, List.getD_cons_succ, Act.put, List.setIfInBounds_toArray, List.set_cons_zero, List.set_cons_succ] at hK
            try simp only [hd] at hK
            obtain ⟨hS1, hS2, hS3⟩ := hS
            obtain ⟨X1, m1, X2, m2, hBB⟩ := hS1
            have x0 := hBB.blk.cell 0
            go_simp
            exact hK.out _ _ ⟨⟨⟨X1, m1, X2, m2, hBB⟩, hS2, hS3⟩, .inl (Below.refl _ _), ⟨_, _, rfl, hBB.tx⟩⟩
          · intro v u hS hd K' hK
            simp only [waited, List.toList_toArray, Region.binds, rel, List.getD_cons_zero, List.getD_cons_succ, true_imp_iff, and_true] at hd
            simp only [rel, List.getD_cons_zero, List.getD_cons_succ, Act.put, List.setIfInBounds_toArray, List.set_cons_zero, List.set_cons_succ] at hK
            try simp only [hd] at hK
            obtain ⟨hS1, hS2, hS3⟩ := hS
            obtain ⟨X1, m1, X2, m2, hBB⟩ := hS1
            obtain ⟨A, c, e1, t⟩ := hd
            simp only [e1] at hK
            go_simp
            refine (cloneS_w A c _ u t (by omega)).mono ?_
            rintro e w2 ⟨v2, rfl, ho, hb2⟩
            obtain ⟨A', c', rfl, _, _, hl', _⟩ := Lies.of_own ho
            exact hK.out _ _ ⟨⟨⟨X1, m1, X2, m2, hBB.below hb2⟩, bt hS2 hb2, hS3.below hb2⟩, .inl hb2, ⟨_, _, rfl, hl'⟩⟩
          · intro v u hS hd K' hK
            simp only [waited, List.toList_toArray, Region.binds, rel, List.getD_cons_zero, List.getD_cons_succ, true_imp_iff, and_true] at hd
            simp only [rel, List.getD_cons_zero, List.getD_cons_succ, Act.put, List.setIfInBounds_toArray, List.set_cons_zero, List.set_cons_succ] at hK
            try simp only [hd] at hK
            obtain ⟨hS1, hS2, hS3⟩ := hS
            obtain ⟨X1, m1, X2, m2, hBB⟩ := hS1
            go_simp
            exact hK.out _ _ ⟨⟨⟨X1, m1, X2, m2, hBB⟩, hS2, hS3⟩, .inl (Below.refl _ _), rfl⟩
          · intro v u hS hd K' hK
            simp only [waited, List.toList_toArray, Region.binds, rel, List.getD_cons_zero, List.getD_cons_succ, true_imp_iff, and_true] at hd
            simp only [rel, List.getD_cons_zero, List.getD_cons_succ, Act.put, List.setIfInBounds_toArray, List.set_cons_zero, List.set_cons_succ] at hK
            try simp only [hd] at hK
            obtain ⟨hS1, hS2, hS3⟩ := hS
            obtain ⟨X1, m1, X2, m2, hBB⟩ := hS1
            have x0 := hBB.blk.cell 1
            go_simp
            exact hK.out _ _ ⟨⟨⟨X1, m1, X2, m2, hBB⟩, hS2, hS3⟩, .inl (Below.refl _ _), ⟨_, _, rfl, hBB.wr⟩⟩
          · intro v u hS hd K' hK
            simp only [waited, List.toList_toArray, Region.binds, rel, List.getD_cons_zero, List.getD_cons_succ, true_imp_iff, and_true] at hd
            simp only [rel, List.getD_cons_zero, List.getD_cons_succ, Act.put, List.setIfInBounds_toArray, List.set_cons_zero, List.set_cons_succ] at hK
            try simp only [hd] at hK
            obtain ⟨hS1, hS2, hS3⟩ := hS
            obtain ⟨X1, m1, X2, m2, hBB⟩ := hS1
            obtain ⟨⟨A, c, e1, t⟩, _⟩ := hd
            simp only [e1] at hK
            go_simp
            refine (cloneW_w A c _ u t (by omega)).mono ?_
            rintro e w2 ⟨v2, rfl, ho, hb2⟩
            obtain ⟨A', c', rfl, _, _, hl', _⟩ := Lies.of_own ho
            exact hK.out _ _ ⟨⟨⟨X1, m1, X2, m2, hBB.below hb2⟩, bt hS2 hb2, hS3.below hb2⟩, .inl hb2, ⟨_, _, rfl, hl'⟩⟩
          · intro v u hS hd K' hK
            simp only [waited, List.toList_toArray, Region.binds, rel, List.getD_cons_zero, List.getD_cons_succ, true_imp_iff, and_true] at hd
            simp only [rel, List.getD_cons_zero, List.getD_cons_succ, Act.put, List.setIfInBounds_toArray, List.set_cons_zero, List.set_cons_succ] at hK
            try simp only [hd] at hK
            obtain ⟨hS1, hS2, hS3⟩ := hS
            obtain ⟨X1, m1, X2, m2, hBB⟩ := hS1
            go_simp
            exact hK.out _ _ ⟨⟨⟨X1, m1, X2, m2, hBB⟩, hS2, hS3⟩, .inl (Below.refl _ _), rfl⟩
          · intro v u hS hd K' hK
            simp only [waited, List.toList_toArray, Region.binds, rel, List.getD_cons_zero, List.getD_cons_succ, true_imp_iff, and_true] at hd
            simp only [rel, List.getD_cons_zero, List.getD_cons_succ, Act.put, List.setIfInBounds_toArray, List.set_cons_zero, List.set_cons_succ] at hK
            try simp only [hd] at hK
            obtain ⟨hS1, hS2, hS3⟩ := hS
            obtain ⟨X1, m1, X2, m2, hBB⟩ := hS1
            obtain ⟨h0, ⟨A, c, e1, t⟩, _⟩ := hd
            try simp only [h0, e1] at hK ⊢
            have y0 := hBB.blk.cell 0
            have y1 := hBB.blk.free 0
            go_simp
            have hG := keepCell_set hBB 0 (.slice A d.secs.length c)
            exact hK.out undef _ ⟨⟨⟨_, _, _, _, hBB.set0 t⟩, below_keepCell hS2 hG (Nat.le_refl _), hS3.keepCell hG (by omega)⟩, hG, trivial⟩
          · intro v u hS hd K' hK
            simp only [waited, List.toList_toArray, Region.binds, rel, List.getD_cons_zero, List.getD_cons_succ, true_imp_iff, and_true] at hd
            simp only [rel, List.getD_cons_zero, List.getD_cons_succ, Act.put, List.setIfInBounds_toArray, List.set_cons_zero, List.set_cons_succ] at hK
            try simp only [hd] at hK
            obtain ⟨hS1, hS2, hS3⟩ := hS
            obtain ⟨X1, m1, X2, m2, hBB⟩ := hS1
            go_simp
            exact hK.out _ _ ⟨⟨⟨X1, m1, X2, m2, hBB⟩, hS2, hS3⟩, .inl (Below.refl _ _), rfl⟩
          · intro v u hS hd K' hK
            simp only [waited, List.toList_toArray, Region.binds, rel, List.getD_cons_zero, List.getD_cons_succ, true_imp_iff, and_true] at hd
            simp only [rel, List.getD_cons_zero, List.getD_cons_succ, Act.put, List.setIfInBounds_toArray, List.set_cons_zero, List.set_cons_succ] at hK
            try simp only [hd] at hK
            obtain ⟨hS1, hS2, hS3⟩ := hS
            obtain ⟨X1, m1, X2, m2, hBB⟩ := hS1
            obtain ⟨h0, ⟨A, c, e1, t⟩, _⟩ := hd
            try simp only [h0, e1] at hK ⊢
            have y0 := hBB.blk.cell 1
            have y1 := hBB.blk.free 1
            go_simp
            have hG := keepCell_set hBB 1 (.slice A d.pend.length c)
            exact hK.out undef _ ⟨⟨⟨_, _, _, _, hBB.set1 t⟩, below_keepCell hS2 hG (Nat.le_refl _), hS3.keepCell hG (by omega)⟩, hG, trivial⟩
        · rintro v u ⟨hS1, hS2, hS3⟩ hR
          simp only [holdAll, List.size_toArray, List.length_cons, List.length_nil, Nat.reduceAdd, rel, List.getD_cons_zero, List.getD_cons_succ] at hR
          clear hR
          obtain ⟨X1, m1, X2, m2, hBB⟩ := hS1
          have q0 := hBB.blk.cell 0
          have q1 := hBB.blk.cell 1
          have q2 := hBB.blk.cell 2
          have q3 := hBB.blk.cell 3
          have r0 := hS3.cell 0
          have r1 := hS3.cell 1
          have r2 := hS3.cell 2
          have r3 := hS3.cell 3
          have z0 := hS3.free 0
          have z1 := hS3.free 1
          have z2 := hS3.free 2
          have z3 := hS3.free 3
          go_wp2_with fail
          refine bodyPost_ret (v := .tuple #[.agg #[.slice X1 d.secs.length m1, .slice X2 d.pend.length m2, .bool d.off, .int .i64 d.fuse], .int .i64 z]) (by simp [results, Try.results11, go_sem, r0, r1, r2, r3]) rfl ?_
          obtain ⟨e1, e2⟩ := HE.out
          rw [e1, e2]
          exact ⟨_, rfl, hand_on hBB.tx hBB.wr hBB.l1 hBB.l2 hBB.f1 hBB.f2 hS3 hS2 (by omega)⟩
    refine (hsc _ hps).mono ?_
    rintro e W6 ⟨⟨A9, c9, rfl, hc9, ht9⟩, hb6⟩
    replace ko := ko.below hb6
    replace ks := ks.below hb6
    replace Bd := Bd.below hb6
    replace ka := ka.below hb6
    replace kb := kb.below hb6
    replace km := km.below hb6
    replace kz := kz.below hb6
    replace hb := bt hb hb6
    obtain ⟨hn1, hn2⟩ := hnl hps
    clear hsc hsn3 hnl hb6
    go_upto_block 0 with fail
    go_cut [16] (fun x wx => ∃ z : Int, x = .int .i64 z ∧ Hid (D = d ∧ E = z) ∧ Box wx w.heap.size A1 c1 A2 c2 d ∧ Blk wx (w.heap.size + 1 + 1 + 1 + 1) [.slice none 0 0, .slice none 0 0, .bool false, .int .i64 0] 28 ∧ Below w.heap.size w wx)
    case first =>
      have xm := km.cell
      have xs := ks.cell
      have xo := ko.cell
      by_cases hold : ep ≤ x.ep
      · have t8 : (ep : Int) ≤ (x.ep : Int) := by omega
        have t9 : decide (ep ≤ x.ep) = true := decide_eq_true hold
        have HE : Hid (D = d ∧ E = 1) := by
          obtain ⟨e1, e2⟩ := HG.out
          rw [e1, e2]
          unfold saveOn
          rw [if_neg (by simp), if_neg (by show ¬ 16384 < p.data.toList.length; rw [HPL.out]; omega), if_pos (by exact And.intro rfl hold)]
          exact ⟨rfl, rfl⟩
        clear HG
        go_wp2
        go_meet
        case rel => exact ⟨1, rfl, HE, Bd, kz, hb⟩
      have t8 : (x.ep : Int) < (ep : Int) := by omega
      have t9 : decide (ep ≤ x.ep) = false := decide_eq_false hold
      by_cases hfull : sb' < n
      · have t6 : (sb' : Int) < (n : Int) := by omega
        have t7 : decide (sb' < n) = true := decide_eq_true hfull
        have HE : Hid (D = d ∧ E = 17) := by
          obtain ⟨e1, e2⟩ := HG.out
          rw [e1, e2]
          unfold saveOn
          rw [← HLL.out]
          rw [if_neg (by simp), if_neg (by show ¬ 16384 < p.data.toList.length; rw [HPL.out]; omega), if_neg (fun h => hold h.2), if_pos (by simp), if_pos (by rw [HLn.out]; omega)]
          exact ⟨rfl, rfl⟩
        clear HG
        go_wp2
        go_meet
        case rel => exact ⟨17, rfl, HE, Bd, kz, hb⟩
      have t6 : ¬ ((sb' : Int) < (n : Int)) := by omega
      have t7 : decide (sb' < n) = false := decide_eq_false hfull
      have HDE : Hid (D = layD d fb' LL ∧ E = layE d fb' LL) := by
        obtain ⟨e1, e2⟩ := HG.out
        rw [e1, e2]
        unfold saveOn
        rw [← HLL.out]
        rw [if_neg (by simp), if_neg (by show ¬ 16384 < p.data.toList.length; rw [HPL.out]; omega), if_neg (fun h => hold h.2), if_pos (by simp), if_neg (by rw [HLn.out]; omega)]
        exact ⟨rfl, rfl⟩
      have hly := lay_w _ d fb' A9 n c9 LL W6 (hv0.below hb) ht9 HLn.out hn1 (by omega) hc9
      rw [← HDE.out.1, ← HDE.out.2] at hly
      have xd := Bd.blk.cell
      go_wp2_with fail
      refine hly.mono ?_
      rintro e w9 ⟨v9, rfl, ⟨X1, m1, X2, m2, rfl, u1, u2, l1, l2, f1, f2⟩, hb9⟩
      replace kz := kz.below hb9
      replace hb := bt hb hb9
      clear hly xd hb9 Bd ka kb km ks ko
      have r0 := kz.cell 0
      have r1 := kz.cell 1
      have r2 := kz.cell 2
      have r3 := kz.cell 3
      have z0 := kz.free 0
      have z1 := kz.free 1
      have z2 := kz.free 2
      have z3 := kz.free 3
      go_wp2_with fail
      refine bodyPost_ret (v := .tuple #[.agg #[.slice X1 D.secs.length m1, .slice X2 D.pend.length m2, .bool D.off, .int .i64 D.fuse], .int .i64 E]) (by simp [results, Try.results11, go_sem, r0, r1, r2, r3]) rfl ?_
      exact ⟨_, rfl, hand_on u1 u2 l1 l2 f1 f2 kz hb (by omega)⟩
    case rest =>
      obtain ⟨z, rfl, HE, Bd, kz, hb⟩ := hcut
      clear ka kb km ks ko
      go_wp2_with fail
      refine region_flat _ (fun u => (∃ X1 m1 X2 m2, Box u w.heap.size X1 m1 X2 m2 d) ∧ Below w.heap.size w u ∧ Blk u (w.heap.size + 1 + 1 + 1 + 1) [.slice none 0 0, .slice none 0 0, .bool false, .int .i64 0] 28) (fun u u' => KeepCell w.heap.size u u')
        (rel [fun v _ => v = .pointer (some ⟨w.heap.size, 0, none⟩),
          fun v u => ∃ A c, v = .slice A d.secs.length c ∧ Texts u A d.secs,
          fun v u => ∃ A c, v = .slice A d.secs.length c ∧ Texts u A d.secs,
          fun v _ => v = .pointer (some ⟨w.heap.size, 1, none⟩),
          fun v u => ∃ A c, v = .slice A d.pend.length c ∧ Writes u A d.pend,
          fun v u => ∃ A c, v = .slice A d.pend.length c ∧ Writes u A d.pend,
          fun v _ => v = .pointer (some ⟨w.heap.size, 0, none⟩),
          fun _ _ => True,
          fun v _ => v = .pointer (some ⟨w.heap.size, 1, none⟩),
          fun _ _ => True])
        (by kernel_rfl) (by kernel_rfl) (fun v => by simp only [putsV, Act.put, List.toList_toArray, List.setIfInBounds_toArray, List.set_cons_zero, List.set_cons_succ, Nat.reduceAdd, Nat.zero_add]; rfl) ?_ ⟨⟨A1, c1, A2, c2, ⟨Bd.blk, Bd.tx.drew, Bd.wr.drew, hl1, hl2, hf1, hf2⟩⟩, hb.drew, kz⟩ ?_ ?_
      · intro j x u u' hb h
        match j with
        | 0 => exact h
        | 1 => exact (let ⟨A, c, e, t⟩ := h; ⟨A, c, e, texts_keep t hb⟩)
        | 2 => exact (let ⟨A, c, e, t⟩ := h; ⟨A, c, e, texts_keep t hb⟩)
        | 3 => exact h
        | 4 => exact (let ⟨A, c, e, t⟩ := h; ⟨A, c, e, writes_keep t hb⟩)
        | 5 => exact (let ⟨A, c, e, t⟩ := h; ⟨A, c, e, writes_keep t hb⟩)
        | 6 => exact h
        | 7 => exact trivial
        | 8 => exact h
        | 9 => exact trivial
        | _ + 10 => trivial
      · refine ⟨?_, ?_, ?_, ?_, ?_, ?_, ?_, ?_, ?_, ?_, trivial⟩
        · intro v u hS hd K' hK
          simp only [waited, List.toList_toArray, Region.binds, rel, List.getD_cons_zero, List.getD_cons_succ, true_imp_iff, and_true] at hd
          simp only [rel, List.getD_cons_zero, List.getD_cons_succ, Act.put, List.setIfInBounds_toArray, List.set_cons_zero, List.set_cons_succ] at hK
          try simp only [hd] at hK
          obtain ⟨hS1, hS2, hS3⟩ := hS
          obtain ⟨X1, m1, X2, m2, hBB⟩ := hS1
          go_simp
          exact hK.out _ _ ⟨⟨⟨X1, m1, X2, m2, hBB⟩, hS2, hS3⟩, .inl (Below.refl _ _), rfl⟩
        · intro v u hS hd K' hK
          simp only [waited, List.toList_toArray, Region.binds, rel, List.getD_cons_zero, List.getD_cons_succ, true_imp_iff, and_true] at hd
          simp only [rel, List.getD_cons_zero, List.getD_cons_succ, Act.put, List.setIfInBounds_toArray, List.set_cons_zero, List.set_cons_succ] at hK
          try simp only [hd] at hK
          obtain ⟨hS1, hS2, hS3⟩ := hS
          obtain ⟨X1, m1, X2, m2, hBB⟩ := hS1
          have x0 := hBB.blk.cell 0
          go_simp
          exact hK.out _ _ ⟨⟨⟨X1, m1, X2, m2, hBB⟩, hS2, hS3⟩, .inl (Below.refl _ _), ⟨_, _, rfl, hBB.tx⟩⟩
        · intro v u hS hd K' hK
          simp only [waited, List.toList_toArray, Region.binds, rel, List.getD_cons_zero, List.getD_cons_succ, true_imp_iff, and_true] at hd
          simp only [rel, List.getD_cons_zero, List.getD_cons_succ, Act.put, List.setIfInBounds_toArray, List.set_cons_zero, List.set_cons_succ] at hK
          try simp only [hd] at hK
          obtain ⟨hS1, hS2, hS3⟩ := hS
          obtain ⟨X1, m1, X2, m2, hBB⟩ := hS1
          obtain ⟨A, c, e1, t⟩ := hd
          simp only [e1] at hK
          go_simp
          refine (cloneS_w A c _ u t (by omega)).mono ?_
          rintro e w2 ⟨v2, rfl, ho, hb2⟩
          obtain ⟨A', c', rfl, _, _, hl', _⟩ := Lies.of_own ho
          exact hK.out _ _ ⟨⟨⟨X1, m1, X2, m2, hBB.below hb2⟩, bt hS2 hb2, hS3.below hb2⟩, .inl hb2, ⟨_, _, rfl, hl'⟩⟩
        · intro v u hS hd K' hK
          simp only [waited, List.toList_toArray, Region.binds, rel, List.getD_cons_zero, List.getD_cons_succ, true_imp_iff, and_true] at hd
          simp only [rel, List.getD_cons_zero, List.getD_cons_succ, Act.put, List.setIfInBounds_toArray, List.set_cons_zero, List.set_cons_succ] at hK
          try simp only [hd] at hK
          obtain ⟨hS1, hS2, hS3⟩ := hS
          obtain ⟨X1, m1, X2, m2, hBB⟩ := hS1
          go_simp
          exact hK.out _ _ ⟨⟨⟨X1, m1, X2, m2, hBB⟩, hS2, hS3⟩, .inl (Below.refl _ _), rfl⟩
        · intro v u hS hd K' hK
          simp only [waited, List.toList_toArray, Region.binds, rel, List.getD_cons_zero, List.getD_cons_succ, true_imp_iff, and_true] at hd
          simp only [rel, List.getD_cons_zero, List.getD_cons_succ, Act.put, List.setIfInBounds_toArray, List.set_cons_zero, List.set_cons_succ] at hK
          try simp only [hd] at hK
          obtain ⟨hS1, hS2, hS3⟩ := hS
          obtain ⟨X1, m1, X2, m2, hBB⟩ := hS1
          have x0 := hBB.blk.cell 1
          go_simp
          exact hK.out _ _ ⟨⟨⟨X1, m1, X2, m2, hBB⟩, hS2, hS3⟩, .inl (Below.refl _ _), ⟨_, _, rfl, hBB.wr⟩⟩
        · intro v u hS hd K' hK
          simp only [waited, List.toList_toArray, Region.binds, rel, List.getD_cons_zero, List.getD_cons_succ, true_imp_iff, and_true] at hd
          simp only [rel, List.getD_cons_zero, List.getD_cons_succ, Act.put, List.setIfInBounds_toArray, List.set_cons_zero, List.set_cons_succ] at hK
          try simp only [hd] at hK
          obtain ⟨hS1, hS2, hS3⟩ := hS
          obtain ⟨X1, m1, X2, m2, hBB⟩ := hS1
          obtain ⟨⟨A, c, e1, t⟩, _⟩ := hd
          simp only [e1] at hK
          go_simp
          refine (cloneW_w A c _ u t (by omega)).mono ?_
          rintro e w2 ⟨v2, rfl, ho, hb2⟩
          obtain ⟨A', c', rfl, _, _, hl', _⟩ := Lies.of_own ho
          exact hK.out _ _ ⟨⟨⟨X1, m1, X2, m2, hBB.below hb2⟩, bt hS2 hb2, hS3.below hb2⟩, .inl hb2, ⟨_, _, rfl, hl'⟩⟩
        · intro v u hS hd K' hK
          simp only [waited, List.toList_toArray, Region.binds, rel, List.getD_cons_zero, List.getD_cons_succ, true_imp_iff, and_true] at hd
          simp only [rel, List.getD_cons_zero, List.getD_cons_succ, Act.put, List.setIfInBounds_toArray, List.set_cons_zero, List.set_cons_succ] at hK
          try simp only [hd] at hK
          obtain ⟨hS1, hS2, hS3⟩ := hS
          obtain ⟨X1, m1, X2, m2, hBB⟩ := hS1
          go_simp
          exact hK.out _ _ ⟨⟨⟨X1, m1, X2, m2, hBB⟩, hS2, hS3⟩, .inl (Below.refl _ _), rfl⟩
        · intro v u hS hd K' hK
          simp only [waited, List.toList_toArray, Region.binds, rel, List.getD_cons_zero, List.getD_cons_succ, true_imp_iff, and_true] at hd
          simp only [rel, List.getD_cons_zero, List.getD_cons_succ, Act.put, List.setIfInBounds_toArray, List.set_cons_zero, List.set_cons_succ] at hK
          try simp only [hd] at hK
          obtain ⟨hS1, hS2, hS3⟩ := hS
          obtain ⟨X1, m1, X2, m2, hBB⟩ := hS1
          obtain ⟨h0, ⟨A, c, e1, t⟩, _⟩ := hd
          try simp only [h0, e1] at hK ⊢
          have y0 := hBB.blk.cell 0
          have y1 := hBB.blk.free 0
          go_simp
          have hG := keepCell_set hBB 0 (.slice A d.secs.length c)
          exact hK.out undef _ ⟨⟨⟨_, _, _, _, hBB.set0 t⟩, below_keepCell hS2 hG (Nat.le_refl _), hS3.keepCell hG (by omega)⟩, hG, trivial⟩
        · intro v u hS hd K' hK
          simp only [waited, List.toList_toArray, Region.binds, rel, List.getD_cons_zero, List.getD_cons_succ, true_imp_iff, and_true] at hd
          simp only [rel, List.getD_cons_zero, List.getD_cons_succ, Act.put, List.setIfInBounds_toArray, List.set_cons_zero, List.set_cons_succ] at hK
          try simp only [hd] at hK
          obtain ⟨hS1, hS2, hS3⟩ := hS
          obtain ⟨X1, m1, X2, m2, hBB⟩ := hS1
          go_simp
          exact hK.out _ _ ⟨⟨⟨X1, m1, X2, m2, hBB⟩, hS2, hS3⟩, .inl (Below.refl _ _), rfl⟩
        · intro v u hS hd K' hK
          simp only [waited, List.toList_toArray, Region.binds, rel, List.getD_cons_zero, List.getD_cons_succ, true_imp_iff, and_true] at hd
          simp only [rel, List.getD_cons_zero, List.getD_cons_succ, Act.put, List.setIfInBounds_toArray, List.set_cons_zero, List.set_cons_succ] at hK
          try simp only [hd] at hK
          obtain ⟨hS1, hS2, hS3⟩ := hS
          obtain ⟨X1, m1, X2, m2, hBB⟩ := hS1
          obtain ⟨h0, ⟨A, c, e1, t⟩, _⟩ := hd
          try simp only [h0, e1] at hK ⊢
          have y0 := hBB.blk.cell 1
          have y1 := hBB.blk.free 1
          go_simp
          have hG := keepCell_set hBB 1 (.slice A d.pend.length c)
          exact hK.out undef _ ⟨⟨⟨_, _, _, _, hBB.set1 t⟩, below_keepCell hS2 hG (Nat.le_refl _), hS3.keepCell hG (by omega)⟩, hG, trivial⟩
      · rintro v u ⟨hS1, hS2, hS3⟩ hR
        simp only [holdAll, List.size_toArray, List.length_cons, List.length_nil, Nat.reduceAdd, rel, List.getD_cons_zero, List.getD_cons_succ] at hR
        clear hR
        obtain ⟨X1, m1, X2, m2, hBB⟩ := hS1
        have q0 := hBB.blk.cell 0
        have q1 := hBB.blk.cell 1
        have q2 := hBB.blk.cell 2
        have q3 := hBB.blk.cell 3
        have r0 := hS3.cell 0
        have r1 := hS3.cell 1
        have r2 := hS3.cell 2
        have r3 := hS3.cell 3
        have z0 := hS3.free 0
        have z1 := hS3.free 1
        have z2 := hS3.free 2
        have z3 := hS3.free 3
        go_wp2_with fail
        refine bodyPost_ret (v := .tuple #[.agg #[.slice X1 d.secs.length m1, .slice X2 d.pend.length m2, .bool d.off, .int .i64 d.fuse], .int .i64 z]) (by simp [results, Try.results11, go_sem, r0, r1, r2, r3]) rfl ?_
        obtain ⟨e1, e2⟩ := HE.out
        rw [e1, e2]
        exact ⟨_, rfl, hand_on hBB.tx hBB.wr hBB.l1 hBB.l2 hBB.f1 hBB.f2 hS3 hS2 (by omega)⟩
  · obtain ⟨S, HS⟩ := named (str x.pay)
    rw [show loadVal (x, 1, 0) = .tuple #[.agg #[.int .u64 (x.ep : Int), .string S], .int .i64 1, .int .i64 0] from by rw [HS.out]; rfl]
    have ko := Blk.new W3 [.int .u64 (x.ep : Int), .string S] 36
    have hbo := below_alloc W3 (.cells #[.int .u64 (x.ep : Int), .string S] 36)
    replace Bd := Bd.below hbo
    replace ka := ka.below hbo
    replace kb := kb.below hbo
    replace km := km.below hbo
    replace kz := kz.below hbo
    replace hb := bt hb hbo
    go_upto_region 5 with fail
    obtain ⟨W4, HW4⟩ := named (W3.alloc (.cells #[.int .u64 (x.ep : Int), .string S] 36))
    obtain ⟨O, HO⟩ := named W3.heap.size
    rw [← HO.out] at ko ⊢
    rw [← HW4.out] at ko Bd ka kb km kz hb ⊢
    clear HW4 HO hbo
    have xa := ka.cell
    have xb := kb.cell
    have hp0 := pick0 (.int .i64 (fa' : Int)) (.int .i64 (sa' : Int)) (.int .i64 (fb' : Int)) (.int .i64 (sb' : Int))
    have hp1 := pick1 (.int .i64 (fa' : Int)) (.int .i64 (sa' : Int)) (.int .i64 (fb' : Int)) (.int .i64 (sb' : Int))
    have ks := Blk.new W4 [.int .i64 (fa' : Int), .int .i64 (sa' : Int)] 33
    have hOS := ko.lt
    have hz4 := kz.lt
    have hbo := below_alloc W4 (.cells #[.int .i64 (fa' : Int), .int .i64 (sa' : Int)] 33)
    replace ko := ko.below hbo
    replace Bd := Bd.below hbo
    replace ka := ka.below hbo
    replace kb := kb.below hbo
    replace km := km.below hbo
    replace kz := kz.below hbo
    replace hb := bt hb hbo
    go_upto_region 6 with fail
    obtain ⟨W5, HW5⟩ := named (W4.alloc (.cells #[.int .i64 (fa' : Int), .int .i64 (sa' : Int)] 33))
    obtain ⟨Q, HQ⟩ := named W4.heap.size
    have hQ9 : w.heap.size + 1 + 1 + 1 + 1 < Q := by rw [HQ.out]; exact hz4
    rw [← HQ.out] at ks hOS ⊢
    rw [← HW5.out] at ko ks Bd ka kb km kz hb ⊢
    clear HW5 HQ hbo xa xb hp0 hp1
    go_upto_region 8 with fail
    have xm := km.cell
    clear hOS hz4 hQ9
    go_wp2_with fail
    clear xm
    by_cases hps : p.size ≤ 16384
    case neg =>
      refine (hsn3 _ (by omega)).mono ?_
      rintro e W6 ⟨rfl, hb6⟩
      replace ko := ko.below hb6
      replace ks := ks.below hb6
      replace Bd := Bd.below hb6
      replace ka := ka.below hb6
      replace kb := kb.below hb6
      replace km := km.below hb6
      replace kz := kz.below hb6
      replace hb := bt hb hb6
      clear hsc hsn3 hnl hb6
      go_upto_block 0 with fail
      go_cut [16] (fun x wx => ∃ z : Int, x = .int .i64 z ∧ Hid (D = d ∧ E = z) ∧ Box wx w.heap.size A1 c1 A2 c2 d ∧ Blk wx (w.heap.size + 1 + 1 + 1 + 1) [.slice none 0 0, .slice none 0 0, .bool false, .int .i64 0] 28 ∧ Below w.heap.size w wx)
      case first =>
        have HE : Hid (D = d ∧ E = 3) := by
          obtain ⟨e1, e2⟩ := HG.out
          rw [e1, e2]
          unfold saveOn
          rw [if_neg (by simp), if_pos (by show 16384 < p.data.toList.length; rw [HPL.out]; omega)]
          exact ⟨rfl, rfl⟩
        clear HG
        go_wp2
        go_meet
        case rel => exact ⟨3, rfl, HE, Bd, kz, hb⟩
      case rest =>
        obtain ⟨z, rfl, HE, Bd, kz, hb⟩ := hcut
        clear ka kb km ks ko
        go_wp2_with fail
        refine region_flat _ (fun u => (∃ X1 m1 X2 m2, Box u w.heap.size X1 m1 X2 m2 d) ∧ Below w.heap.size w u ∧ Blk u (w.heap.size + 1 + 1 + 1 + 1) [.slice none 0 0, .slice none 0 0, .bool false, .int .i64 0] 28) (fun u u' => KeepCell w.heap.size u u')
          (rel [fun v _ => v = .pointer (some ⟨w.heap.size, 0, none⟩),
            fun v u => ∃ A c, v = .slice A d.secs.length c ∧ Texts u A d.secs,
            fun v u => ∃ A c, v = .slice A d.secs.length c ∧ Texts u A d.secs,
            fun v _ => v = .pointer (some ⟨w.heap.size, 1, none⟩),
            fun v u => ∃ A c, v = .slice A d.pend.length c ∧ Writes u A d.pend,
            fun v u => ∃ A c, v = .slice A d.pend.length c ∧ Writes u A d.pend,
            fun v _ => v = .pointer (some ⟨w.heap.size, 0, none⟩),
            fun _ _ => True,
            fun v _ => v = .pointer (some ⟨w.heap.size, 1, none⟩),
            fun _ _ => True])
          (by kernel_rfl) (by kernel_rfl) (fun v => by simp only [putsV, Act.put, List.toList_toArray, List.setIfInBounds_toArray, List.set_cons_zero, List.set_cons_succ, Nat.reduceAdd, Nat.zero_add]; rfl) ?_ ⟨⟨A1, c1, A2, c2, ⟨Bd.blk, Bd.tx.drew, Bd.wr.drew, hl1, hl2, hf1, hf2⟩⟩, hb.drew, kz⟩ ?_ ?_
        · intro j x u u' hb h
          match j with
          | 0 => exact h
          | 1 => exact (let ⟨A, c, e, t⟩ := h; ⟨A, c, e, texts_keep t hb⟩)
          | 2 => exact (let ⟨A, c, e, t⟩ := h; ⟨A, c, e, texts_keep t hb⟩)
          | 3 => exact h
          | 4 => exact (let ⟨A, c, e, t⟩ := h; ⟨A, c, e, writes_keep t hb⟩)
          | 5 => exact (let ⟨A, c, e, t⟩ := h; ⟨A, c, e, writes_keep t hb⟩)
          | 6 => exact h
          | 7 => exact trivial
          | 8 => exact h
          | 9 => exact trivial
          | _ + 10 => trivial
        · refine ⟨?_, ?_, ?_, ?_, ?_, ?_, ?_, ?_, ?_, ?_, trivial⟩
          · intro v u hS hd K' hK
            simp only [waited, List.toList_toArray, Region.binds, rel, List.getD_cons_zero, List.getD_cons_succ, true_imp_iff, and_true] at hd
            simp only [rel, List.getD_cons_zero, List.getD_cons_succ, Act.put, List.setIfInBounds_toArray, List.set_cons_zero, List.set_cons_succ] at hK
            try simp only [hd] at hK
            obtain ⟨hS1, hS2, hS3⟩ := hS
            obtain ⟨X1, m1, X2, m2, hBB⟩ := hS1
            go_simp
            exact hK.out _ _ ⟨⟨⟨X1, m1, X2, m2, hBB⟩, hS2, hS3⟩, .inl (Below.refl _ _), rfl⟩
          · intro v u hS hd K' hK
            simp only [waited, List.toList_toArray, Region.binds, rel, List.getD_cons_zero, List.getD_cons_succ, true_imp_iff, and_true] at hd
            simp only [rel, List.getD_cons_zero, List.getD_cons_succ, Act.put, List.setIfInBounds_toArray, List.set_cons_zero, List.set_cons_succ] at hK
            try simp only [hd] at hK
            obtain ⟨hS1, hS2, hS3⟩ := hS
            obtain ⟨X1, m1, X2, m2, hBB⟩ := hS1
            have x0 := hBB.blk.cell 0
            go_simp
            exact hK.out _ _ ⟨⟨⟨X1, m1, X2, m2, hBB⟩, hS2, hS3⟩, .inl (Below.refl _ _), ⟨_, _, rfl, hBB.tx⟩⟩
          · intro v u hS hd K' hK
            simp only [waited, List.toList_toArray, Region.binds, rel, List.getD_cons_zero, List.getD_cons_succ, true_imp_iff, and_true] at hd
            simp only [rel, List.getD_cons_zero, List.getD_cons_succ, Act.put, List.setIfInBounds_toArray, List.set_cons_zero, List.set_cons_succ] at hK
            try simp only [hd] at hK
            obtain ⟨hS1, hS2, hS3⟩ := hS
            obtain ⟨X1, m1, X2, m2, hBB⟩ := hS1
            obtain ⟨A, c, e1, t⟩ := hd
            simp only [e1] at hK
            go_simp
            refine (cloneS_w A c _ u t (by omega)).mono ?_
            rintro e w2 ⟨v2, rfl, ho, hb2⟩
            obtain ⟨A', c', rfl, _, _, hl', _⟩ := Lies.of_own ho
            exact hK.out _ _ ⟨⟨⟨X1, m1, X2, m2, hBB.below hb2⟩, bt hS2 hb2, hS3.below hb2⟩, .inl hb2, ⟨_, _, rfl, hl'⟩⟩
          · intro v u hS hd K' hK
            simp only [waited, List.toList_toArray, Region.binds, rel, List.getD_cons_zero, List.getD_cons_succ, true_imp_iff, and_true] at hd
            simp only [rel, List.getD_cons_zero, List.getD_cons_succ, Act.put, List.setIfInBounds_toArray, List.set_cons_zero, List.set_cons_succ] at hK
            try simp only [hd] at hK
            obtain ⟨hS1, hS2, hS3⟩ := hS
            obtain ⟨X1, m1, X2, m2, hBB⟩ := hS1
            go_simp
            exact hK.out _ _ ⟨⟨⟨X1, m1, X2, m2, hBB⟩, hS2, hS3⟩, .inl (Below.refl _ _), rfl⟩
          · intro v u hS hd K' hK
            simp only [waited, List.toList_toArray, Region.binds, rel, List.getD_cons_zero, List.getD_cons_succ, true_imp_iff, and_true] at hd
            simp only [rel, List.getD_cons_zero, List.getD_cons_succ, Act.put, List.setIfInBounds_toArray, List.set_cons_zero, List.set_cons_succ] at hK
            try simp only [hd] at hK
            obtain ⟨hS1, hS2, hS3⟩ := hS
            obtain ⟨X1, m1, X2, m2, hBB⟩ := hS1
            have x0 := hBB.blk.cell 1
            go_simp
            exact hK.out _ _ ⟨⟨⟨X1, m1, X2, m2, hBB⟩, hS2, hS3⟩, .inl (Below.refl _ _), ⟨_, _, rfl, hBB.wr⟩⟩
          · intro v u hS hd K' hK
            simp only [waited, List.toList_toArray, Region.binds, rel, List.getD_cons_zero, List.getD_cons_succ, true_imp_iff, and_true] at hd
            simp only [rel, List.getD_cons_zero, List.getD_cons_succ, Act.put, List.setIfInBounds_toArray, List.set_cons_zero, List.set_cons_succ] at hK
            try simp only [hd] at hK
            obtain ⟨hS1, hS2, hS3⟩ := hS
            obtain ⟨X1, m1, X2, m2, hBB⟩ := hS1
            obtain ⟨⟨A, c, e1, t⟩, _⟩ := hd
            simp only [e1] at hK
            go_simp
            refine (cloneW_w A c _ u t (by omega)).mono ?_
            rintro e w2 ⟨v2, rfl, ho, hb2⟩
            obtain ⟨A', c', rfl, _, _, hl', _⟩ := Lies.of_own ho
            exact hK.out _ _ ⟨⟨⟨X1, m1, X2, m2, hBB.below hb2⟩, bt hS2 hb2, hS3.below hb2⟩, .inl hb2, ⟨_, _, rfl, hl'⟩⟩
          · intro v u hS hd K' hK
            simp only [waited, List.toList_toArray, Region.binds, rel, List.getD_cons_zero, List.getD_cons_succ, true_imp_iff, and_true] at hd
            simp only [rel, List.getD_cons_zero, List.getD_cons_succ, Act.put, List.setIfInBounds_toArray, List.set_cons_zero, List.set_cons_succ] at hK
            try simp only [hd] at hK
            obtain ⟨hS1, hS2, hS3⟩ := hS
            obtain ⟨X1, m1, X2, m2, hBB⟩ := hS1
            go_simp
            exact hK.out _ _ ⟨⟨⟨X1, m1, X2, m2, hBB⟩, hS2, hS3⟩, .inl (Below.refl _ _), rfl⟩
          · intro v u hS hd K' hK
            simp only [waited, List.toList_toArray, Region.binds, rel, List.getD_cons_zero, List.getD_cons_succ, true_imp_iff, and_true] at hd
            simp only [rel, List.getD_cons_zero, List.getD_cons_succ, Act.put, List.setIfInBounds_toArray, List.set_cons_zero, List.set_cons_succ] at hK
            try simp only [hd] at hK
            obtain ⟨hS1, hS2, hS3⟩ := hS
            obtain ⟨X1, m1, X2, m2, hBB⟩ := hS1
            obtain ⟨h0, ⟨A, c, e1, t⟩, _⟩ := hd
            try simp only [h0, e1] at hK ⊢
            have y0 := hBB.blk.cell 0
            have y1 := hBB.blk.free 0
            go_simp
            have hG := keepCell_set hBB 0 (.slice A d.secs.length c)
            exact hK.out undef _ ⟨⟨⟨_, _, _, _, hBB.set0 t⟩, below_keepCell hS2 hG (Nat.le_refl _), hS3.keepCell hG (by omega)⟩, hG, trivial⟩
          · intro v u hS hd K' hK
            simp only [waited, List.toList_toArray, Region.binds, rel, List.getD_cons_zero, List.getD_cons_succ, true_imp_iff, and_true] at hd
            simp only [rel, List.getD_cons_zero, List.getD_cons_succ, Act.put, List.setIfInBounds_toArray, List.set_cons_zero, List.set_cons_succ] at hK
            try simp only [hd] at hK
            obtain ⟨hS1, hS2, hS3⟩ := hS
            obtain ⟨X1, m1, X2, m2, hBB⟩ := hS1
            go_simp
            exact hK.out _ _ ⟨⟨⟨X1, m1, X2, m2, hBB⟩, hS2, hS3⟩, .inl (Below.refl _ _), rfl⟩
          · intro v u hS hd K' hK
            simp only [waited, List.toList_toArray, Region.binds, rel, List.getD_cons_zero, List.getD_cons_succ, true_imp_iff, and_true] at hd
            simp only [rel, List.getD_cons_zero, List.getD_cons_succ, Act.put, List.setIfInBounds_toArray, List.set_cons_zero, List.set_cons_succ] at hK
            try simp only [hd] at hK
            obtain ⟨hS1, hS2, hS3⟩ := hS
            obtain ⟨X1, m1, X2, m2, hBB⟩ := hS1
            obtain ⟨h0, ⟨A, c, e1, t⟩, _⟩ := hd
            try simp only [h0, e1] at hK ⊢
            have y0 := hBB.blk.cell 1
            have y1 := hBB.blk.free 1
            go_simp
            have hG := keepCell_set hBB 1 (.slice A d.pend.length c)
            exact hK.out undef _ ⟨⟨⟨_, _, _, _, hBB.set1 t⟩, below_keepCell hS2 hG (Nat.le_refl _), hS3.keepCell hG (by omega)⟩, hG, trivial⟩
        · rintro v u ⟨hS1, hS2, hS3⟩ hR
          simp only [holdAll, List.size_toArray, List.length_cons, List.length_nil, Nat.reduceAdd, rel, List.getD_cons_zero, List.getD_cons_succ] at hR
          clear hR
          obtain ⟨X1, m1, X2, m2, hBB⟩ := hS1
          have q0 := hBB.blk.cell 0
          have q1 := hBB.blk.cell 1
          have q2 := hBB.blk.cell 2
          have q3 := hBB.blk.cell 3
          have r0 := hS3.cell 0
          have r1 := hS3.cell 1
          have r2 := hS3.cell 2
          have r3 := hS3.cell 3
          have z0 := hS3.free 0
          have z1 := hS3.free 1
          have z2 := hS3.free 2
          have z3 := hS3.free 3
          go_wp2_with fail
          refine bodyPost_ret (v := .tuple #[.agg #[.slice X1 d.secs.length m1, .slice X2 d.pend.length m2, .bool d.off, .int .i64 d.fuse], .int .i64 z]) (by simp [results, Try.results11, go_sem, r0, r1, r2, r3]) rfl ?_
          obtain ⟨e1, e2⟩ := HE.out
          rw [e1, e2]
          exact ⟨_, rfl, hand_on hBB.tx hBB.wr hBB.l1 hBB.l2 hBB.f1 hBB.f2 hS3 hS2 (by omega)⟩
    refine (hsc _ hps).mono ?_
    rintro e W6 ⟨⟨A9, c9, rfl, hc9, ht9⟩, hb6⟩
    replace ko := ko.below hb6
    replace ks := ks.below hb6
    replace Bd := Bd.below hb6
    replace ka := ka.below hb6
    replace kb := kb.below hb6
    replace km := km.below hb6
    replace kz := kz.below hb6
    replace hb := bt hb hb6
    obtain ⟨hn1, hn2⟩ := hnl hps
    clear hsc hsn3 hnl hb6
    go_upto_block 0 with fail
    go_cut [16] (fun x wx => ∃ z : Int, x = .int .i64 z ∧ Hid (D = d ∧ E = z) ∧ Box wx w.heap.size A1 c1 A2 c2 d ∧ Blk wx (w.heap.size + 1 + 1 + 1 + 1) [.slice none 0 0, .slice none 0 0, .bool false, .int .i64 0] 28 ∧ Below w.heap.size w wx)
    case first =>
      have xm := km.cell
      have xs := ks.cell
      have xo := ko.cell
      by_cases hold : ep ≤ x.ep
      · have t8 : (ep : Int) ≤ (x.ep : Int) := by omega
        have t9 : decide (ep ≤ x.ep) = true := decide_eq_true hold
        have HE : Hid (D = d ∧ E = 1) := by
          obtain ⟨e1, e2⟩ := HG.out
          rw [e1, e2]
          unfold saveOn
          rw [if_neg (by simp), if_neg (by show ¬ 16384 < p.data.toList.length; rw [HPL.out]; omega), if_pos (by exact And.intro rfl hold)]
          exact ⟨rfl, rfl⟩
        clear HG
        go_wp2
        go_meet
        case rel => exact ⟨1, rfl, HE, Bd, kz, hb⟩
      have t8 : (x.ep : Int) < (ep : Int) := by omega
      have t9 : decide (ep ≤ x.ep) = false := decide_eq_false hold
      by_cases hfull : sa' < n
      · have t6 : (sa' : Int) < (n : Int) := by omega
        have t7 : decide (sa' < n) = true := decide_eq_true hfull
        have HE : Hid (D = d ∧ E = 17) := by
          obtain ⟨e1, e2⟩ := HG.out
          rw [e1, e2]
          unfold saveOn
          rw [← HLL.out]
          rw [if_neg (by simp), if_neg (by show ¬ 16384 < p.data.toList.length; rw [HPL.out]; omega), if_neg (fun h => hold h.2), if_neg (by simp), if_pos (by rw [HLn.out]; omega)]
          exact ⟨rfl, rfl⟩
        clear HG
        go_wp2
        go_meet
        case rel => exact ⟨17, rfl, HE, Bd, kz, hb⟩
      have t6 : ¬ ((sa' : Int) < (n : Int)) := by omega
      have t7 : decide (sa' < n) = false := decide_eq_false hfull
      have HDE : Hid (D = layD d fa' LL ∧ E = layE d fa' LL) := by
        obtain ⟨e1, e2⟩ := HG.out
        rw [e1, e2]
        unfold saveOn
        rw [← HLL.out]
        rw [if_neg (by simp), if_neg (by show ¬ 16384 < p.data.toList.length; rw [HPL.out]; omega), if_neg (fun h => hold h.2), if_neg (by simp), if_neg (by rw [HLn.out]; omega)]
        exact ⟨rfl, rfl⟩
      have hly := lay_w _ d fa' A9 n c9 LL W6 (hv0.below hb) ht9 HLn.out hn1 (by omega) hc9
      rw [← HDE.out.1, ← HDE.out.2] at hly
      have xd := Bd.blk.cell
      go_wp2_with fail
      refine hly.mono ?_
      rintro e w9 ⟨v9, rfl, ⟨X1, m1, X2, m2, rfl, u1, u2, l1, l2, f1, f2⟩, hb9⟩
      replace kz := kz.below hb9
      replace hb := bt hb hb9
      clear hly xd hb9 Bd ka kb km ks ko
      have r0 := kz.cell 0
      have r1 := kz.cell 1
      have r2 := kz.cell 2
      have r3 := kz.cell 3
      have z0 := kz.free 0
      have z1 := kz.free 1
      have z2 := kz.free 2
      have z3 := kz.free 3
      go_wp2_with fail
      refine bodyPost_ret (v := .tuple #[.agg #[.slice X1 D.secs.length m1, .slice X2 D.pend.length m2, .bool D.off, .int .i64 D.fuse], .int .i64 E]) (by simp [results, Try.results11, go_sem, r0, r1, r2, r3]) rfl ?_
      exact ⟨_, rfl, hand_on u1 u2 l1 l2 f1 f2 kz hb (by omega)⟩
    case rest =>
      obtain ⟨z, rfl, HE, Bd, kz, hb⟩ := hcut
      clear ka kb km ks ko
      go_wp2_with fail
      refine region_flat _ (fun u => (∃ X1 m1 X2 m2, Box u w.heap.size X1 m1 X2 m2 d) ∧ Below w.heap.size w u ∧ Blk u (w.heap.size + 1 + 1 + 1 + 1) [.slice none 0 0, .slice none 0 0, .bool false, .int .i64 0] 28) (fun u u' => KeepCell w.heap.size u u')
        (rel [fun v _ => v = .pointer (some ⟨w.heap.size, 0, none⟩),
          fun v u => ∃ A c, v = .slice A d.secs.length c ∧ Texts u A d.secs,
          fun v u => ∃ A c, v = .slice A d.secs.length c ∧ Texts u A d.secs,
          fun v _ => v = .pointer (some ⟨w.heap.size, 1, none⟩),
          fun v u => ∃ A c, v = .slice A d.pend.length c ∧ Writes u A d.pend,
          fun v u => ∃ A c, v = .slice A d.pend.length c ∧ Writes u A d.pend,
          fun v _ => v = .pointer (some ⟨w.heap.size, 0, none⟩),
          fun _ _ => True,
          fun v _ => v = .pointer (some ⟨w.heap.size, 1, none⟩),
          fun _ _ => True])
        (by kernel_rfl) (by kernel_rfl) (fun v => by simp only [putsV, Act.put, List.toList_toArray, List.setIfInBounds_toArray, List.set_cons_zero, List.set_cons_succ, Nat.reduceAdd, Nat.zero_add]; rfl) ?_ ⟨⟨A1, c1, A2, c2, ⟨Bd.blk, Bd.tx.drew, Bd.wr.drew, hl1, hl2, hf1, hf2⟩⟩, hb.drew, kz⟩ ?_ ?_
      · intro j x u u' hb h
        match j with
        | 0 => exact h
        | 1 => exact (let ⟨A, c, e, t⟩ := h; ⟨A, c, e, texts_keep t hb⟩)
        | 2 => exact (let ⟨A, c, e, t⟩ := h; ⟨A, c, e, texts_keep t hb⟩)
        | 3 => exact h
        | 4 => exact (let ⟨A, c, e, t⟩ := h; ⟨A, c, e, writes_keep t hb⟩)
        | 5 => exact (let ⟨A, c, e, t⟩ := h; ⟨A, c, e, writes_keep t hb⟩)
        | 6 => exact h
        | 7 => exact trivial
        | 8 => exact h
        | 9 => exact trivial
        | _ + 10 => trivial
      · refine ⟨?_, ?_, ?_, ?_, ?_, ?_, ?_, ?_, ?_, ?_, trivial⟩
        · intro v u hS hd K' hK
          simp only [waited, List.toList_toArray, Region.binds, rel, List.getD_cons_zero, List.getD_cons_succ, true_imp_iff, and_true] at hd
          simp only [rel, List.getD_cons_zero, List.getD_cons_succ, Act.put, List.setIfInBounds_toArray, List.set_cons_zero, List.set_cons_succ] at hK
          try simp only [hd] at hK
          obtain ⟨hS1, hS2, hS3⟩ := hS
          obtain ⟨X1, m1, X2, m2, hBB⟩ := hS1
          go_simp
          exact hK.out _ _ ⟨⟨⟨X1, m1, X2, m2, hBB⟩, hS2, hS3⟩, .inl (Below.refl _ _), rfl⟩
        · intro v u hS hd K' hK
          simp only [waited, List.toList_toArray, Region.binds, rel, List.getD_cons_zero, List.getD_cons_succ, true_imp_iff, and_true] at hd
          simp only [rel, List.getD_cons_zero, List.getD_cons_succ, Act.put, List.setIfInBounds_toArray, List.set_cons_zero, List.set_cons_succ] at hK
          try simp only [hd] at hK
          obtain ⟨hS1, hS2, hS3⟩ := hS
          obtain ⟨X1, m1, X2, m2, hBB⟩ := hS1
          have x0 := hBB.blk.cell 0
          go_simp
          exact hK.out _ _ ⟨⟨⟨X1, m1, X2, m2, hBB⟩, hS2, hS3⟩, .inl (Below.refl _ _), ⟨_, _, rfl, hBB.tx⟩⟩
        · intro v u hS hd K' hK
          simp only [waited, List.toList_toArray, Region.binds, rel, List.getD_cons_zero, List.getD_cons_succ, true_imp_iff, and_true] at hd
          simp only [rel, List.getD_cons_zero, List.getD_cons_succ, Act.put, List.setIfInBounds_toArray, List.set_cons_zero, List.set_cons_succ] at hK
          try simp only [hd] at hK
          obtain ⟨hS1, hS2, hS3⟩ := hS
          obtain ⟨X1, m1, X2, m2, hBB⟩ := hS1
          obtain ⟨A, c, e1, t⟩ := hd
          simp only [e1] at hK
          go_simp
          refine (cloneS_w A c _ u t (by omega)).mono ?_
          rintro e w2 ⟨v2, rfl, ho, hb2⟩
          obtain ⟨A', c', rfl, _, _, hl', _⟩ := Lies.of_own ho
          exact hK.out _ _ ⟨⟨⟨X1, m1, X2, m2, hBB.below hb2⟩, bt hS2 hb2, hS3.below hb2⟩, .inl hb2, ⟨_, _, rfl, hl'⟩⟩
        · intro v u hS hd K' hK
          simp only [waited, List.toList_toArray, Region.binds, rel, List.getD_cons_zero, List.getD_cons_succ, true_imp_iff, and_true] at hd
          simp only [rel, List.getD_cons_zero, List.getD_cons_succ, Act.put, List.setIfInBounds_toArray, List.set_cons_zero, List.set_cons_succ] at hK
          try simp only [hd] at hK
          obtain ⟨hS1, hS2, hS3⟩ := hS
          obtain ⟨X1, m1, X2, m2, hBB⟩ := hS1
          go_simp
          exact hK.out _ _ ⟨⟨⟨X1, m1, X2, m2, hBB⟩, hS2, hS3⟩, .inl (Below.refl _ _), rfl⟩
        · intro v u hS hd K' hK
          simp only [waited, List.toList_toArray, Region.binds, rel, List.getD_cons_zero, List.getD_cons_succ, true_imp_iff, and_true] at hd
          simp only [rel, List.getD_cons_zero, List.getD_cons_succ, Act.put, List.setIfInBounds_toArray, List.set_cons_zero, List.set_cons_succ] at hK
          try simp only [hd] at hK
          obtain ⟨hS1, hS2, hS3⟩ := hS
          obtain ⟨X1, m1, X2, m2, hBB⟩ := hS1
          have x0 := hBB.blk.cell 1
          go_simp
          exact hK.out _ _ ⟨⟨⟨X1, m1, X2, m2, hBB⟩, hS2, hS3⟩, .inl (Below.refl _ _), ⟨_, _, rfl, hBB.wr⟩⟩
        · intro v u hS hd K' hK
          simp only [waited, List.toList_toArray, Region.binds, rel, List.getD_cons_zero, List.getD_cons_succ, true_imp_iff, and_true] at hd
          simp only [rel, List.getD_cons_zero, List.getD_cons_succ, Act.put, List.setIfInBounds_toArray, List.set_cons_zero, List.set_cons_succ] at hK
          try simp only [hd] at hK
          obtain ⟨hS1, hS2, hS3⟩ := hS
          obtain ⟨X1, m1, X2, m2, hBB⟩ := hS1
          obtain ⟨⟨A, c, e1, t⟩, _⟩ := hd
          simp only [e1] at hK
          go_simp
          refine (cloneW_w A c _ u t (by omega)).mono ?_
          rintro e w2 ⟨v2, rfl, ho, hb2⟩
          obtain ⟨A', c', rfl, _, _, hl', _⟩ := Lies.of_own ho
          exact hK.out _ _ ⟨⟨⟨X1, m1, X2, m2, hBB.below hb2⟩, bt hS2 hb2, hS3.below hb2⟩, .inl hb2, ⟨_, _, rfl, hl'⟩⟩
        · intro v u hS hd K' hK
          simp only [waited, List.toList_toArray, Region.binds, rel, List.getD_cons_zero, List.getD_cons_succ, true_imp_iff, and_true] at hd
          simp only [rel, List.getD_cons_zero, List.getD_cons_succ, Act.put, List.setIfInBounds_toArray, List.set_cons_zero, List.set_cons_succ] at hK
          try simp only [hd] at hK
          obtain ⟨hS1, hS2, hS3⟩ := hS
          obtain ⟨X1, m1, X2, m2, hBB⟩ := hS1
          go_simp
          exact hK.out _ _ ⟨⟨⟨X1, m1, X2, m2, hBB⟩, hS2, hS3⟩, .inl (Below.refl _ _), rfl⟩
        · intro v u hS hd K' hK
          simp only [waited, List.toList_toArray, Region.binds, rel, List.getD_cons_zero, List.getD_cons_succ, true_imp_iff, and_true] at hd
          simp only [rel, List.getD_cons_zero, List.getD_cons_succ, Act.put, List.setIfInBounds_toArray, List.set_cons_zero, List.set_cons_succ] at hK
          try simp only [hd] at hK
          obtain ⟨hS1, hS2, hS3⟩ := hS
          obtain ⟨X1, m1, X2, m2, hBB⟩ := hS1
          obtain ⟨h0, ⟨A, c, e1, t⟩, _⟩ := hd
          try simp only [h0, e1] at hK ⊢
          have y0 := hBB.blk.cell 0
          have y1 := hBB.blk.free 0
          go_simp
          have hG := keepCell_set hBB 0 (.slice A d.secs.length c)
          exact hK.out undef _ ⟨⟨⟨_, _, _, _, hBB.set0 t⟩, below_keepCell hS2 hG (Nat.le_refl _), hS3.keepCell hG (by omega)⟩, hG, trivial⟩
        · intro v u hS hd K' hK
          simp only [waited, List.toList_toArray, Region.binds, rel, List.getD_cons_zero, List.getD_cons_succ, true_imp_iff, and_true] at hd
          simp only [rel, List.getD_cons_zero, List.getD_cons_succ, Act.put, List.setIfInBounds_toArray, List.set_cons_zero, List.set_cons_succ] at hK
          try simp only [hd] at hK
          obtain ⟨hS1, hS2, hS3⟩ := hS
          obtain ⟨X1, m1, X2, m2, hBB⟩ := hS1
          go_simp
          exact hK.out _ _ ⟨⟨⟨X1, m1, X2, m2, hBB⟩, hS2, hS3⟩, .inl (Below.refl _ _), rfl⟩
        · intro v u hS hd K' hK
          simp only [waited, List.toList_toArray, Region.binds, rel, List.getD_cons_zero, List.getD_cons_succ, true_imp_iff, and_true] at hd
          simp only [rel, List.getD_cons_zero, List.getD_cons_succ, Act.put, List.setIfInBounds_toArray, List.set_cons_zero, List.set_cons_succ] at hK
          try simp only [hd] at hK
          obtain ⟨hS1, hS2, hS3⟩ := hS
          obtain ⟨X1, m1, X2, m2, hBB⟩ := hS1
          obtain ⟨h0, ⟨A, c, e1, t⟩, _⟩ := hd
          try simp only [h0, e1] at hK ⊢
          have y0 := hBB.blk.cell 1
          have y1 := hBB.blk.free 1
          go_simp
          have hG := keepCell_set hBB 1 (.slice A d.pend.length c)
          exact hK.out undef _ ⟨⟨⟨_, _, _, _, hBB.set1 t⟩, below_keepCell hS2 hG (Nat.le_refl _), hS3.keepCell hG (by omega)⟩, hG, trivial⟩
      · rintro v u ⟨hS1, hS2, hS3⟩ hR
        simp only [holdAll, List.size_toArray, List.length_cons, List.length_nil, Nat.reduceAdd, rel, List.getD_cons_zero, List.getD_cons_succ] at hR
        clear hR
        obtain ⟨X1, m1, X2, m2, hBB⟩ := hS1
        have q0 := hBB.blk.cell 0
        have q1 := hBB.blk.cell 1
        have q2 := hBB.blk.cell 2
        have q3 := hBB.blk.cell 3
        have r0 := hS3.cell 0
        have r1 := hS3.cell 1
        have r2 := hS3.cell 2
        have r3 := hS3.cell 3
        have z0 := hS3.free 0
        have z1 := hS3.free 1
        have z2 := hS3.free 2
        have z3 := hS3.free 3
        go_wp2_with fail
        refine bodyPost_ret (v := .tuple #[.agg #[.slice X1 d.secs.length m1, .slice X2 d.pend.length m2, .bool d.off, .int .i64 d.fuse], .int .i64 z]) (by simp [results, Try.results11, go_sem, r0, r1, r2, r3]) rfl ?_
        obtain ⟨e1, e2⟩ := HE.out
        rw [e1, e2]
        exact ⟨_, rfl, hand_on hBB.tx hBB.wr hBB.l1 hBB.l2 hBB.f1 hBB.f2 hS3 hS2 (by omega)⟩
end Go.Proofs.Ytpfbmmeipojodaa
