/- Several small texts of this proof, one behind the other. -/
import Derived.Test.YtpfbmmeipojodaaGM
import Derived.Test.YtpfbmmeipojodaaGN
import Derived.Test.YtpfbmmeipojodaaWalFrame
import Derived.Test.YtpfbmmeipojodaaSlSave
import Derived.Test.YtpfbmmeipojodaaWalRefLay
import Derived.Test.YtpfbmmeipojodaaRecRefSec
import Derived.Test.YtpfbmmeipojodaaGI
import Derived.Test.YtpfbmmeipojodaaGJ
import Derived.Deep.DeepCutAuto
import Derived.Deep.CutBlock
section
/- The document's image and Load. -/
namespace Go.Proofs.Ytpfbmmeipojodaa
set_option linter.unusedSimpArgs false
set_option linter.unusedVariables false
open Go.RowKit Go.Shelf
open Crc
set_option maxHeartbeats 1000000 in
set_option maxRecDepth 100000 in
theorem refImage_w (v : Value) (d : Dk) (f s : Nat) (w : World) (hv : DkIs w v d) (hr : right d = true) (hfs : f + s ≤ d.secs.length) :
    Calls Try.prog 33 #[v, .agg #[.int .i64 (f : Int), .int .i64 (s : Int)]] w fun e w' => e = .returned (optVal (imgOf d f s)) ∧ Below w.heap.size w w' := by
  have hv0 := hv
  obtain ⟨A1, c1, A2, c2, rfl, _⟩ := hv
  have z1 : (w.alloc (.cells #[.slice A1 d.secs.length c1, .slice A2 d.pend.length c2, .bool d.off, .int .i64 d.fuse] 28)).heap.size = w.heap.size + 1 := by simp
  have kr := (Blk.new (w.alloc (.cells #[.slice A1 d.secs.length c1, .slice A2 d.pend.length c2, .bool d.off, .int .i64 d.fuse] 28)) [.int .i64 (f : Int), .int .i64 (s : Int)] 33).alloc (.cells #[.int .u64 0, .string ⟨#[]⟩] 36)
  have ki := Blk.new ((w.alloc (.cells #[.slice A1 d.secs.length c1, .slice A2 d.pend.length c2, .bool d.off, .int .i64 d.fuse] 28)).alloc (.cells #[.int .i64 (f : Int), .int .i64 (s : Int)] 33)) [.int .u64 0, .string ⟨#[]⟩] 36
  have Bd := (((Box.new w hv0).alloc (.cells #[.int .i64 (f : Int), .int .i64 (s : Int)] 33)).alloc (.cells #[.int .u64 0, .string ⟨#[]⟩] 36))
  have hb := bt (bt (below_alloc w (.cells #[.slice A1 d.secs.length c1, .slice A2 d.pend.length c2, .bool d.off, .int .i64 d.fuse] 28)) (below_alloc _ (.cells #[.int .i64 (f : Int), .int .i64 (s : Int)] 33))) (below_alloc _ (.cells #[.int .u64 0, .string ⟨#[]⟩] 36))
  rw [z1] at kr
  rw [show ((w.alloc (.cells #[.slice A1 d.secs.length c1, .slice A2 d.pend.length c2, .bool d.off, .int .i64 d.fuse] 28)).alloc (.cells #[.int .i64 (f : Int), .int .i64 (s : Int)] 33)).heap.size = w.heap.size + 1 + 1 by simp] at ki
  obtain ⟨W, HW⟩ := named (((w.alloc (.cells #[.slice A1 d.secs.length c1, .slice A2 d.pend.length c2, .bool d.off, .int .i64 d.fuse] 28)).alloc (.cells #[.int .i64 (f : Int), .int .i64 (s : Int)] 33)).alloc (.cells #[.int .u64 0, .string ⟨#[]⟩] 36))
  rw [← HW.out] at kr ki Bd hb
  have hfr := refFrame_w _ d f s 0 W (hv0.below hb) hr hfs (by omega)
  obtain ⟨M, HM⟩ := named (imgOf d f s)
  rw [← HM.out]
  go_enter Try.func33, Try.ntmps33
  have xd := Bd.blk.cell
  have xr := kr.cell
  rw [HW.out] at xd xr
  go_wp2_with fail
  rw [← HW.out]
  clear xd xr HW
  refine hfr.mono ?_
  rintro e w2 ⟨hret, hb2⟩
  replace ki := ki.below hb2
  replace hb := bt hb hb2
  clear hb2 hfr kr Bd
  rcases hret with ⟨fr, n, hAt, rfl⟩ | ⟨hno, rfl⟩
  · have hn1 : 1 ≤ n := by rw [hAt.len]; omega
    have HAt := hide hAt
    clear hAt
    obtain ⟨F, HF⟩ := named (str fr.pay)
    rw [show frVal fr = .agg #[.int .u8 (fr.kind.toNat : Int), .int .u64 (fr.epoch : Int), .int .u64 (fr.seq : Int), .string F] by rw [HF.out]; rfl]
    replace ki := ki.alloc (.cells #[.int .u8 (fr.kind.toNat : Int), .int .u64 (fr.epoch : Int), .int .u64 (fr.seq : Int), .string F] 61)
    replace hb := hb.alloc hb.size (.cells #[.int .u8 (fr.kind.toNat : Int), .int .u64 (fr.epoch : Int), .int .u64 (fr.seq : Int), .string F] 61)
    have kf := Blk.new w2 [.int .u8 (fr.kind.toNat : Int), .int .u64 (fr.epoch : Int), .int .u64 (fr.seq : Int), .string F] 61
    have t0 : ((n : Int) == 0) = false := by simp; omega
    go_upto_region 2 with fail
    obtain ⟨W4, HW4⟩ := named (w2.alloc (.cells #[.int .u8 (fr.kind.toNat : Int), .int .u64 (fr.epoch : Int), .int .u64 (fr.seq : Int), .string F] 61))
    obtain ⟨nB, HnB⟩ := named w2.heap.size
    rw [← HnB.out] at kf ⊢
    rw [← HW4.out] at kf ki hb ⊢
    clear HW4 HnB hn1
    have xf := kf.cell
    by_cases hk1 : fr.kind = 2
    case neg =>
      have t1 : (((fr.kind.toNat : Nat) : Int) == 2) = false := by
        have : fr.kind.toNat ≠ 2 := fun e => hk1 (UInt8.toNat_inj.1 e)
        simp; omega
      have t2 : (((fr.kind.toNat : Nat) : Int) != 2) = true := by
        have : fr.kind.toNat ≠ 2 := fun e => hk1 (UInt8.toNat_inj.1 e)
        simp; omega
      have HN : Hid (M = none) := HM.out.trans (imgOf_other HAt.out (fun h => hk1 h.1))
      clear hk1
      have r0 := ki.cell 0
      have r1 := ki.cell 1
      have z0 := ki.free 0
      have z1 := ki.free 1
      have hbe := (hb.setCell (p := ⟨w.heap.size + 1 + 1, 0, none⟩) (by show w.heap.size ≤ w.heap.size + 1 + 1; omega) (.int .u64 0)).setCell (p := ⟨w.heap.size + 1 + 1, 1, none⟩) (by show w.heap.size ≤ w.heap.size + 1 + 1; omega) (.string ⟨#[]⟩)
      go_wp2_with fail
      refine bodyPost_ret (v := .tuple #[.agg #[.int .u64 0, .string ⟨#[]⟩], .bool false]) (by simp [results, Try.results33, go_sem, r0, r1]) rfl ?_
      rw [HN.out]
      exact ⟨rfl, hbe⟩
    have t1 : (((fr.kind.toNat : Nat) : Int) == 2) = true := by rw [hk1]; rfl
    have t2 : (((fr.kind.toNat : Nat) : Int) != 2) = false := by rw [hk1]; rfl
    have Hk1 := hide hk1
    clear hk1
    by_cases hk2 : fr.seq = 0
    case neg =>
      have t3 : ((fr.seq : Int) == 0) = false := by simp [hk2]
      have t4 : ((fr.seq : Int) != 0) = true := by simp [hk2]
      have HN : Hid (M = none) := HM.out.trans (imgOf_other HAt.out (fun h => hk2 h.2))
      clear hk2
      have r0 := ki.cell 0
      have r1 := ki.cell 1
      have z0 := ki.free 0
      have z1 := ki.free 1
      have hbe := (hb.setCell (p := ⟨w.heap.size + 1 + 1, 0, none⟩) (by show w.heap.size ≤ w.heap.size + 1 + 1; omega) (.int .u64 0)).setCell (p := ⟨w.heap.size + 1 + 1, 1, none⟩) (by show w.heap.size ≤ w.heap.size + 1 + 1; omega) (.string ⟨#[]⟩)
      go_wp2_with fail
      refine bodyPost_ret (v := .tuple #[.agg #[.int .u64 0, .string ⟨#[]⟩], .bool false]) (by simp [results, Try.results33, go_sem, r0, r1]) rfl ?_
      rw [HN.out]
      exact ⟨rfl, hbe⟩
    have t3 : ((fr.seq : Int) == 0) = true := by simp [hk2]
    have t4 : ((fr.seq : Int) != 0) = false := by simp [hk2]
    have HV : Hid (optVal M = .tuple #[.agg #[.int .u64 (fr.epoch : Int), .string F], .bool true]) := by rw [HM.out, imgOf_some HAt.out Hk1.out hk2, HF.out]; rfl
    clear hk2
    have r0 := ki.cell 0
    have r1 := ki.cell 1
    have z0 := ki.free 0
    have z1 := ki.free 1
    have hbe := (hb.setCell (p := ⟨w.heap.size + 1 + 1, 0, none⟩) (by show w.heap.size ≤ w.heap.size + 1 + 1; omega) (.int .u64 (fr.epoch : Int))).setCell (p := ⟨w.heap.size + 1 + 1, 1, none⟩) (by show w.heap.size ≤ w.heap.size + 1 + 1; omega) (.string F)
    go_wp2_with fail
    refine bodyPost_ret (v := .tuple #[.agg #[.int .u64 (fr.epoch : Int), .string F], .bool true]) (by simp [results, Try.results33, go_sem, r0, r1]) rfl ?_
    exact ⟨by rw [HV.out], hbe⟩
  · have HN : Hid (M = none) := HM.out.trans (imgOf_none fun x n h _ => hno x n h)
    clear hno
    unfold zeroFrame
    replace ki := ki.alloc (.cells #[.int .u8 0, .int .u64 0, .int .u64 0, .string ⟨#[]⟩] 61)
    replace hb := hb.alloc hb.size (.cells #[.int .u8 0, .int .u64 0, .int .u64 0, .string ⟨#[]⟩] 61)
    have kf := Blk.new w2 [.int .u8 0, .int .u64 0, .int .u64 0, .string ⟨#[]⟩] 61
    have xf := kf.cell
    have r0 := ki.cell 0
    have r1 := ki.cell 1
    have z0 := ki.free 0
    have z1 := ki.free 1
    have hbe := (hb.setCell (p := ⟨w.heap.size + 1 + 1, 0, none⟩) (by show w.heap.size ≤ w.heap.size + 1 + 1; omega) (.int .u64 0)).setCell (p := ⟨w.heap.size + 1 + 1, 1, none⟩) (by show w.heap.size ≤ w.heap.size + 1 + 1; omega) (.string ⟨#[]⟩)
    go_wp2_with fail
    refine bodyPost_ret (v := .tuple #[.agg #[.int .u64 0, .string ⟨#[]⟩], .bool false]) (by simp [results, Try.results33, go_sem, r0, r1]) rfl ?_
    rw [HN.out]
    exact ⟨rfl, hbe⟩
set_option maxHeartbeats 1000000 in
set_option maxRecDepth 100000 in
theorem refLoad_w (v : Value) (d : Dk) (fa sa fb sb : Int) (w : World) (hv : DkIs w v d) (hfa : -9223372036854775808 ≤ fa ∧ fa ≤ 9223372036854775807) (hsa : -9223372036854775808 ≤ sa ∧ sa ≤ 9223372036854775807) (hfb : -9223372036854775808 ≤ fb ∧ fb ≤ 9223372036854775807) (hsb : -9223372036854775808 ≤ sb ∧ sb ≤ 9223372036854775807) :
    Calls Try.prog 15 #[v, .agg #[.int .i64 fa, .int .i64 sa], .agg #[.int .i64 fb, .int .i64 sb]] w fun e w' => e = .returned (loadVal (loadR d fa sa fb sb)) ∧ Below w.heap.size w w' := by
  have hv0 := hv
  obtain ⟨A1, c1, A2, c2, rfl, _⟩ := hv
  obtain ⟨W, HW, Bd, ka, kb, km, hb, hz⟩ := dabm_in w hv0 fa sa fb sb 0 ⟨#[]⟩
  have hck := refSlCheck_w _ d fa sa fb sb W Bd.is hfa hsa hfb hsb
  obtain ⟨R, HR⟩ := named (loadR d fa sa fb sb)
  rw [← HR.out]
  have hsz := fun h : slE d fa sa fb sb = 0 => sl_zero h
  obtain ⟨X, HX⟩ := named (slE d fa sa fb sb)
  rw [← HX.out] at hsz hck
  go_enter Try.func15, Try.ntmps15
  have xd := Bd.blk.cell
  have xa := ka.cell
  have xb := kb.cell
  rw [HW.out] at xd xa xb
  go_wp2_with fail
  rw [← HW.out]
  clear xd xa xb HW
  refine hck.mono ?_
  rintro e w2 ⟨rfl, hb2⟩
  replace Bd := Bd.below hb2
  replace ka := ka.below hb2
  replace kb := kb.below hb2
  replace km := km.below hb2
  replace hb := bt hb hb2
  clear hb2 hck
  by_cases hX : X = 0
  case neg =>
    have t1 : (X == 0) = false := by simp [hX]
    have t2 : (X != 0) = true := by simp [hX]
    have HN : Hid (R = (img0, 0, X)) := by show R = _; rw [HR.out, loadR, if_pos (by rw [← HX.out]; exact hX), HX.out]
    clear hX hsz
    have r0 := km.cell 0
    have r1 := km.cell 1
    have z0 := km.free 0
    have z1 := km.free 1
    have hbe := (hb.setCell (p := ⟨w.heap.size + 1 + 1 + 1, 0, none⟩) (by show w.heap.size ≤ w.heap.size + 1 + 1 + 1; omega) (.int .u64 0)).setCell (p := ⟨w.heap.size + 1 + 1 + 1, 1, none⟩) (by show w.heap.size ≤ w.heap.size + 1 + 1 + 1; omega) (.string ⟨#[]⟩)
    go_wp2_with fail
    refine bodyPost_ret (v := .tuple #[.agg #[.int .u64 0, .string ⟨#[]⟩], .int .i64 0, .int .i64 X]) (by simp [results, Try.results15, go_sem, r0, r1]) rfl ?_
    rw [HN.out]
    exact ⟨rfl, hbe⟩
  have t1 : (X == 0) = true := by simp [hX]
  have t2 : (X != 0) = false := by simp [hX]
  obtain ⟨ha0, hb0, _⟩ := hsz hX
  obtain ⟨hr, a1, a2, a3, a4⟩ := wal_zero ha0
  obtain ⟨_, b1, b2, b3, b4⟩ := wal_zero hb0
  have HX0 := hide hX
  clear hX hsz ha0 hb0
  have xd := Bd.blk.cell
  by_cases hoff : d.off = true
  · have HN : Hid (R = (img0, 0, 15)) := by show R = _; rw [HR.out, loadR, if_neg (by rw [← HX.out, HX0.out]; decide), if_pos hoff]
    have r0 := km.cell 0
    have r1 := km.cell 1
    have z0 := km.free 0
    have z1 := km.free 1
    have hbe := (hb.setCell (p := ⟨w.heap.size + 1 + 1 + 1, 0, none⟩) (by show w.heap.size ≤ w.heap.size + 1 + 1 + 1; omega) (.int .u64 0)).setCell (p := ⟨w.heap.size + 1 + 1 + 1, 1, none⟩) (by show w.heap.size ≤ w.heap.size + 1 + 1 + 1; omega) (.string ⟨#[]⟩)
    go_wp2_with fail
    refine bodyPost_ret (v := .tuple #[.agg #[.int .u64 0, .string ⟨#[]⟩], .int .i64 0, .int .i64 15]) (by simp [results, Try.results15, go_sem, r0, r1]) rfl ?_
    rw [HN.out]
    exact ⟨rfl, hbe⟩
  have hoff' : d.off = false := by simpa using hoff
  obtain ⟨fa', rfl⟩ := Int.eq_ofNat_of_zero_le a1
  obtain ⟨sa', rfl⟩ := Int.eq_ofNat_of_zero_le (show 0 ≤ sa by omega)
  obtain ⟨fb', rfl⟩ := Int.eq_ofNat_of_zero_le b1
  obtain ⟨sb', rfl⟩ := Int.eq_ofNat_of_zero_le (show 0 ≤ sb by omega)
  have hia := fun W v hv => refImage_w v d fa' sa' W hv hr (by omega)
  have hib := fun W v hv => refImage_w v d fb' sb' W hv hr (by omega)
  have HRB : Hid (R = best (imgOf d fa' sa') (imgOf d fb' sb')) := by show R = _; rw [HR.out, loadR, if_neg (by rw [← HX.out, HX0.out]; decide), if_neg hoff]; rfl
  obtain ⟨IA, HIA⟩ := named (imgOf d fa' sa')
  obtain ⟨IB, HIB⟩ := named (imgOf d fb' sb')
  rw [← HIA.out, ← HIB.out] at HRB
  simp only [← HIA.out] at hia
  simp only [← HIB.out] at hib
  have hv1 := hv0
  rw [hoff'] at hv1
  have kd := Bd.blk
  rw [hoff'] at kd
  clear hoff HIA HIB HR HX hr Bd xd
  have xd := kd.cell
  have xo : w2.cell? ⟨w.heap.size, 2, none⟩ = some (.bool false) := xd 2
  have xa := ka.cell
  have Hoff := hide hoff'
  clear hoff'
  go_wp2_with fail
  clear xd xa xo
  refine (hia _ _ (hv1.below hb)).mono ?_
  rintro e w3 ⟨rfl, hb3⟩
  replace kd := kd.below hb3
  replace kb := kb.below hb3
  replace km := km.below hb3
  replace hb := bt hb hb3
  clear hb3 hia ka
  cases IA with
  | none =>
    rw [show optVal none = .tuple #[.agg #[.int .u64 0, .string ⟨#[]⟩], .bool false] from rfl]
    have kx := Blk.new w3 [.int .u64 0, .string ⟨#[]⟩] 36
    replace kd := kd.alloc (.cells #[.int .u64 0, .string ⟨#[]⟩] 36)
    replace kb := kb.alloc (.cells #[.int .u64 0, .string ⟨#[]⟩] 36)
    replace km := km.alloc (.cells #[.int .u64 0, .string ⟨#[]⟩] 36)
    replace hb := hb.alloc hb.size (.cells #[.int .u64 0, .string ⟨#[]⟩] 36)
    go_upto_region 7 with fail
    obtain ⟨W4, HW4⟩ := named (w3.alloc (.cells #[.int .u64 0, .string ⟨#[]⟩] 36))
    obtain ⟨O, HO⟩ := named w3.heap.size
    rw [← HO.out] at kx ⊢
    rw [← HW4.out] at kx kd kb km hb ⊢
    clear HW4 HO
    have xd := kd.cell
    have xb := kb.cell
    go_wp2_with fail
    clear xd xb
    refine (hib _ _ (hv1.below hb)).mono ?_
    rintro e w5 ⟨rfl, hb5⟩
    replace kx := kx.below hb5
    replace km := km.below hb5
    replace hb := bt hb hb5
    clear hb5 hib kd kb
    cases IB with
    | none =>
      rw [show optVal none = .tuple #[.agg #[.int .u64 0, .string ⟨#[]⟩], .bool false] from rfl]
      have ky := Blk.new w5 [.int .u64 0, .string ⟨#[]⟩] 36
      replace kx := kx.alloc (.cells #[.int .u64 0, .string ⟨#[]⟩] 36)
      replace km := km.alloc (.cells #[.int .u64 0, .string ⟨#[]⟩] 36)
      replace hb := hb.alloc hb.size (.cells #[.int .u64 0, .string ⟨#[]⟩] 36)
      go_upto_region 8 with fail
      obtain ⟨W6, HW6⟩ := named (w5.alloc (.cells #[.int .u64 0, .string ⟨#[]⟩] 36))
      obtain ⟨P, HP⟩ := named w5.heap.size
      rw [← HP.out] at ky ⊢
      rw [← HW6.out] at kx ky km hb ⊢
      clear HW6 HP
      have xx := kx.cell
      have xy := ky.cell
      have HN := HRB
      have r0 := km.cell 0
      have r1 := km.cell 1
      have z0 := km.free 0
      have z1 := km.free 1
      have hbe := (hb.setCell (p := ⟨w.heap.size + 1 + 1 + 1, 0, none⟩) (by show w.heap.size ≤ w.heap.size + 1 + 1 + 1; omega) (.int .u64 0)).setCell (p := ⟨w.heap.size + 1 + 1 + 1, 1, none⟩) (by show w.heap.size ≤ w.heap.size + 1 + 1 + 1; omega) (.string ⟨#[]⟩)
      go_wp2_with fail
      refine bodyPost_ret (v := .tuple #[.agg #[.int .u64 0, .string ⟨#[]⟩], .int .i64 0, .int .i64 9]) (by simp [results, Try.results15, go_sem, r0, r1]) rfl ?_
      rw [show R = (img0, 0, 9) from HN.out]
      exact ⟨rfl, hbe⟩
    | some y =>
      rw [show optVal (some y) = .tuple #[.agg #[.int .u64 (y.ep : Int), .string (str y.pay)], .bool true] from rfl]
      obtain ⟨U, HU⟩ := named (str y.pay)
      rw [← HU.out]
      have ky := Blk.new w5 [.int .u64 (y.ep : Int), .string U] 36
      replace kx := kx.alloc (.cells #[.int .u64 (y.ep : Int), .string U] 36)
      replace km := km.alloc (.cells #[.int .u64 (y.ep : Int), .string U] 36)
      replace hb := hb.alloc hb.size (.cells #[.int .u64 (y.ep : Int), .string U] 36)
      go_upto_region 8 with fail
      obtain ⟨W6, HW6⟩ := named (w5.alloc (.cells #[.int .u64 (y.ep : Int), .string U] 36))
      obtain ⟨P, HP⟩ := named w5.heap.size
      rw [← HP.out] at ky ⊢
      rw [← HW6.out] at kx ky km hb ⊢
      clear HW6 HP
      have xx := kx.cell
      have xy := ky.cell
      have HN := HRB
      have r0 := km.cell 0
      have r1 := km.cell 1
      have z0 := km.free 0
      have z1 := km.free 1
      have hbe := (hb.setCell (p := ⟨w.heap.size + 1 + 1 + 1, 0, none⟩) (by show w.heap.size ≤ w.heap.size + 1 + 1 + 1; omega) (.int .u64 (y.ep : Int))).setCell (p := ⟨w.heap.size + 1 + 1 + 1, 1, none⟩) (by show w.heap.size ≤ w.heap.size + 1 + 1 + 1; omega) (.string U)
      go_wp2_with fail
      refine bodyPost_ret (v := .tuple #[.agg #[.int .u64 (y.ep : Int), .string U], .int .i64 1, .int .i64 0]) (by simp [results, Try.results15, go_sem, r0, r1]) rfl ?_
      rw [show R = (y, 1, 0) from HN.out]
      exact ⟨by rw [HU.out]; rfl, hbe⟩
  | some x =>
    rw [show optVal (some x) = .tuple #[.agg #[.int .u64 (x.ep : Int), .string (str x.pay)], .bool true] from rfl]
    obtain ⟨S, HS⟩ := named (str x.pay)
    rw [← HS.out]
    have kx := Blk.new w3 [.int .u64 (x.ep : Int), .string S] 36
    replace kd := kd.alloc (.cells #[.int .u64 (x.ep : Int), .string S] 36)
    replace kb := kb.alloc (.cells #[.int .u64 (x.ep : Int), .string S] 36)
    replace km := km.alloc (.cells #[.int .u64 (x.ep : Int), .string S] 36)
    replace hb := hb.alloc hb.size (.cells #[.int .u64 (x.ep : Int), .string S] 36)
    go_upto_region 7 with fail
    obtain ⟨W4, HW4⟩ := named (w3.alloc (.cells #[.int .u64 (x.ep : Int), .string S] 36))
    obtain ⟨O, HO⟩ := named w3.heap.size
    rw [← HO.out] at kx ⊢
    rw [← HW4.out] at kx kd kb km hb ⊢
    clear HW4 HO
    have xd := kd.cell
    have xb := kb.cell
    go_wp2_with fail
    clear xd xb
    refine (hib _ _ (hv1.below hb)).mono ?_
    rintro e w5 ⟨rfl, hb5⟩
    replace kx := kx.below hb5
    replace km := km.below hb5
    replace hb := bt hb hb5
    clear hb5 hib kd kb
    cases IB with
    | none =>
      rw [show optVal none = .tuple #[.agg #[.int .u64 0, .string ⟨#[]⟩], .bool false] from rfl]
      have ky := Blk.new w5 [.int .u64 0, .string ⟨#[]⟩] 36
      replace kx := kx.alloc (.cells #[.int .u64 0, .string ⟨#[]⟩] 36)
      replace km := km.alloc (.cells #[.int .u64 0, .string ⟨#[]⟩] 36)
      replace hb := hb.alloc hb.size (.cells #[.int .u64 0, .string ⟨#[]⟩] 36)
      go_upto_region 8 with fail
      obtain ⟨W6, HW6⟩ := named (w5.alloc (.cells #[.int .u64 0, .string ⟨#[]⟩] 36))
      obtain ⟨P, HP⟩ := named w5.heap.size
      rw [← HP.out] at ky ⊢
      rw [← HW6.out] at kx ky km hb ⊢
      clear HW6 HP
      have xx := kx.cell
      have xy := ky.cell
      have HN := HRB
      have r0 := km.cell 0
      have r1 := km.cell 1
      have z0 := km.free 0
      have z1 := km.free 1
      have hbe := (hb.setCell (p := ⟨w.heap.size + 1 + 1 + 1, 0, none⟩) (by show w.heap.size ≤ w.heap.size + 1 + 1 + 1; omega) (.int .u64 (x.ep : Int))).setCell (p := ⟨w.heap.size + 1 + 1 + 1, 1, none⟩) (by show w.heap.size ≤ w.heap.size + 1 + 1 + 1; omega) (.string S)
      go_wp2_with fail
      refine bodyPost_ret (v := .tuple #[.agg #[.int .u64 (x.ep : Int), .string S], .int .i64 0, .int .i64 0]) (by simp [results, Try.results15, go_sem, r0, r1]) rfl ?_
      rw [show R = (x, 0, 0) from HN.out]
      exact ⟨by rw [HS.out]; rfl, hbe⟩
    | some y =>
      rw [show optVal (some y) = .tuple #[.agg #[.int .u64 (y.ep : Int), .string (str y.pay)], .bool true] from rfl]
      obtain ⟨U, HU⟩ := named (str y.pay)
      rw [← HU.out]
      have ky := Blk.new w5 [.int .u64 (y.ep : Int), .string U] 36
      replace kx := kx.alloc (.cells #[.int .u64 (y.ep : Int), .string U] 36)
      replace km := km.alloc (.cells #[.int .u64 (y.ep : Int), .string U] 36)
      replace hb := hb.alloc hb.size (.cells #[.int .u64 (y.ep : Int), .string U] 36)
      go_upto_region 8 with fail
      obtain ⟨W6, HW6⟩ := named (w5.alloc (.cells #[.int .u64 (y.ep : Int), .string U] 36))
      obtain ⟨P, HP⟩ := named w5.heap.size
      rw [← HP.out] at ky ⊢
      rw [← HW6.out] at kx ky km hb ⊢
      clear HW6 HP
      have xx := kx.cell
      have xy := ky.cell
      by_cases hle : y.ep ≤ x.ep
      · have HN : Hid (R = (x, 0, 0)) := by show R = _; rw [HRB.out]; simp only [best]; rw [if_pos hle]
        have t8 : (y.ep : Int) ≤ (x.ep : Int) := by omega
        have t9 : decide (y.ep ≤ x.ep) = true := decide_eq_true hle
        clear hle
        have r0 := km.cell 0
        have r1 := km.cell 1
        have z0 := km.free 0
        have z1 := km.free 1
        have hbe := (hb.setCell (p := ⟨w.heap.size + 1 + 1 + 1, 0, none⟩) (by show w.heap.size ≤ w.heap.size + 1 + 1 + 1; omega) (.int .u64 (x.ep : Int))).setCell (p := ⟨w.heap.size + 1 + 1 + 1, 1, none⟩) (by show w.heap.size ≤ w.heap.size + 1 + 1 + 1; omega) (.string S)
        go_wp2_with fail
        refine bodyPost_ret (v := .tuple #[.agg #[.int .u64 (x.ep : Int), .string S], .int .i64 0, .int .i64 0]) (by simp [results, Try.results15, go_sem, r0, r1]) rfl ?_
        rw [HN.out]
        exact ⟨by rw [HS.out]; rfl, hbe⟩
      · have HN : Hid (R = (y, 1, 0)) := by show R = _; rw [HRB.out]; simp only [best]; rw [if_neg hle]
        have t8 : ¬ (y.ep : Int) ≤ (x.ep : Int) := by omega
        have t9 : decide (y.ep ≤ x.ep) = false := decide_eq_false hle
        clear hle
        have r0 := km.cell 0
        have r1 := km.cell 1
        have z0 := km.free 0
        have z1 := km.free 1
        have hbe := (hb.setCell (p := ⟨w.heap.size + 1 + 1 + 1, 0, none⟩) (by show w.heap.size ≤ w.heap.size + 1 + 1 + 1; omega) (.int .u64 (y.ep : Int))).setCell (p := ⟨w.heap.size + 1 + 1 + 1, 1, none⟩) (by show w.heap.size ≤ w.heap.size + 1 + 1 + 1; omega) (.string U)
        go_wp2_with fail
        refine bodyPost_ret (v := .tuple #[.agg #[.int .u64 (y.ep : Int), .string U], .int .i64 1, .int .i64 0]) (by simp [results, Try.results15, go_sem, r0, r1]) rfl ?_
        rw [HN.out]
        exact ⟨by rw [HU.out]; rfl, hbe⟩
end Go.Proofs.Ytpfbmmeipojodaa
end
section
/- slots.Save. -/
namespace Go.Proofs.Ytpfbmmeipojodaa
set_option linter.unusedSimpArgs false
set_option linter.unusedVariables false
open Go.RowKit Go.Shelf
open Crc
theorem wal_vals (d : Dk) (f s : Int) : walE d f s = 0 ∨ walE d f s = 13 ∨ walE d f s = 1 := by
  unfold walE
  by_cases h : right d = false
  · rw [if_pos h]; exact .inr (.inl rfl)
  · rw [if_neg h]
    by_cases g : regOk d f s = false
    · rw [if_pos g]; exact .inr (.inr rfl)
    · rw [if_neg g]; exact .inl rfl
theorem sl_vals (d : Dk) (fa sa fb sb : Int) : slE d fa sa fb sb = 0 ∨ slE d fa sa fb sb = 13 ∨ slE d fa sa fb sb = 1 ∨ slE d fa sa fb sb = 10 := by
  unfold slE
  have h1 := wal_vals d fa sa
  have h2 := wal_vals d fb sb
  by_cases g1 : walE d fa sa ≠ 0
  · rw [if_pos g1]; rcases h1 with h | h | h
    · exact absurd h g1
    · exact .inr (.inl h)
    · exact .inr (.inr (.inl h))
  · rw [if_neg g1]
    by_cases g2 : walE d fb sb ≠ 0
    · rw [if_pos g2]; rcases h2 with h | h | h
      · exact absurd h g2
      · exact .inr (.inl h)
      · exact .inr (.inr (.inl h))
    · rw [if_neg g2]
      by_cases g3 : apart fa sa fb sb = true
      · rw [if_pos g3]; exact .inl rfl
      · rw [if_neg g3]; exact .inr (.inr (.inr rfl))
theorem load_bad {d : Dk} {fa sa fb sb : Int} (h : slE d fa sa fb sb ≠ 0) : loadR d fa sa fb sb = (img0, 0, slE d fa sa fb sb) := by unfold loadR; rw [if_pos h]

set_option maxHeartbeats 4000000 in
set_option maxRecDepth 100000 in
theorem refSave_w (v : Value) (d : Dk) (fa sa fb sb : Int) (ep : Nat) (p : ByteArray) (w : World) (hv : DkIs w v d) (hfa : -9223372036854775808 ≤ fa ∧ fa ≤ 9223372036854775807) (hsa : -9223372036854775808 ≤ sa ∧ sa ≤ 9223372036854775807) (hfb : -9223372036854775808 ≤ fb ∧ fb ≤ 9223372036854775807) (hsb : -9223372036854775808 ≤ sb ∧ sb ≤ 9223372036854775807) (he : ep < 18446744073709551616) :
    Calls Try.prog 16 #[v, .agg #[.int .i64 fa, .int .i64 sa], .agg #[.int .i64 fb, .int .i64 sb], .agg #[.int .u64 (ep : Int), .string p]] w (DkRet (saveR d fa sa fb sb ⟨ep, p.data.toList⟩).1 (saveR d fa sa fb sb ⟨ep, p.data.toList⟩).2 w) := by
  have hv0 := hv
  obtain ⟨A1, c1, A2, c2, rfl, h1, h2, hl1, hl2, hf1, hf2⟩ := hv
  obtain ⟨W, HW, Bd, ka, kb, km, hb, hz⟩ := dabm_in w hv0 fa sa fb sb ep p
  have kz := Blk.new W [.slice none 0 0, .slice none 0 0, .bool false, .int .i64 0] 28
  rw [hz] at kz
  have hbz := below_alloc W (.cells #[.slice none 0 0, .slice none 0 0, .bool false, .int .i64 0] 28)
  replace Bd := Bd.below hbz
  replace ka := ka.below hbz
  replace kb := kb.below hbz
  replace km := km.below hbz
  replace hb := bt hb hbz
  obtain ⟨V, HV⟩ := named (W.alloc (.cells #[.slice none 0 0, .slice none 0 0, .bool false, .int .i64 0] 28))
  rw [← HV.out] at Bd ka kb km kz hb
  rw [HW.out] at HV
  have hld := fun W (h : Below w.heap.size w W) => refLoad_w _ d fa sa fb sb W (hv0.below h) hfa hsa hfb hsb
  obtain ⟨D, HD⟩ := named (saveR d fa sa fb sb ⟨ep, p.data.toList⟩).1
  obtain ⟨E, HE⟩ := named (saveR d fa sa fb sb ⟨ep, p.data.toList⟩).2
  rw [← HD.out, ← HE.out]
  have hlc := fun h : slE d fa sa fb sb = 0 => load_cases h
  have hsz := fun h : slE d fa sa fb sb = 0 => sl_zero h
  have hbad : slE d fa sa fb sb ≠ 0 → D = dk0 ∧ E = slE d fa sa fb sb := fun h => by
    rw [HD.out, HE.out]; unfold saveR; rw [if_pos h]; exact ⟨rfl, rfl⟩
  have hgood : slE d fa sa fb sb = 0 → D = (saveOn d fa sa fb sb ⟨ep, p.data.toList⟩ (loadR d fa sa fb sb)).1 ∧ E = (saveOn d fa sa fb sb ⟨ep, p.data.toList⟩ (loadR d fa sa fb sb)).2 := fun h => by
    rw [HD.out, HE.out]; unfold saveR; rw [if_neg (by simp [h])]; exact ⟨rfl, rfl⟩
  obtain ⟨X, HX⟩ := named (slE d fa sa fb sb)
  have hvals := sl_vals d fa sa fb sb
  have hlb := fun h : slE d fa sa fb sb ≠ 0 => load_bad h
  rw [← HX.out] at hlc hsz hbad hgood hlb hvals
  obtain ⟨R, HR⟩ := named (loadR d fa sa fb sb)
  simp only [← HR.out] at hld hlc hgood hlb
  clear hz HW HX HD HE hbz HR
  go_enter Try.func16, Try.ntmps16
  have xd := Bd.blk.cell
  have xa := ka.cell
  have xb := kb.cell
  rw [HV.out] at xd xa xb
  go_wp2_with fail
  rw [← HV.out]
  clear xd xa xb HV
  refine (hld _ hb).mono ?_
  rintro e W3 ⟨rfl, hb3⟩
  replace Bd := Bd.below hb3
  replace ka := ka.below hb3
  replace kb := kb.below hb3
  replace km := km.below hb3
  replace kz := kz.below hb3
  replace hb := bt hb hb3
  clear hb3 hld
  by_cases hX : X = 0
  case neg =>
    have HN := hide (hbad hX)
    obtain rfl := hlb hX
    have t1 : (X == 0) = false := by simp [hX]
    have t2 : (X != 0) = true := by simp [hX]
    have t3 : (X == 9) = false := by rcases hvals with h | h | h | h <;> rw [h] <;> rfl
    have t4 : (X != 9) = true := by rcases hvals with h | h | h | h <;> rw [h] <;> rfl
    have t5 : (X == 15) = false := by rcases hvals with h | h | h | h <;> rw [h] <;> rfl
    have t6 : (X != 15) = true := by rcases hvals with h | h | h | h <;> rw [h] <;> rfl
    clear hX hsz hbad hgood hlc hlb hvals
    rw [show loadVal (img0, 0, X) = .tuple #[.agg #[.int .u64 0, .string ⟨#[]⟩], .int .i64 0, .int .i64 X] from rfl]
    replace kz := kz.alloc (.cells #[.int .u64 0, .string ⟨#[]⟩] 36)
    replace hb := hb.alloc hb.size (.cells #[.int .u64 0, .string ⟨#[]⟩] 36)
    have r0 := kz.cell 0
    have r1 := kz.cell 1
    have r2 := kz.cell 2
    have r3 := kz.cell 3
    have z0 := kz.free 0
    have z1 := kz.free 1
    have z2 := kz.free 2
    have z3 := kz.free 3
    go_wp2_with fail
    refine bodyPost_ret (v := .tuple #[.agg #[.slice none 0 0, .slice none 0 0, .bool false, .int .i64 0], .int .i64 X]) (by simp [results, Try.results16, go_sem, r0, r1, r2, r3]) rfl ?_
    obtain ⟨e1, e2⟩ := HN.out
    rw [e1, e2]
    exact ⟨_, rfl, DkIs.zero _, below4 hb (by omega) (.slice none 0 0) (.slice none 0 0) (.bool false) (.int .i64 0)⟩
  obtain ⟨ha0, hb0, _⟩ := hsz hX
  obtain ⟨hr, a1, a2, a3, a4⟩ := wal_zero ha0
  obtain ⟨_, b1, b2, b3, b4⟩ := wal_zero hb0
  have hlen := right_len hr
  have hpd := (right_iff.1 hr).2.1
  have hRc := hlc hX
  obtain ⟨gD, gE⟩ := hgood hX
  have HG := hide (And.intro gD gE)
  clear hX hsz ha0 hb0 hbad hgood hlc gD gE hr hlb hvals
  obtain ⟨fa', rfl⟩ := Int.eq_ofNat_of_zero_le a1
  obtain ⟨fb', rfl⟩ := Int.eq_ofNat_of_zero_le b1
  obtain ⟨sa', rfl⟩ := Int.eq_ofNat_of_zero_le (show 0 ≤ sa by omega)
  obtain ⟨sb', rfl⟩ := Int.eq_ofNat_of_zero_le (show 0 ≤ sb by omega)
  have hsc := fun W (h : p.size ≤ 16384) => refSectors_yes 2 ep 0 p W (by decide) h he (by decide)
  have hsn := fun W (h : 16384 < p.size) => refSectors_no 2 ep 0 p W (by rw [img_check, if_pos (by rw [Array.length_toList]; exact h)]; decide)
  have hpl : p.data.toList.length = p.size := Array.length_toList
  have hnl : ∀ h : p.size ≤ 16384, 1 ≤ piecesN p.size + 1 ∧ piecesN p.size + 1 ≤ 270 := fun h => by unfold piecesN; omega
  obtain ⟨LL, HLL⟩ := named (imgSecs ⟨ep, p.data.toList⟩)
  have hLn : LL.length = piecesN p.size + 1 := by rw [HLL.out, imgSecs_len]; show piecesN p.data.toList.length + 1 = _; rw [hpl]
  simp only [show (sectorsL ⟨2, ep, 0, p.data.toList⟩).map str = LL from HLL.out.symm] at hsc
  have hst15 : 16384 < p.size → frCheck ⟨2, ep, 0, p.data.toList⟩ = 3 := fun h => by rw [img_check, if_pos (by rw [hpl]; exact h)]
  have hsn3 := fun W (h : 16384 < p.size) => hst15 h ▸ hsn W h
  obtain ⟨n, Hn⟩ := named (piecesN p.size + 1)
  simp only [← Hn.out] at hsc hnl hLn
  have HLn := hide hLn
  have HPL := hide hpl
  clear hsn hst15 Hn hLn hpl
  rcases hRc with rfl | rfl | ⟨x, rfl | rfl⟩
  · rw [show loadVal (img0, 0, 15) = .tuple #[.agg #[.int .u64 0, .string ⟨#[]⟩], .int .i64 0, .int .i64 15] from by rfl]
    have ko := Blk.new W3 [.int .u64 0, .string ⟨#[]⟩] 36
    have hbo := below_alloc W3 (.cells #[.int .u64 0, .string ⟨#[]⟩] 36)
    replace Bd := Bd.below hbo
    replace ka := ka.below hbo
    replace kb := kb.below hbo
    replace km := km.below hbo
    replace kz := kz.below hbo
    replace hb := bt hb hbo
    go_upto_region 2 with fail
    obtain ⟨W4, HW4⟩ := named (W3.alloc (.cells #[.int .u64 0, .string ⟨#[]⟩] 36))
    obtain ⟨O, HO⟩ := named W3.heap.size
    rw [← HO.out] at ko ⊢
    rw [← HW4.out] at ko Bd ka kb km kz hb ⊢
    clear HW4 HO hbo
    have HE : Hid (D = d ∧ E = 15) := by
      obtain ⟨e1, e2⟩ := HG.out
      rw [e1, e2]
      exact ⟨rfl, rfl⟩
    clear HG hsc hsn3 hnl
    have q0 := Bd.blk.cell
    go_wp2_with fail
    refine (refCopy_w A1 A2 c1 c2 d _ (h1.below hb) (h2.below hb) (by omega) (by omega) hf1 hf2).mono ?_
    rintro e w9 ⟨v9, rfl, ho9, hb9⟩
    obtain ⟨X1, m1, X2, m2, rfl, u1, u2, l1, l2, f1, f2⟩ := ownDk_is ho9
    replace kz := kz.below hb9
    replace hb := bt hb hb9
    clear q0
    have r0 := kz.cell 0
    have r1 := kz.cell 1
    have r2 := kz.cell 2
    have r3 := kz.cell 3
    have z0 := kz.free 0
    have z1 := kz.free 1
    have z2 := kz.free 2
    have z3 := kz.free 3
    go_wp2_with fail
    refine bodyPost_ret (v := .tuple #[.agg #[.slice X1 d.secs.length m1, .slice X2 d.pend.length m2, .bool d.off, .int .i64 d.fuse], .int .i64 15]) (by simp [results, Try.results16, go_sem, r0, r1, r2, r3]) rfl ?_
    obtain ⟨e1, e2⟩ := HE.out
    rw [e1, e2]
    exact ⟨_, rfl, hand_on u1 u2 l1 l2 f1 f2 kz hb (by omega)⟩
  · rw [show loadVal (img0, 0, 9) = .tuple #[.agg #[.int .u64 0, .string ⟨#[]⟩], .int .i64 0, .int .i64 9] from by rfl]
    have ko := Blk.new W3 [.int .u64 0, .string ⟨#[]⟩] 36
    have hbo := below_alloc W3 (.cells #[.int .u64 0, .string ⟨#[]⟩] 36)
    replace Bd := Bd.below hbo
    replace ka := ka.below hbo
    replace kb := kb.below hbo
    replace km := km.below hbo
    replace kz := kz.below hbo
    replace hb := bt hb hbo
    go_upto_region 2 with fail
    obtain ⟨W4, HW4⟩ := named (W3.alloc (.cells #[.int .u64 0, .string ⟨#[]⟩] 36))
    obtain ⟨O, HO⟩ := named W3.heap.size
    rw [← HO.out] at ko ⊢
    rw [← HW4.out] at ko Bd ka kb km kz hb ⊢
    clear HW4 HO hbo
    have xa := ka.cell
    have ks := Blk.new W4 [.int .i64 (fa' : Int), .int .i64 (sa' : Int)] 33
    have hOS := ko.lt
    have hz4 := kz.lt
    have hbo := below_alloc W4 (.cells #[.int .i64 (fa' : Int), .int .i64 (sa' : Int)] 33)
    replace ko := ko.below hbo
    replace Bd := Bd.below hbo
    replace ka := ka.below hbo
    replace kb := kb.below hbo
    replace km := km.below hbo
    replace kz := kz.below hbo
    replace hb := bt hb hbo
    go_upto_region 7 with fail
    obtain ⟨W5, HW5⟩ := named (W4.alloc (.cells #[.int .i64 (fa' : Int), .int .i64 (sa' : Int)] 33))
    obtain ⟨Q, HQ⟩ := named W4.heap.size
    have hQ9 : w.heap.size + 1 + 1 + 1 + 1 < Q := by rw [HQ.out]; exact hz4
    rw [← HQ.out] at ks hOS ⊢
    rw [← HW5.out] at ko ks Bd ka kb km kz hb ⊢
    clear HW5 HQ hbo xa
    go_upto_region 9 with fail
    have xm := km.cell
    clear hOS hz4 hQ9
    go_wp2_with fail
    clear xm
    by_cases hps : p.size ≤ 16384
    case neg =>
      refine (hsn3 _ (by omega)).mono ?_
      rintro e W6 ⟨rfl, hb6⟩
      replace ko := ko.below hb6
      replace ks := ks.below hb6
      replace Bd := Bd.below hb6
      replace ka := ka.below hb6
      replace kb := kb.below hb6
      replace km := km.below hb6
      replace kz := kz.below hb6
      replace hb := bt hb hb6
      clear hsc hsn3 hnl hb6
      go_upto_block 0 with fail
      go_cut [15] (fun x wx => ∃ z : Int, x = .int .i64 z ∧ Hid (D = d ∧ E = z) ∧ Box wx w.heap.size A1 c1 A2 c2 d ∧ Blk wx (w.heap.size + 1 + 1 + 1 + 1) [.slice none 0 0, .slice none 0 0, .bool false, .int .i64 0] 28 ∧ Below w.heap.size w wx)
      case first =>
        have HE : Hid (D = d ∧ E = 3) := by
          obtain ⟨e1, e2⟩ := HG.out
          rw [e1, e2]
          unfold saveOn
          rw [if_neg (by simp), if_pos (by show 16384 < p.data.toList.length; rw [HPL.out]; omega)]
          exact ⟨rfl, rfl⟩
        clear HG
        go_wp2
        go_meet
        case rel => exact ⟨3, rfl, HE, Bd, kz, hb⟩
      case rest =>
        obtain ⟨z, rfl, HE, Bd, kz, hb⟩ := hcut
        clear ka kb km ks ko
        have q0 := Bd.blk.cell
        go_wp2_with fail
        refine (refCopy_w A1 A2 c1 c2 d _ (h1.below hb) (h2.below hb) (by omega) (by omega) hf1 hf2).mono ?_
        rintro e w9 ⟨v9, rfl, ho9, hb9⟩
        obtain ⟨X1, m1, X2, m2, rfl, u1, u2, l1, l2, f1, f2⟩ := ownDk_is ho9
        replace kz := kz.below hb9
        replace hb := bt hb hb9
        clear q0
        have r0 := kz.cell 0
        have r1 := kz.cell 1
        have r2 := kz.cell 2
        have r3 := kz.cell 3
        have z0 := kz.free 0
        have z1 := kz.free 1
        have z2 := kz.free 2
        have z3 := kz.free 3
        go_wp2_with fail
        refine bodyPost_ret (v := .tuple #[.agg #[.slice X1 d.secs.length m1, .slice X2 d.pend.length m2, .bool d.off, .int .i64 d.fuse], .int .i64 z]) (by simp [results, Try.results16, go_sem, r0, r1, r2, r3]) rfl ?_
        obtain ⟨e1, e2⟩ := HE.out
        rw [e1, e2]
        exact ⟨_, rfl, hand_on u1 u2 l1 l2 f1 f2 kz hb (by omega)⟩
    refine (hsc _ hps).mono ?_
    rintro e W6 ⟨⟨A9, c9, rfl, hc9, ht9⟩, hb6⟩
    replace ko := ko.below hb6
    replace ks := ks.below hb6
    replace Bd := Bd.below hb6
    replace ka := ka.below hb6
    replace kb := kb.below hb6
    replace km := km.below hb6
    replace kz := kz.below hb6
    replace hb := bt hb hb6
    obtain ⟨hn1, hn2⟩ := hnl hps
    clear hsc hsn3 hnl hb6
    go_upto_block 0 with fail
    go_cut [15] (fun x wx => ∃ z : Int, x = .int .i64 z ∧ Hid (D = d ∧ E = z) ∧ Box wx w.heap.size A1 c1 A2 c2 d ∧ Blk wx (w.heap.size + 1 + 1 + 1 + 1) [.slice none 0 0, .slice none 0 0, .bool false, .int .i64 0] 28 ∧ Below w.heap.size w wx)
    case first =>
      have xm := km.cell
      have xs := ks.cell
      have xo := ko.cell
      by_cases hfull : sa' < n
      · have t6 : (sa' : Int) < (n : Int) := by omega
        have t7 : decide (sa' < n) = true := decide_eq_true hfull
        have HE : Hid (D = d ∧ E = 17) := by
          obtain ⟨e1, e2⟩ := HG.out
          rw [e1, e2]
          unfold saveOn
          rw [← HLL.out]
          rw [if_neg (by simp), if_neg (by show ¬ 16384 < p.data.toList.length; rw [HPL.out]; omega), if_neg (by simp), if_neg (by simp), if_pos (by rw [HLn.out]; omega)]
          exact ⟨rfl, rfl⟩
        clear HG
        go_wp2
        go_meet
        case rel => exact ⟨17, rfl, HE, Bd, kz, hb⟩
      have t6 : ¬ ((sa' : Int) < (n : Int)) := by omega
      have t7 : decide (sa' < n) = false := decide_eq_false hfull
      have HDE : Hid (D = layD d fa' LL ∧ E = layE d fa' LL) := by
        obtain ⟨e1, e2⟩ := HG.out
        rw [e1, e2]
        unfold saveOn
        rw [← HLL.out]
        rw [if_neg (by simp), if_neg (by show ¬ 16384 < p.data.toList.length; rw [HPL.out]; omega), if_neg (by simp), if_neg (by simp), if_neg (by rw [HLn.out]; omega)]
        exact ⟨rfl, rfl⟩
      have hly := refLay_w _ d fa' A9 n c9 LL W6 (hv0.below hb) ht9 HLn.out hn1 (by omega)
      rw [← HDE.out.1, ← HDE.out.2] at hly
      have xd := Bd.blk.cell
      go_wp2_with fail
      refine hly.mono ?_
      rintro e w9 ⟨v9, rfl, ⟨X1, m1, X2, m2, rfl, u1, u2, l1, l2, f1, f2⟩, hb9⟩
      replace kz := kz.below hb9
      replace hb := bt hb hb9
      clear hly xd hb9 Bd ka kb km ks ko
      have r0 := kz.cell 0
      have r1 := kz.cell 1
      have r2 := kz.cell 2
      have r3 := kz.cell 3
      have z0 := kz.free 0
      have z1 := kz.free 1
      have z2 := kz.free 2
      have z3 := kz.free 3
      go_wp2_with fail
      refine bodyPost_ret (v := .tuple #[.agg #[.slice X1 D.secs.length m1, .slice X2 D.pend.length m2, .bool D.off, .int .i64 D.fuse], .int .i64 E]) (by simp [results, Try.results16, go_sem, r0, r1, r2, r3]) rfl ?_
      exact ⟨_, rfl, hand_on u1 u2 l1 l2 f1 f2 kz hb (by omega)⟩
    case rest =>
      obtain ⟨z, rfl, HE, Bd, kz, hb⟩ := hcut
      clear ka kb km ks ko
      have q0 := Bd.blk.cell
      go_wp2_with fail
      refine (refCopy_w A1 A2 c1 c2 d _ (h1.below hb) (h2.below hb) (by omega) (by omega) hf1 hf2).mono ?_
      rintro e w9 ⟨v9, rfl, ho9, hb9⟩
      obtain ⟨X1, m1, X2, m2, rfl, u1, u2, l1, l2, f1, f2⟩ := ownDk_is ho9
      replace kz := kz.below hb9
      replace hb := bt hb hb9
      clear q0
      have r0 := kz.cell 0
      have r1 := kz.cell 1
      have r2 := kz.cell 2
      have r3 := kz.cell 3
      have z0 := kz.free 0
      have z1 := kz.free 1
      have z2 := kz.free 2
      have z3 := kz.free 3
      go_wp2_with fail
      refine bodyPost_ret (v := .tuple #[.agg #[.slice X1 d.secs.length m1, .slice X2 d.pend.length m2, .bool d.off, .int .i64 d.fuse], .int .i64 z]) (by simp [results, Try.results16, go_sem, r0, r1, r2, r3]) rfl ?_
      obtain ⟨e1, e2⟩ := HE.out
      rw [e1, e2]
      exact ⟨_, rfl, hand_on u1 u2 l1 l2 f1 f2 kz hb (by omega)⟩
  · obtain ⟨S, HS⟩ := named (str x.pay)
    rw [show loadVal (x, 0, 0) = .tuple #[.agg #[.int .u64 (x.ep : Int), .string S], .int .i64 0, .int .i64 0] from by rw [HS.out]; rfl]
    have ko := Blk.new W3 [.int .u64 (x.ep : Int), .string S] 36
    have hbo := below_alloc W3 (.cells #[.int .u64 (x.ep : Int), .string S] 36)
    replace Bd := Bd.below hbo
    replace ka := ka.below hbo
    replace kb := kb.below hbo
    replace km := km.below hbo
    replace kz := kz.below hbo
    replace hb := bt hb hbo
    go_upto_region 2 with fail
    obtain ⟨W4, HW4⟩ := named (W3.alloc (.cells #[.int .u64 (x.ep : Int), .string S] 36))
    obtain ⟨O, HO⟩ := named W3.heap.size
    rw [← HO.out] at ko ⊢
    rw [← HW4.out] at ko Bd ka kb km kz hb ⊢
    clear HW4 HO hbo
    have xa := ka.cell
    have ks := Blk.new W4 [.int .i64 (fa' : Int), .int .i64 (sa' : Int)] 33
    have hOS := ko.lt
    have hz4 := kz.lt
    have hbo := below_alloc W4 (.cells #[.int .i64 (fa' : Int), .int .i64 (sa' : Int)] 33)
    replace ko := ko.below hbo
    replace Bd := Bd.below hbo
    replace ka := ka.below hbo
    replace kb := kb.below hbo
    replace km := km.below hbo
    replace kz := kz.below hbo
    replace hb := bt hb hbo
    go_upto_region 7 with fail
    obtain ⟨W5, HW5⟩ := named (W4.alloc (.cells #[.int .i64 (fa' : Int), .int .i64 (sa' : Int)] 33))
    obtain ⟨Q, HQ⟩ := named W4.heap.size
    have hQ9 : w.heap.size + 1 + 1 + 1 + 1 < Q := by rw [HQ.out]; exact hz4
    rw [← HQ.out] at ks hOS ⊢
    rw [← HW5.out] at ko ks Bd ka kb km kz hb ⊢
    clear HW5 HQ hbo xa
    have xa := kb.cell
    have xs := ks.cell
    have fs := ks.free
    go_upto_region 9 with fail
    replace ks := (ks.set 0 (.int .i64 (fb' : Int))).set 1 (.int .i64 (sb' : Int))
    replace ko := (ko.far (p := ⟨Q, 0, none⟩) (by show O ≠ Q; omega) (.int .i64 (fb' : Int))).far (p := ⟨Q, 1, none⟩) (by show O ≠ Q; omega) (.int .i64 (sb' : Int))
    replace ka := (ka.far (p := ⟨Q, 0, none⟩) (by show w.heap.size + 1 ≠ Q; omega) (.int .i64 (fb' : Int))).far (p := ⟨Q, 1, none⟩) (by show w.heap.size + 1 ≠ Q; omega) (.int .i64 (sb' : Int))
    replace kb := (kb.far (p := ⟨Q, 0, none⟩) (by show w.heap.size + 1 + 1 ≠ Q; omega) (.int .i64 (fb' : Int))).far (p := ⟨Q, 1, none⟩) (by show w.heap.size + 1 + 1 ≠ Q; omega) (.int .i64 (sb' : Int))
    replace km := (km.far (p := ⟨Q, 0, none⟩) (by show w.heap.size + 1 + 1 + 1 ≠ Q; omega) (.int .i64 (fb' : Int))).far (p := ⟨Q, 1, none⟩) (by show w.heap.size + 1 + 1 + 1 ≠ Q; omega) (.int .i64 (sb' : Int))
    replace kz := (kz.far (p := ⟨Q, 0, none⟩) (by show w.heap.size + 1 + 1 + 1 + 1 ≠ Q; omega) (.int .i64 (fb' : Int))).far (p := ⟨Q, 1, none⟩) (by show w.heap.size + 1 + 1 + 1 + 1 ≠ Q; omega) (.int .i64 (sb' : Int))
    replace hb := (hb.setCell (p := ⟨Q, 0, none⟩) (by show w.heap.size ≤ Q; omega) (.int .i64 (fb' : Int))).setCell (p := ⟨Q, 1, none⟩) (by show w.heap.size ≤ Q; omega) (.int .i64 (sb' : Int))
    have kd := (Bd.blk.far (p := ⟨Q, 0, none⟩) (by show w.heap.size ≠ Q; omega) (.int .i64 (fb' : Int))).far (p := ⟨Q, 1, none⟩) (by show w.heap.size ≠ Q; omega) (.int .i64 (sb' : Int))
    obtain ⟨W7, HW7⟩ := named ((W5.setCell ⟨Q, 0, none⟩ (.int .i64 (fb' : Int))).setCell ⟨Q, 1, none⟩ (.int .i64 (sb' : Int)))
    rw [← HW7.out] at ks ko ka kb km kz hb kd ⊢
    replace Bd : Box W7 w.heap.size A1 c1 A2 c2 d := ⟨kd, h1.below hb, h2.below hb, hl1, hl2, hf1, hf2⟩
    clear HW7 kd xa xs fs
    have xm := km.cell
    clear hOS hz4 hQ9
    go_wp2_with fail
    clear xm
    by_cases hps : p.size ≤ 16384
    case neg =>
      refine (hsn3 _ (by omega)).mono ?_
      rintro e W6 ⟨rfl, hb6⟩
      replace ko := ko.below hb6
      replace ks := ks.below hb6
      replace Bd := Bd.below hb6
      replace ka := ka.below hb6
      replace kb := kb.below hb6
      replace km := km.below hb6
      replace kz := kz.below hb6
      replace hb := bt hb hb6
      clear hsc hsn3 hnl hb6
      go_upto_block 0 with fail
      go_cut [15] (fun x wx => ∃ z : Int, x = .int .i64 z ∧ Hid (D = d ∧ E = z) ∧ Box wx w.heap.size A1 c1 A2 c2 d ∧ Blk wx (w.heap.size + 1 + 1 + 1 + 1) [.slice none 0 0, .slice none 0 0, .bool false, .int .i64 0] 28 ∧ Below w.heap.size w wx)
      case first =>
        have HE : Hid (D = d ∧ E = 3) := by
          obtain ⟨e1, e2⟩ := HG.out
          rw [e1, e2]
          unfold saveOn
          rw [if_neg (by simp), if_pos (by show 16384 < p.data.toList.length; rw [HPL.out]; omega)]
          exact ⟨rfl, rfl⟩
        clear HG
        go_wp2
        go_meet
        case rel => exact ⟨3, rfl, HE, Bd, kz, hb⟩
      case rest =>
        obtain ⟨z, rfl, HE, Bd, kz, hb⟩ := hcut
        clear ka kb km ks ko
        have q0 := Bd.blk.cell
        go_wp2_with fail
        refine (refCopy_w A1 A2 c1 c2 d _ (h1.below hb) (h2.below hb) (by omega) (by omega) hf1 hf2).mono ?_
        rintro e w9 ⟨v9, rfl, ho9, hb9⟩
        obtain ⟨X1, m1, X2, m2, rfl, u1, u2, l1, l2, f1, f2⟩ := ownDk_is ho9
        replace kz := kz.below hb9
        replace hb := bt hb hb9
        clear q0
        have r0 := kz.cell 0
        have r1 := kz.cell 1
        have r2 := kz.cell 2
        have r3 := kz.cell 3
        have z0 := kz.free 0
        have z1 := kz.free 1
        have z2 := kz.free 2
        have z3 := kz.free 3
        go_wp2_with fail
        refine bodyPost_ret (v := .tuple #[.agg #[.slice X1 d.secs.length m1, .slice X2 d.pend.length m2, .bool d.off, .int .i64 d.fuse], .int .i64 z]) (by simp [results, Try.results16, go_sem, r0, r1, r2, r3]) rfl ?_
        obtain ⟨e1, e2⟩ := HE.out
        rw [e1, e2]
        exact ⟨_, rfl, hand_on u1 u2 l1 l2 f1 f2 kz hb (by omega)⟩
    refine (hsc _ hps).mono ?_
    rintro e W6 ⟨⟨A9, c9, rfl, hc9, ht9⟩, hb6⟩
    replace ko := ko.below hb6
    replace ks := ks.below hb6
    replace Bd := Bd.below hb6
    replace ka := ka.below hb6
    replace kb := kb.below hb6
    replace km := km.below hb6
    replace kz := kz.below hb6
    replace hb := bt hb hb6
    obtain ⟨hn1, hn2⟩ := hnl hps
    clear hsc hsn3 hnl hb6
    go_upto_block 0 with fail
    go_cut [15] (fun x wx => ∃ z : Int, x = .int .i64 z ∧ Hid (D = d ∧ E = z) ∧ Box wx w.heap.size A1 c1 A2 c2 d ∧ Blk wx (w.heap.size + 1 + 1 + 1 + 1) [.slice none 0 0, .slice none 0 0, .bool false, .int .i64 0] 28 ∧ Below w.heap.size w wx)
    case first =>
      have xm := km.cell
      have xs := ks.cell
      have xo := ko.cell
      by_cases hold : ep ≤ x.ep
      · have t8 : (ep : Int) ≤ (x.ep : Int) := by omega
        have t9 : decide (ep ≤ x.ep) = true := decide_eq_true hold
        have HE : Hid (D = d ∧ E = 1) := by
          obtain ⟨e1, e2⟩ := HG.out
          rw [e1, e2]
          unfold saveOn
          rw [if_neg (by simp), if_neg (by show ¬ 16384 < p.data.toList.length; rw [HPL.out]; omega), if_pos (by exact And.intro rfl hold)]
          exact ⟨rfl, rfl⟩
        clear HG
        go_wp2
        go_meet
        case rel => exact ⟨1, rfl, HE, Bd, kz, hb⟩
      have t8 : (x.ep : Int) < (ep : Int) := by omega
      have t9 : decide (ep ≤ x.ep) = false := decide_eq_false hold
      by_cases hfull : sb' < n
      · have t6 : (sb' : Int) < (n : Int) := by omega
        have t7 : decide (sb' < n) = true := decide_eq_true hfull
        have HE : Hid (D = d ∧ E = 17) := by
          obtain ⟨e1, e2⟩ := HG.out
          rw [e1, e2]
          unfold saveOn
          rw [← HLL.out]
          rw [if_neg (by simp), if_neg (by show ¬ 16384 < p.data.toList.length; rw [HPL.out]; omega), if_neg (fun h => hold h.2), if_pos (by simp), if_pos (by rw [HLn.out]; omega)]
          exact ⟨rfl, rfl⟩
        clear HG
        go_wp2
        go_meet
        case rel => exact ⟨17, rfl, HE, Bd, kz, hb⟩
      have t6 : ¬ ((sb' : Int) < (n : Int)) := by omega
      have t7 : decide (sb' < n) = false := decide_eq_false hfull
      have HDE : Hid (D = layD d fb' LL ∧ E = layE d fb' LL) := by
        obtain ⟨e1, e2⟩ := HG.out
        rw [e1, e2]
        unfold saveOn
        rw [← HLL.out]
        rw [if_neg (by simp), if_neg (by show ¬ 16384 < p.data.toList.length; rw [HPL.out]; omega), if_neg (fun h => hold h.2), if_pos (by simp), if_neg (by rw [HLn.out]; omega)]
        exact ⟨rfl, rfl⟩
      have hly := refLay_w _ d fb' A9 n c9 LL W6 (hv0.below hb) ht9 HLn.out hn1 (by omega)
      rw [← HDE.out.1, ← HDE.out.2] at hly
      have xd := Bd.blk.cell
      go_wp2_with fail
      refine hly.mono ?_
      rintro e w9 ⟨v9, rfl, ⟨X1, m1, X2, m2, rfl, u1, u2, l1, l2, f1, f2⟩, hb9⟩
      replace kz := kz.below hb9
      replace hb := bt hb hb9
      clear hly xd hb9 Bd ka kb km ks ko
      have r0 := kz.cell 0
      have r1 := kz.cell 1
      have r2 := kz.cell 2
      have r3 := kz.cell 3
      have z0 := kz.free 0
      have z1 := kz.free 1
      have z2 := kz.free 2
      have z3 := kz.free 3
      go_wp2_with fail
      refine bodyPost_ret (v := .tuple #[.agg #[.slice X1 D.secs.length m1, .slice X2 D.pend.length m2, .bool D.off, .int .i64 D.fuse], .int .i64 E]) (by simp [results, Try.results16, go_sem, r0, r1, r2, r3]) rfl ?_
      exact ⟨_, rfl, hand_on u1 u2 l1 l2 f1 f2 kz hb (by omega)⟩
    case rest =>
      obtain ⟨z, rfl, HE, Bd, kz, hb⟩ := hcut
      clear ka kb km ks ko
      have q0 := Bd.blk.cell
      go_wp2_with fail
      refine (refCopy_w A1 A2 c1 c2 d _ (h1.below hb) (h2.below hb) (by omega) (by omega) hf1 hf2).mono ?_
      rintro e w9 ⟨v9, rfl, ho9, hb9⟩
      obtain ⟨X1, m1, X2, m2, rfl, u1, u2, l1, l2, f1, f2⟩ := ownDk_is ho9
      replace kz := kz.below hb9
      replace hb := bt hb hb9
      clear q0
      have r0 := kz.cell 0
      have r1 := kz.cell 1
      have r2 := kz.cell 2
      have r3 := kz.cell 3
      have z0 := kz.free 0
      have z1 := kz.free 1
      have z2 := kz.free 2
      have z3 := kz.free 3
      go_wp2_with fail
      refine bodyPost_ret (v := .tuple #[.agg #[.slice X1 d.secs.length m1, .slice X2 d.pend.length m2, .bool d.off, .int .i64 d.fuse], .int .i64 z]) (by simp [results, Try.results16, go_sem, r0, r1, r2, r3]) rfl ?_
      obtain ⟨e1, e2⟩ := HE.out
      rw [e1, e2]
      exact ⟨_, rfl, hand_on u1 u2 l1 l2 f1 f2 kz hb (by omega)⟩
  · obtain ⟨S, HS⟩ := named (str x.pay)
    rw [show loadVal (x, 1, 0) = .tuple #[.agg #[.int .u64 (x.ep : Int), .string S], .int .i64 1, .int .i64 0] from by rw [HS.out]; rfl]
    have ko := Blk.new W3 [.int .u64 (x.ep : Int), .string S] 36
    have hbo := below_alloc W3 (.cells #[.int .u64 (x.ep : Int), .string S] 36)
    replace Bd := Bd.below hbo
    replace ka := ka.below hbo
    replace kb := kb.below hbo
    replace km := km.below hbo
    replace kz := kz.below hbo
    replace hb := bt hb hbo
    go_upto_region 2 with fail
    obtain ⟨W4, HW4⟩ := named (W3.alloc (.cells #[.int .u64 (x.ep : Int), .string S] 36))
    obtain ⟨O, HO⟩ := named W3.heap.size
    rw [← HO.out] at ko ⊢
    rw [← HW4.out] at ko Bd ka kb km kz hb ⊢
    clear HW4 HO hbo
    have xa := ka.cell
    have ks := Blk.new W4 [.int .i64 (fa' : Int), .int .i64 (sa' : Int)] 33
    have hOS := ko.lt
    have hz4 := kz.lt
    have hbo := below_alloc W4 (.cells #[.int .i64 (fa' : Int), .int .i64 (sa' : Int)] 33)
    replace ko := ko.below hbo
    replace Bd := Bd.below hbo
    replace ka := ka.below hbo
    replace kb := kb.below hbo
    replace km := km.below hbo
    replace kz := kz.below hbo
    replace hb := bt hb hbo
    go_upto_region 7 with fail
    obtain ⟨W5, HW5⟩ := named (W4.alloc (.cells #[.int .i64 (fa' : Int), .int .i64 (sa' : Int)] 33))
    obtain ⟨Q, HQ⟩ := named W4.heap.size
    have hQ9 : w.heap.size + 1 + 1 + 1 + 1 < Q := by rw [HQ.out]; exact hz4
    rw [← HQ.out] at ks hOS ⊢
    rw [← HW5.out] at ko ks Bd ka kb km kz hb ⊢
    clear HW5 HQ hbo xa
    go_upto_region 9 with fail
    have xm := km.cell
    clear hOS hz4 hQ9
    go_wp2_with fail
    clear xm
    by_cases hps : p.size ≤ 16384
    case neg =>
      refine (hsn3 _ (by omega)).mono ?_
      rintro e W6 ⟨rfl, hb6⟩
      replace ko := ko.below hb6
      replace ks := ks.below hb6
      replace Bd := Bd.below hb6
      replace ka := ka.below hb6
      replace kb := kb.below hb6
      replace km := km.below hb6
      replace kz := kz.below hb6
      replace hb := bt hb hb6
      clear hsc hsn3 hnl hb6
      go_upto_block 0 with fail
      go_cut [15] (fun x wx => ∃ z : Int, x = .int .i64 z ∧ Hid (D = d ∧ E = z) ∧ Box wx w.heap.size A1 c1 A2 c2 d ∧ Blk wx (w.heap.size + 1 + 1 + 1 + 1) [.slice none 0 0, .slice none 0 0, .bool false, .int .i64 0] 28 ∧ Below w.heap.size w wx)
      case first =>
        have HE : Hid (D = d ∧ E = 3) := by
          obtain ⟨e1, e2⟩ := HG.out
          rw [e1, e2]
          unfold saveOn
          rw [if_neg (by simp), if_pos (by show 16384 < p.data.toList.length; rw [HPL.out]; omega)]
          exact ⟨rfl, rfl⟩
        clear HG
        go_wp2
        go_meet
        case rel => exact ⟨3, rfl, HE, Bd, kz, hb⟩
      case rest =>
        obtain ⟨z, rfl, HE, Bd, kz, hb⟩ := hcut
        clear ka kb km ks ko
        have q0 := Bd.blk.cell
        go_wp2_with fail
        refine (refCopy_w A1 A2 c1 c2 d _ (h1.below hb) (h2.below hb) (by omega) (by omega) hf1 hf2).mono ?_
        rintro e w9 ⟨v9, rfl, ho9, hb9⟩
        obtain ⟨X1, m1, X2, m2, rfl, u1, u2, l1, l2, f1, f2⟩ := ownDk_is ho9
        replace kz := kz.below hb9
        replace hb := bt hb hb9
        clear q0
        have r0 := kz.cell 0
        have r1 := kz.cell 1
        have r2 := kz.cell 2
        have r3 := kz.cell 3
        have z0 := kz.free 0
        have z1 := kz.free 1
        have z2 := kz.free 2
        have z3 := kz.free 3
        go_wp2_with fail
        refine bodyPost_ret (v := .tuple #[.agg #[.slice X1 d.secs.length m1, .slice X2 d.pend.length m2, .bool d.off, .int .i64 d.fuse], .int .i64 z]) (by simp [results, Try.results16, go_sem, r0, r1, r2, r3]) rfl ?_
        obtain ⟨e1, e2⟩ := HE.out
        rw [e1, e2]
        exact ⟨_, rfl, hand_on u1 u2 l1 l2 f1 f2 kz hb (by omega)⟩
    refine (hsc _ hps).mono ?_
    rintro e W6 ⟨⟨A9, c9, rfl, hc9, ht9⟩, hb6⟩
    replace ko := ko.below hb6
    replace ks := ks.below hb6
    replace Bd := Bd.below hb6
    replace ka := ka.below hb6
    replace kb := kb.below hb6
    replace km := km.below hb6
    replace kz := kz.below hb6
    replace hb := bt hb hb6
    obtain ⟨hn1, hn2⟩ := hnl hps
    clear hsc hsn3 hnl hb6
    go_upto_block 0 with fail
    go_cut [15] (fun x wx => ∃ z : Int, x = .int .i64 z ∧ Hid (D = d ∧ E = z) ∧ Box wx w.heap.size A1 c1 A2 c2 d ∧ Blk wx (w.heap.size + 1 + 1 + 1 + 1) [.slice none 0 0, .slice none 0 0, .bool false, .int .i64 0] 28 ∧ Below w.heap.size w wx)
    case first =>
      have xm := km.cell
      have xs := ks.cell
      have xo := ko.cell
      by_cases hold : ep ≤ x.ep
      · have t8 : (ep : Int) ≤ (x.ep : Int) := by omega
        have t9 : decide (ep ≤ x.ep) = true := decide_eq_true hold
        have HE : Hid (D = d ∧ E = 1) := by
          obtain ⟨e1, e2⟩ := HG.out
          rw [e1, e2]
          unfold saveOn
          rw [if_neg (by simp), if_neg (by show ¬ 16384 < p.data.toList.length; rw [HPL.out]; omega), if_pos (by exact And.intro rfl hold)]
          exact ⟨rfl, rfl⟩
        clear HG
        go_wp2
        go_meet
        case rel => exact ⟨1, rfl, HE, Bd, kz, hb⟩
      have t8 : (x.ep : Int) < (ep : Int) := by omega
      have t9 : decide (ep ≤ x.ep) = false := decide_eq_false hold
      by_cases hfull : sa' < n
      · have t6 : (sa' : Int) < (n : Int) := by omega
        have t7 : decide (sa' < n) = true := decide_eq_true hfull
        have HE : Hid (D = d ∧ E = 17) := by
          obtain ⟨e1, e2⟩ := HG.out
          rw [e1, e2]
          unfold saveOn
          rw [← HLL.out]
          rw [if_neg (by simp), if_neg (by show ¬ 16384 < p.data.toList.length; rw [HPL.out]; omega), if_neg (fun h => hold h.2), if_neg (by simp), if_pos (by rw [HLn.out]; omega)]
          exact ⟨rfl, rfl⟩
        clear HG
        go_wp2
        go_meet
        case rel => exact ⟨17, rfl, HE, Bd, kz, hb⟩
      have t6 : ¬ ((sa' : Int) < (n : Int)) := by omega
      have t7 : decide (sa' < n) = false := decide_eq_false hfull
      have HDE : Hid (D = layD d fa' LL ∧ E = layE d fa' LL) := by
        obtain ⟨e1, e2⟩ := HG.out
        rw [e1, e2]
        unfold saveOn
        rw [← HLL.out]
        rw [if_neg (by simp), if_neg (by show ¬ 16384 < p.data.toList.length; rw [HPL.out]; omega), if_neg (fun h => hold h.2), if_neg (by simp), if_neg (by rw [HLn.out]; omega)]
        exact ⟨rfl, rfl⟩
      have hly := refLay_w _ d fa' A9 n c9 LL W6 (hv0.below hb) ht9 HLn.out hn1 (by omega)
      rw [← HDE.out.1, ← HDE.out.2] at hly
      have xd := Bd.blk.cell
      go_wp2_with fail
      refine hly.mono ?_
      rintro e w9 ⟨v9, rfl, ⟨X1, m1, X2, m2, rfl, u1, u2, l1, l2, f1, f2⟩, hb9⟩
      replace kz := kz.below hb9
      replace hb := bt hb hb9
      clear hly xd hb9 Bd ka kb km ks ko
      have r0 := kz.cell 0
      have r1 := kz.cell 1
      have r2 := kz.cell 2
      have r3 := kz.cell 3
      have z0 := kz.free 0
      have z1 := kz.free 1
      have z2 := kz.free 2
      have z3 := kz.free 3
      go_wp2_with fail
      refine bodyPost_ret (v := .tuple #[.agg #[.slice X1 D.secs.length m1, .slice X2 D.pend.length m2, .bool D.off, .int .i64 D.fuse], .int .i64 E]) (by simp [results, Try.results16, go_sem, r0, r1, r2, r3]) rfl ?_
      exact ⟨_, rfl, hand_on u1 u2 l1 l2 f1 f2 kz hb (by omega)⟩
    case rest =>
      obtain ⟨z, rfl, HE, Bd, kz, hb⟩ := hcut
      clear ka kb km ks ko
      have q0 := Bd.blk.cell
      go_wp2_with fail
      refine (refCopy_w A1 A2 c1 c2 d _ (h1.below hb) (h2.below hb) (by omega) (by omega) hf1 hf2).mono ?_
      rintro e w9 ⟨v9, rfl, ho9, hb9⟩
      obtain ⟨X1, m1, X2, m2, rfl, u1, u2, l1, l2, f1, f2⟩ := ownDk_is ho9
      replace kz := kz.below hb9
      replace hb := bt hb hb9
      clear q0
      have r0 := kz.cell 0
      have r1 := kz.cell 1
      have r2 := kz.cell 2
      have r3 := kz.cell 3
      have z0 := kz.free 0
      have z1 := kz.free 1
      have z2 := kz.free 2
      have z3 := kz.free 3
      go_wp2_with fail
      refine bodyPost_ret (v := .tuple #[.agg #[.slice X1 d.secs.length m1, .slice X2 d.pend.length m2, .bool d.off, .int .i64 d.fuse], .int .i64 z]) (by simp [results, Try.results16, go_sem, r0, r1, r2, r3]) rfl ?_
      obtain ⟨e1, e2⟩ := HE.out
      rw [e1, e2]
      exact ⟨_, rfl, hand_on u1 u2 l1 l2 f1 f2 kz hb (by omega)⟩
end Go.Proofs.Ytpfbmmeipojodaa
end
