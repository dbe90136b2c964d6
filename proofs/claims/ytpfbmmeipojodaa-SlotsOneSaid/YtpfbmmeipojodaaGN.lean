/- Several small texts of this proof, one behind the other. -/
import Derived.Test.YtpfbmmeipojodaaGM
import Derived.Test.YtpfbmmeipojodaaGI
import Derived.Test.YtpfbmmeipojodaaRecSectors
import Derived.Test.YtpfbmmeipojodaaRecChunk
import Derived.Test.YtpfbmmeipojodaaRecJoin
import Derived.Test.YtpfbmmeipojodaaGK
section
/- slots.image: the image that lies in a slot, or none. -/
namespace Go.Proofs.Ytpfbmmeipojodaa
set_option linter.unusedSimpArgs false
set_option linter.unusedVariables false
open Go.RowKit Go.Shelf
open Crc
theorem head_of_frame {d : Dk} {f s n : Nat} {x : Fr} (h : FrameAt d f s 0 x n) : (holdsOf d (f : Int)).data.toList.getD 1 0 = x.kind ∧ atL (holdsOf d (f : Int)).data.toList 10 8 = x.seq := by
  have hh := h.head
  rw [Nat.add_zero] at hh
  rw [hh, str_data]
  refine ⟨rfl, ?_⟩
  rw [frHead, head_at10, Nat.mod_eq_of_lt (Nat.lt_of_lt_of_eq h.ok.seq (by decide))]
def optVal (o : Option Img) : Value := .tuple #[(o.getD img0).val, .bool o.isSome]
set_option maxHeartbeats 1000000 in
set_option maxRecDepth 100000 in
theorem image_w (v : Value) (d : Dk) (f s : Nat) (w : World) (hv : DkIs w v d) (hr : right d = true) (ho : d.off = false) (hs1 : 1 ≤ s) (hfs : f + s ≤ d.secs.length) :
    Calls Try.prog 32 #[v, .agg #[.int .i64 (f : Int), .int .i64 (s : Int)]] w fun e w' => e = .returned (optVal (imgOf d f s)) ∧ Below w.heap.size w w' := by
  have hlen := right_len hr
  have hv0 := hv
  obtain ⟨A1, c1, A2, c2, rfl, h1, h2, hl1, hl2, _⟩ := hv
  have z1 : (w.alloc (.cells #[.slice A1 d.secs.length c1, .slice A2 d.pend.length c2, .bool d.off, .int .i64 d.fuse] 28)).heap.size = w.heap.size + 1 := by simp
  have kr := (Blk.new (w.alloc (.cells #[.slice A1 d.secs.length c1, .slice A2 d.pend.length c2, .bool d.off, .int .i64 d.fuse] 28)) [.int .i64 (f : Int), .int .i64 (s : Int)] 33).alloc (.cells #[.int .u64 0, .string ⟨#[]⟩] 36)
  have ki := Blk.new ((w.alloc (.cells #[.slice A1 d.secs.length c1, .slice A2 d.pend.length c2, .bool d.off, .int .i64 d.fuse] 28)).alloc (.cells #[.int .i64 (f : Int), .int .i64 (s : Int)] 33)) [.int .u64 0, .string ⟨#[]⟩] 36
  have Bd := (((Box.new w hv0).alloc (.cells #[.int .i64 (f : Int), .int .i64 (s : Int)] 33)).alloc (.cells #[.int .u64 0, .string ⟨#[]⟩] 36))
  have hb := bt (bt (below_alloc w (.cells #[.slice A1 d.secs.length c1, .slice A2 d.pend.length c2, .bool d.off, .int .i64 d.fuse] 28)) (below_alloc _ (.cells #[.int .i64 (f : Int), .int .i64 (s : Int)] 33))) (below_alloc _ (.cells #[.int .u64 0, .string ⟨#[]⟩] 36))
  rw [z1] at kr
  rw [show ((w.alloc (.cells #[.slice A1 d.secs.length c1, .slice A2 d.pend.length c2, .bool d.off, .int .i64 d.fuse] 28)).alloc (.cells #[.int .i64 (f : Int), .int .i64 (s : Int)] 33)).heap.size = w.heap.size + 1 + 1 by simp] at ki
  obtain ⟨W, HW⟩ := named (((w.alloc (.cells #[.slice A1 d.secs.length c1, .slice A2 d.pend.length c2, .bool d.off, .int .i64 d.fuse] 28)).alloc (.cells #[.int .i64 (f : Int), .int .i64 (s : Int)] 33)).alloc (.cells #[.int .u64 0, .string ⟨#[]⟩] 36))
  rw [← HW.out] at kr ki Bd hb
  have Ho := hide ho
  obtain ⟨M, HM⟩ := named (imgOf d f s)
  rw [← HM.out]
  have hNO := no_head (d := d) (f := f) (s := s) (a := 0)
  have hRM := no_room (d := d) (f := f) (s := s) (a := 0)
  have hJN := no_join (d := d) (f := f) (s := s) (a := 0)
  have hfin : (∀ fr n, ¬ FrameAt d f s 0 fr n) → M = none := fun hno => by rw [HM.out]; exact imgOf_none fun x n hx _ => hno x n hx
  have hoth : ∀ x n, FrameAt d f s 0 x n → ¬ (x.kind = 2 ∧ x.seq = 0) → M = none := fun x n hx hk => by rw [HM.out]; exact imgOf_other hx hk
  have hyes : ∀ x n, FrameAt d f s 0 x n → x.kind = 2 → x.seq = 0 → M = some ⟨x.epoch, x.pay⟩ := fun x n hx h2 h0 => by rw [HM.out]; exact imgOf_some hx h2 h0
  have hH1 : (holdsOf d (f : Int)).data.toList.getD 1 0 ≠ 2 → M = none := fun hne => by
    rw [HM.out]; exact imgOf_none fun x n hx hk => hne (by rw [(head_of_frame hx).1]; exact hk.1)
  have hH2 : atL (holdsOf d (f : Int)).data.toList 10 8 ≠ 0 → M = none := fun hne => by
    rw [HM.out]; exact imgOf_none fun x n hx hk => hne (by rw [(head_of_frame hx).2]; exact hk.2)
  have hH3 : ∀ x n, FrameAt d f s 0 x n → (holdsOf d (f : Int)).data.toList.getD 1 0 = x.kind ∧ atL (holdsOf d (f : Int)).data.toList 10 8 = x.seq := fun x n hx => head_of_frame hx
  have Hfin := hide hfin
  have Hoth := hide hoth
  have Hyes := hide hyes
  have hRd : ∀ (u : World) (g : Nat), Below w.heap.size w u → g < d.secs.length → Calls Try.prog 22 #[.agg #[.slice A1 d.secs.length c1, .slice A2 d.pend.length c2, .bool d.off, .int .i64 d.fuse], .int .i64 (g : Int)] u fun e w' => e = .returned (.tuple #[.string (holdsOf d (g : Int)), .int .i64 0]) ∧ Below u.heap.size u w' := fun u g hu hi =>
    read_ok A1 A2 c1 c2 d (g : Int) u (h1.below hu) (h2.below hu) hl1 hl2 hr Ho.out (by simp [there]; omega)
  simp only [Nat.add_zero] at hNO hRM hJN
  have h0 := hRd W f hb (by omega)
  obtain ⟨S0, HS0⟩ := named (holdsOf d (f : Int))
  rw [← HS0.out] at h0 hNO hRM hJN hH1 hH2 hH3
  clear hfin hoth hyes ho
  go_enter Try.func32, Try.ntmps32
  have xd := Bd.blk.cell
  have xr := kr.cell
  rw [HW.out] at xd xr
  go_wp2_with fail
  rw [← HW.out]
  clear xd xr HW
  refine h0.mono ?_
  rintro e w2 ⟨rfl, hb2⟩
  clear h0
  replace Bd := Bd.below hb2
  replace kr := kr.below hb2
  replace ki := ki.below hb2
  replace hb := bt hb hb2
  clear hb2
  go_wp2_with fail
  by_cases hH : HeadOk S0.data.toList
  case neg =>
    have hnh := recHead_no S0 w2 hH
    have HN := hide (Hfin.out (hNO hH))
    unfold zeroHead at hnh
    clear hNO hRM hJN hRd hH1 hH2 hH3
    refine hnh.mono ?_
    rintro e w3 ⟨rfl, hb3⟩
    clear hnh
    have kh := Blk.new w3 [.int .u8 0, .int .u64 0, .int .u64 0, .int .i64 0, .int .u32 0] 87
    have mb := bt hb3 (below_alloc w3 (.cells #[.int .u8 0, .int .u64 0, .int .u64 0, .int .i64 0, .int .u32 0] 87))
    replace ki := ki.below mb
    replace hb := bt hb mb
    clear mb hb3
    have xh := kh.cell
    go_wp2_with fail
    refine (pieces_yes 0 _ (by omega)).mono ?_
    rintro e w4 ⟨rfl, rfl⟩
    have r0 := ki.cell 0
    have r1 := ki.cell 1
    have z0 := ki.free 0
    have z1 := ki.free 1
    clear xh kr Bd
    have xh := kh.cell
    have hbe := (hb.setCell (p := ⟨w.heap.size + 1 + 1, 0, none⟩) (by show w.heap.size ≤ w.heap.size + 1 + 1; omega) (.int .u64 0)).setCell (p := ⟨w.heap.size + 1 + 1, 1, none⟩) (by show w.heap.size ≤ w.heap.size + 1 + 1; omega) (.string ⟨#[]⟩)
    go_wp2_with fail
    refine bodyPost_ret (v := .tuple #[.agg #[.int .u64 0, .string ⟨#[]⟩], .bool false]) (by simp [results, Try.results32, go_sem, r0, r1]) rfl ?_
    rw [HN.out]
    exact ⟨rfl, hbe⟩
  clear hNO
  have hyes := recHead_yes S0 w2 hH
  have hlen0 : atL S0.data.toList 18 4 ≤ 16384 := hH.len
  unfold headVal at hyes
  obtain ⟨q1, Hq1⟩ := named (S0.data.toList.getD 1 0)
  obtain ⟨q2, Hq2⟩ := named (atL S0.data.toList 2 8)
  obtain ⟨q3, Hq3⟩ := named (atL S0.data.toList 10 8)
  obtain ⟨q4, Hq4⟩ := named (atL S0.data.toList 18 4)
  obtain ⟨q5, Hq5⟩ := named (atL S0.data.toList 22 4)
  rw [← Hq1.out, ← Hq2.out, ← Hq3.out, ← Hq4.out, ← Hq5.out] at hyes
  rw [← Hq4.out] at hlen0 hRM hJN
  rw [← Hq1.out] at hH1
  rw [← Hq3.out] at hH2
  rw [← Hq1.out, ← Hq3.out] at hH3
  refine hyes.mono ?_
  rintro e w3 ⟨rfl, hb3⟩
  have kh := Blk.new w3 [.int .u8 (q1.toNat : Int), .int .u64 (q2 : Int), .int .u64 (q3 : Int), .int .i64 (q4 : Int), .int .u32 (q5 : Int)] 87
  have mb := bt hb3 (below_alloc w3 (.cells #[.int .u8 (q1.toNat : Int), .int .u64 (q2 : Int), .int .u64 (q3 : Int), .int .i64 (q4 : Int), .int .u32 (q5 : Int)] 87))
  clear hyes hH hb3
  replace Bd := Bd.below mb
  replace kr := kr.below mb
  replace ki := ki.below mb
  replace hb := bt hb mb
  clear mb
  have kh3 := kh.cell 3
  go_wp2_with fail
  refine (pieces_yes q4 _ hlen0).mono ?_
  rintro e w4 ⟨rfl, rfl⟩
  clear kh3
  obtain ⟨np, Hnp⟩ := named (piecesN q4)
  have hnp9 : np ≤ 269 := by rw [Hnp.out]; unfold piecesN; omega
  rw [← Hnp.out] at hRM hJN ⊢
  go_upto_region 4 with fail
  obtain ⟨W4, HW4⟩ := named (w3.alloc (.cells #[.int .u8 (q1.toNat : Int), .int .u64 (q2 : Int), .int .u64 (q3 : Int), .int .i64 (q4 : Int), .int .u32 (q5 : Int)] 87))
  obtain ⟨hB, HhB⟩ := named w3.heap.size
  rw [← HhB.out] at kh ⊢
  rw [← HW4.out] at kh Bd kr ki hb ⊢
  clear HW4 HhB
  have yh := kh.cell
  by_cases hk1 : q1 = 2
  case neg =>
    have t1 : (((q1.toNat : Nat) : Int) == 2) = false := by
      have : q1.toNat ≠ 2 := fun e => hk1 (UInt8.toNat_inj.1 e)
      simp; omega
    have t2 : (((q1.toNat : Nat) : Int) != 2) = true := by
      have : q1.toNat ≠ 2 := fun e => hk1 (UInt8.toNat_inj.1 e)
      simp; omega
    have HN := hide (hH1 hk1)
    clear hH1 hH2 hH3 hRM hJN hRd hk1
    have r0 := ki.cell 0
    have r1 := ki.cell 1
    have z0 := ki.free 0
    have z1 := ki.free 1
    have hbe := (hb.setCell (p := ⟨w.heap.size + 1 + 1, 0, none⟩) (by show w.heap.size ≤ w.heap.size + 1 + 1; omega) (.int .u64 0)).setCell (p := ⟨w.heap.size + 1 + 1, 1, none⟩) (by show w.heap.size ≤ w.heap.size + 1 + 1; omega) (.string ⟨#[]⟩)
    go_wp2_with fail
    refine bodyPost_ret (v := .tuple #[.agg #[.int .u64 0, .string ⟨#[]⟩], .bool false]) (by simp [results, Try.results32, go_sem, r0, r1]) rfl ?_
    rw [HN.out]
    exact ⟨rfl, hbe⟩
  have t1 : (((q1.toNat : Nat) : Int) == 2) = true := by rw [hk1]; rfl
  have t2 : (((q1.toNat : Nat) : Int) != 2) = false := by rw [hk1]; rfl
  have Hk1 := hide hk1
  clear hk1 hH1
  by_cases hk2 : q3 = 0
  case neg =>
    have t3 : ((q3 : Int) == 0) = false := by simp [hk2]
    have t4 : ((q3 : Int) != 0) = true := by simp [hk2]
    have HN := hide (hH2 hk2)
    clear hH2 hH3 hRM hJN hRd hk2
    have r0 := ki.cell 0
    have r1 := ki.cell 1
    have z0 := ki.free 0
    have z1 := ki.free 1
    have hbe := (hb.setCell (p := ⟨w.heap.size + 1 + 1, 0, none⟩) (by show w.heap.size ≤ w.heap.size + 1 + 1; omega) (.int .u64 0)).setCell (p := ⟨w.heap.size + 1 + 1, 1, none⟩) (by show w.heap.size ≤ w.heap.size + 1 + 1; omega) (.string ⟨#[]⟩)
    go_wp2_with fail
    refine bodyPost_ret (v := .tuple #[.agg #[.int .u64 0, .string ⟨#[]⟩], .bool false]) (by simp [results, Try.results32, go_sem, r0, r1]) rfl ?_
    rw [HN.out]
    exact ⟨rfl, hbe⟩
  have t3 : ((q3 : Int) == 0) = true := by simp [hk2]
  have t4 : ((q3 : Int) != 0) = false := by simp [hk2]
  have Hk2 := hide hk2
  clear hk2 hH2
  have yr := kr.cell
  by_cases hroom : s ≤ np
  · have hgt : (s : Int) ≤ (np : Int) := by omega
    have hgt' : decide ((s : Int) ≤ (np : Int)) = true := decide_eq_true hgt
    have hgt2 : decide (s ≤ np) = true := decide_eq_true hroom
    have HN := hide (Hfin.out (hRM (by omega)))
    clear hH3 hRM hJN hRd hroom
    have r0 := ki.cell 0
    have r1 := ki.cell 1
    have z0 := ki.free 0
    have z1 := ki.free 1
    have hbe := (hb.setCell (p := ⟨w.heap.size + 1 + 1, 0, none⟩) (by show w.heap.size ≤ w.heap.size + 1 + 1; omega) (.int .u64 0)).setCell (p := ⟨w.heap.size + 1 + 1, 1, none⟩) (by show w.heap.size ≤ w.heap.size + 1 + 1; omega) (.string ⟨#[]⟩)
    go_wp2_with fail
    refine bodyPost_ret (v := .tuple #[.agg #[.int .u64 0, .string ⟨#[]⟩], .bool false]) (by simp [results, Try.results32, go_sem, r0, r1]) rfl ?_
    rw [HN.out]
    exact ⟨rfl, hbe⟩
  have hle : (np : Int) < (s : Int) := by omega
  have hle' : decide ((s : Int) ≤ (np : Int)) = false := decide_eq_false (by omega)
  have hle2 : decide (s ≤ np) = false := decide_eq_false (by omega)
  have hfit : 0 + (np + 1) ≤ s := by omega
  clear hRM hroom
  go_upto_region 6 with fail
  obtain ⟨j0, hj, hy0, hy1, hy2⟩ := info_parts Try.info9
  clear yr yh t1 t2 t3 t4 hle hle' hle2
  go_wp2_with fail
  have hO0 : (W4.alloc (.cells #[.string S0] 9)).ownsRow W4.heap.size 9 1 (.slice (some ⟨W4.heap.size, 0, none⟩) 1 1) 1 (strs ((List.range 1).map fun i => holdsOf d ((f + i : Nat) : Int))) := by
    have e : (List.range 1).map (fun i => holdsOf d ((f + i : Nat) : Int)) = [S0] := by
      rw [HS0.out]; rfl
    rw [e]
    exact ⟨rfl, .inr ⟨W4.heap.size, 1, _, rfl, Nat.le_refl _, Blk.new W4 [.string S0] 9, Nat.le_refl _, by decide, rfl, rfl⟩⟩
  have hOb := below_alloc W4 (.cells #[.string S0] 9)
  obtain ⟨W5, HW5⟩ := named (W4.alloc (.cells #[.string S0] 9))
  rw [← HW5.out] at hO0 hOb ⊢
  clear HW5
  obtain ⟨f1, Hf1⟩ := named (f + 1)
  have hsf1 : (f : Int) + 1 = (f1 : Int) := by rw [Hf1.out]; omega
  have hwf1 : IntKind.i64.wrap (f1 : Int) = (f1 : Int) := wrap_i64_nat' f1 (by rw [Hf1.out]; omega)
  go_loopw [6, 12, 13, 55] (fun _ x _ i wr => ∃ (k : Nat), k ≤ np ∧ i = .int .i64 (k : Int) ∧ wr.ownsRow W4.heap.size 9 1 x (k + 1) (strs ((List.range (k + 1)).map fun i => holdsOf d ((f + i : Nat) : Int))) ∧ Below W4.heap.size W4 wr) (fun _ _ _ i _ => np - (intOf i).toNat)
  case atStart => exact ⟨0, by omega, rfl, hO0, hOb⟩
  case round =>
    obtain ⟨k, hk, rfl, hO, hbw⟩ := hrel
    have mD := Bd.below hbw
    have mr := kr.below hbw
    have mi := ki.below hbw
    have mb := bt hb hbw
    have yr := mr.cell
    have yd := mD.blk.cell
    by_cases hlt2 : k < np
    · have hkI : (k : Int) < (np : Int) := by omega
      obtain ⟨gk, hgk⟩ := named (f1 + k)
      have hga : (f1 : Int) + (k : Int) = (gk : Int) := by rw [hgk.out]; omega
      have hwgk : IntKind.i64.wrap (gk : Int) = (gk : Int) := wrap_i64_nat' gk (by have := Hf1.out; rw [hgk.out]; omega)
      have hh := hRd wr gk mb (by have := Hf1.out; rw [hgk.out]; omega)
      obtain ⟨SK, HSK⟩ := named (holdsOf d (gk : Int))
      rw [← HSK.out] at hh
      have HGL := hide (show gk = f + (k + 1) by rw [hgk.out, Hf1.out]; omega)
      clear hgk
      go_wp2_with fail
      refine hh.mono ?_
      rintro e w5 ⟨rfl, hb5⟩
      have hb6 := bt hb5 (below_alloc w5 (.cells #[.string SK] 9))
      have hsz5 := hb5.size
      have hszw := hbw.size
      clear hh yr yd
      go_wp2_with (at_builtin; refine wpList_append_lies _ rfl (.tmp 68) (.tmp 70) _ rfl W4.heap.size 9 j0 _ 1 16 Try.underlying22 hj hy0 hy1 hy2 rfl (by omega) _ (k + 1) _ rfl (own_below hO hb6) ⟨w5.heap.size, 0, none⟩ 1 1 [.string SK] rfl rfl (World.news_of_block (cs := #[.string SK]) (t := 9) (fr := (0, 0)) (heap_alloc_new w5 _)) (by simp [Value.oneCell']) (by omega) (by simp only [maxLen]; omega) (by omega) (by simp; omega) (w5.heap.size + 1) (by simp) ?_; intro gg cap w6 hown1 hgrow hat hlt9)
      have hb9 : Below W4.heap.size W4 w6 := (bt hbw hb6).grown hgrow (by have := hb6.size; omega) (fun k' e => (World.ownsRow.lt (own_below hO hb6) k' e).1)
      go_roundw
      case rel =>
        refine ⟨k + 1, by omega, by go_num, ?_, hb9⟩
        rw [List.range_succ, List.map_append, List.map_singleton, strs_append]
        rw [show holdsOf d ((f + (k + 1) : Nat) : Int) = SK by rw [HSK.out, HGL.out]]
        exact hown1
      case measure => simp [intOf]; omega
    · obtain rfl : k = np := by omega
      have hll : ((List.range (k + 1)).map fun i => holdsOf d ((f + i : Nat) : Int)).length = k + 1 := by simp
      obtain ⟨g, cap, rfl, hg, hcg, hlg, _⟩ := own_form hO (by omega)
      obtain ⟨LL, HLL⟩ := named ((List.range (k + 1)).map fun i => holdsOf d ((f + i : Nat) : Int))
      rw [← HLL.out] at hll hlg hJN
      have htl : Texts wr (some ⟨g, 0, none⟩) LL := by unfold Texts; rw [hll]; exact hlg
      have hge : ¬ ((k : Int) < (k : Int)) := by omega
      clear hO hlg hRd
      by_cases hjj : ∃ fr, FrOk fr ∧ (sectorsL fr).map str = LL
      · obtain ⟨fr, hok, hfl⟩ := hjj
        have hlen2 : k + 1 = piecesN fr.pay.length + 1 := by rw [← hll, ← hfl, List.length_map, sectorsL_length]
        have hAt : FrameAt d f s 0 fr (k + 1) := ⟨hok, hlen2, hfit, by rw [hfl, HLL.out]; rfl⟩
        have hkk := hH3 _ _ hAt
        have HMs := hide (Hyes.out _ _ hAt (by rw [← hkk.1]; exact Hk1.out) (by rw [← hkk.2]; exact Hk2.out))
        have hjy := join_yes (some ⟨g, 0, none⟩) cap (k + 1) fr wr hok hlen2 hcg (by rw [hfl]; exact htl)
        unfold frVal at hjy
        clear hlen2 hfl hll hJN hH3 hkk HLL
        go_wp2_with fail
        refine hjy.mono ?_
        rintro e w8 ⟨rfl, hb8⟩
        clear hjy yr yd
        obtain ⟨F, HF⟩ := named (str fr.pay)
        have Hval : Hid (optVal M = .tuple #[.agg #[.int .u64 (fr.epoch : Int), .string F], .bool true]) := by rw [HMs.out, HF.out]; rfl
        rw [← HF.out]
        have n3 := (mi.below hb8).alloc (.cells #[.int .u8 (fr.kind.toNat : Int), .int .u64 (fr.epoch : Int), .int .u64 (fr.seq : Int), .string F] 61)
        have kf := Blk.new w8 [.int .u8 (fr.kind.toNat : Int), .int .u64 (fr.epoch : Int), .int .u64 (fr.seq : Int), .string F] 61
        have nb := (bt mb hb8).alloc (bt mb hb8).size (.cells #[.int .u8 (fr.kind.toNat : Int), .int .u64 (fr.epoch : Int), .int .u64 (fr.seq : Int), .string F] 61)
        go_upto_region 14 with fail
        obtain ⟨W9, HW9⟩ := named (w8.alloc (.cells #[.int .u8 (fr.kind.toNat : Int), .int .u64 (fr.epoch : Int), .int .u64 (fr.seq : Int), .string F] 61))
        obtain ⟨fB, HfB⟩ := named w8.heap.size
        rw [← HfB.out] at kf ⊢
        rw [← HW9.out] at n3 kf nb ⊢
        clear HW9 HfB mD mr mi mb
        have y := kf.cell
        have r0 := n3.cell 0
        have r1 := n3.cell 1
        have z0 := n3.free 0
        have z1 := n3.free 1
        have hbe := (nb.setCell (p := ⟨w.heap.size + 1 + 1, 0, none⟩) (by show w.heap.size ≤ w.heap.size + 1 + 1; omega) (.int .u64 (fr.epoch : Int))).setCell (p := ⟨w.heap.size + 1 + 1, 1, none⟩) (by show w.heap.size ≤ w.heap.size + 1 + 1; omega) (.string F)
        go_wp2
        refine bodyPost_ret (v := .tuple #[.agg #[.int .u64 (fr.epoch : Int), .string F], .bool true]) (by simp [results, Try.results32, go_sem, r0, r1]) rfl ?_
        exact ⟨by rw [Hval.out], hbe⟩
      · have hnf : NoFrame LL := fun fr hok e => hjj ⟨fr, hok, e⟩
        have HN := hide (Hfin.out (hJN hnf))
        have hjn := join_no (some ⟨g, 0, none⟩) cap (k + 1) LL wr hnf hll.symm (by omega) hcg htl
        unfold zeroFrame at hjn
        clear hll hjj hJN hH3 HLL
        go_wp2_with fail
        refine hjn.mono ?_
        rintro e w8 ⟨rfl, hb8⟩
        clear hjn yr yd
        have n3 := (mi.below hb8).alloc (.cells #[.int .u8 0, .int .u64 0, .int .u64 0, .string ⟨#[]⟩] 61)
        have kf := Blk.new w8 [.int .u8 0, .int .u64 0, .int .u64 0, .string ⟨#[]⟩] 61
        have nb := (bt mb hb8).alloc (bt mb hb8).size (.cells #[.int .u8 0, .int .u64 0, .int .u64 0, .string ⟨#[]⟩] 61)
        go_upto_region 14 with fail
        obtain ⟨W9, HW9⟩ := named (w8.alloc (.cells #[.int .u8 0, .int .u64 0, .int .u64 0, .string ⟨#[]⟩] 61))
        obtain ⟨fB, HfB⟩ := named w8.heap.size
        rw [← HfB.out] at kf ⊢
        rw [← HW9.out] at n3 kf nb ⊢
        clear HW9 HfB mD mr mi mb
        have y := kf.cell
        have r0 := n3.cell 0
        have r1 := n3.cell 1
        have z0 := n3.free 0
        have z1 := n3.free 1
        have hbe := (nb.setCell (p := ⟨w.heap.size + 1 + 1, 0, none⟩) (by show w.heap.size ≤ w.heap.size + 1 + 1; omega) (.int .u64 0)).setCell (p := ⟨w.heap.size + 1 + 1, 1, none⟩) (by show w.heap.size ≤ w.heap.size + 1 + 1; omega) (.string ⟨#[]⟩)
        go_wp2
        refine bodyPost_ret (v := .tuple #[.agg #[.int .u64 0, .string ⟨#[]⟩], .bool false]) (by simp [results, Try.results32, go_sem, r0, r1]) rfl ?_
        rw [HN.out]
        exact ⟨rfl, hbe⟩
end Go.Proofs.Ytpfbmmeipojodaa
end
section
/- slots.Load. -/
namespace Go.Proofs.Ytpfbmmeipojodaa
set_option linter.unusedSimpArgs false
set_option linter.unusedVariables false
open Go.RowKit Go.Shelf
open Crc
def loadVal (r : Img × Nat × Int) : Value := .tuple #[r.1.val, .int .i64 (r.2.1 : Int), .int .i64 r.2.2]
/-- What stands ahead of round k: the best so far, and where it lies. -/
def LoadSt (IA IB : Option Img) (R : Img × Nat × Int) (k : Nat) (z : Int) (m : Img) : Prop :=
  (k = 0 ∧ z = -1 ∧ m = img0) ∨ (k = 1 ∧ ((IA = none ∧ z = -1 ∧ m = img0) ∨ (IA = some m ∧ z = 0))) ∨
  (k = 2 ∧ ((z = -1 ∧ R = (img0, 0, 9)) ∨ (z = 0 ∧ R = (m, 0, 0)) ∨ (z = 1 ∧ R = (m, 1, 0))))
set_option maxHeartbeats 1000000 in
set_option maxRecDepth 100000 in
theorem load_w (v : Value) (d : Dk) (fa sa fb sb : Int) (w : World) (hv : DkIs w v d) (hfa : -9223372036854775808 ≤ fa ∧ fa ≤ 9223372036854775807) (hsa : -9223372036854775808 ≤ sa ∧ sa ≤ 9223372036854775807) (hfb : -9223372036854775808 ≤ fb ∧ fb ≤ 9223372036854775807) (hsb : -9223372036854775808 ≤ sb ∧ sb ≤ 9223372036854775807) :
    Calls Try.prog 13 #[v, .agg #[.int .i64 fa, .int .i64 sa], .agg #[.int .i64 fb, .int .i64 sb]] w fun e w' => e = .returned (loadVal (loadR d fa sa fb sb)) ∧ Below w.heap.size w w' := by
  have hv0 := hv
  obtain ⟨A1, c1, A2, c2, rfl, _⟩ := hv
  obtain ⟨W, HW, Bd, ka, kb, km, hb, hz⟩ := dabm_in w hv0 fa sa fb sb 0 ⟨#[]⟩
  have hck := slCheck_w _ d fa sa fb sb W Bd.is hfa hsa hfb hsb
  obtain ⟨R, HR⟩ := named (loadR d fa sa fb sb)
  rw [← HR.out]
  have hsz := fun h : slE d fa sa fb sb = 0 => sl_zero h
  obtain ⟨X, HX⟩ := named (slE d fa sa fb sb)
  rw [← HX.out] at hsz hck
  go_enter Try.func13, Try.ntmps13
  have xd := Bd.blk.cell
  have xa := ka.cell
  have xb := kb.cell
  rw [HW.out] at xd xa xb
  go_wp2_with fail
  rw [← HW.out]
  clear xd xa xb HW
  refine hck.mono ?_
  rintro e w2 ⟨rfl, hb2⟩
  replace Bd := Bd.below hb2
  replace ka := ka.below hb2
  replace kb := kb.below hb2
  replace km := km.below hb2
  replace hb := bt hb hb2
  clear hb2 hck
  by_cases hX : X = 0
  case neg =>
    have t1 : (X == 0) = false := by simp [hX]
    have t2 : (X != 0) = true := by simp [hX]
    have HN : Hid (R = (img0, 0, X)) := by show R = _; rw [HR.out, loadR, if_pos (by rw [← HX.out]; exact hX), HX.out]
    clear hX hsz
    have r0 := km.cell 0
    have r1 := km.cell 1
    have z0 := km.free 0
    have z1 := km.free 1
    have hbe := (hb.setCell (p := ⟨w.heap.size + 1 + 1 + 1, 0, none⟩) (by show w.heap.size ≤ w.heap.size + 1 + 1 + 1; omega) (.int .u64 0)).setCell (p := ⟨w.heap.size + 1 + 1 + 1, 1, none⟩) (by show w.heap.size ≤ w.heap.size + 1 + 1 + 1; omega) (.string ⟨#[]⟩)
    go_wp2_with fail
    refine bodyPost_ret (v := .tuple #[.agg #[.int .u64 0, .string ⟨#[]⟩], .int .i64 0, .int .i64 X]) (by simp [results, Try.results13, go_sem, r0, r1]) rfl ?_
    rw [HN.out]
    exact ⟨rfl, hbe⟩
  have t1 : (X == 0) = true := by simp [hX]
  have t2 : (X != 0) = false := by simp [hX]
  obtain ⟨ha0, hb0, _⟩ := hsz hX
  obtain ⟨hr, a1, a2, a3, a4⟩ := wal_zero ha0
  obtain ⟨_, b1, b2, b3, b4⟩ := wal_zero hb0
  have HX0 := hide hX
  clear hX hsz ha0 hb0
  have xd := Bd.blk.cell
  by_cases hoff : d.off = true
  · have HN : Hid (R = (img0, 0, 15)) := by show R = _; rw [HR.out, loadR, if_neg (by rw [← HX.out, HX0.out]; decide), if_pos hoff]
    have r0 := km.cell 0
    have r1 := km.cell 1
    have z0 := km.free 0
    have z1 := km.free 1
    have hbe := (hb.setCell (p := ⟨w.heap.size + 1 + 1 + 1, 0, none⟩) (by show w.heap.size ≤ w.heap.size + 1 + 1 + 1; omega) (.int .u64 0)).setCell (p := ⟨w.heap.size + 1 + 1 + 1, 1, none⟩) (by show w.heap.size ≤ w.heap.size + 1 + 1 + 1; omega) (.string ⟨#[]⟩)
    go_wp2_with fail
    refine bodyPost_ret (v := .tuple #[.agg #[.int .u64 0, .string ⟨#[]⟩], .int .i64 0, .int .i64 15]) (by simp [results, Try.results13, go_sem, r0, r1]) rfl ?_
    rw [HN.out]
    exact ⟨rfl, hbe⟩
  have hoff' : d.off = false := by simpa using hoff
  obtain ⟨fa', rfl⟩ := Int.eq_ofNat_of_zero_le a1
  obtain ⟨sa', rfl⟩ := Int.eq_ofNat_of_zero_le (show 0 ≤ sa by omega)
  obtain ⟨fb', rfl⟩ := Int.eq_ofNat_of_zero_le b1
  obtain ⟨sb', rfl⟩ := Int.eq_ofNat_of_zero_le (show 0 ≤ sb by omega)
  have hia := fun W v hv => image_w v d fa' sa' W hv hr hoff' (by omega) (by omega)
  have hib := fun W v hv => image_w v d fb' sb' W hv hr hoff' (by omega) (by omega)
  have HRB : Hid (R = best (imgOf d fa' sa') (imgOf d fb' sb')) := by show R = _; rw [HR.out, loadR, if_neg (by rw [← HX.out, HX0.out]; decide), if_neg hoff]; rfl
  obtain ⟨IA, HIA⟩ := named (imgOf d fa' sa')
  obtain ⟨IB, HIB⟩ := named (imgOf d fb' sb')
  rw [← HIA.out, ← HIB.out] at HRB
  simp only [← HIA.out] at hia
  simp only [← HIB.out] at hib
  clear hoff HIA HIB HR HX hr
  have Hoff := hide hoff'
  have km0 := km.alloc (.cells #[.int .u64 0, .string ⟨#[]⟩] 36)
  have kt0 := Blk.new w2 [.int .u64 0, .string ⟨#[]⟩] 36
  have ka0 := ka.alloc (.cells #[.int .u64 0, .string ⟨#[]⟩] 36)
  have kb0 := kb.alloc (.cells #[.int .u64 0, .string ⟨#[]⟩] 36)
  have kd0 := Bd.blk.alloc (.cells #[.int .u64 0, .string ⟨#[]⟩] 36)
  have hb0 := hb.alloc hb.size (.cells #[.int .u64 0, .string ⟨#[]⟩] 36)
  rw [hoff'] at kd0
  have hv1 := hv0
  rw [hoff'] at hv1
  have hT3 : w.heap.size + 1 + 1 + 1 < w2.heap.size := km.lt
  go_upto_region 7 with fail
  obtain ⟨W0, HW0⟩ := named (w2.alloc (.cells #[.int .u64 0, .string ⟨#[]⟩] 36))
  obtain ⟨T, HT⟩ := named w2.heap.size
  rw [← HT.out] at kt0 hT3 ⊢
  rw [← HW0.out] at km0 kt0 ka0 kb0 kd0 hb0 ⊢
  clear HW0 HT Bd ka kb km hb xd hv0
  have hv0 := hide hv1
  have xa := ka0.cell
  have xb := kb0.cell
  clear hoff'
  go_wp2_with fail
  clear xa xb
  go_loopw [11, 31] (fun at_ i wr => ∃ (k : Nat) (z : Int) (m : Img), k ≤ 2 ∧ i = .int .i64 (k : Int) ∧ at_ = .int .i64 z ∧ Hid (LoadSt IA IB R k z m) ∧ Blk wr w.heap.size [.slice A1 d.secs.length c1, .slice A2 d.pend.length c2, .bool false, .int .i64 d.fuse] 28 ∧ Blk wr (w.heap.size + 1) [.int .i64 (fa' : Int), .int .i64 (sa' : Int)] 33 ∧ Blk wr (w.heap.size + 1 + 1) [.int .i64 (fb' : Int), .int .i64 (sb' : Int)] 33 ∧ Blk wr (w.heap.size + 1 + 1 + 1) [.int .u64 0, .string ⟨#[]⟩] 36 ∧ Blk wr T [.int .u64 (m.ep : Int), .string (str m.pay)] 36 ∧ Below w.heap.size w wr)
    (fun _ i _ => 2 - (intOf i).toNat)
  case atStart => exact ⟨0, -1, img0, by omega, rfl, rfl, hide (.inl ⟨rfl, rfl, rfl⟩), kd0, ka0, kb0, km0, kt0, hb0⟩
  case round =>
    obtain ⟨k, z, m, hk, rfl, rfl, HST, kd, ka, kb, km, kt, hb⟩ := hrel
    have hk3 : k = 0 ∨ k = 1 ∨ k = 2 := by omega
    clear hk kd0 ka0 kb0 km0 kt0 hb0
    rcases hk3 with rfl | rfl | rfl
    · have xd := (kd.alloc (.cells #[.int .i64 (fa' : Int), .int .i64 (sa' : Int)] 33)).cell
      have hp0 := pick0 (.int .i64 (fa' : Int)) (.int .i64 (sa' : Int)) (.int .i64 (fb' : Int)) (.int .i64 (sb' : Int))
      have hp1 := pick1 (.int .i64 (fa' : Int)) (.int .i64 (sa' : Int)) (.int .i64 (fb' : Int)) (.int .i64 (sb' : Int))
      go_wp2_with fail
      have hb1 := below_alloc wr (.cells #[.int .i64 (fa' : Int), .int .i64 (sa' : Int)] 33)
      refine (hia _ _ (hv1.below (bt hb hb1))).mono ?_
      rintro e w3 ⟨rfl, hb3⟩
      replace kd := kd.below (bt hb1 hb3)
      replace ka := ka.below (bt hb1 hb3)
      replace kb := kb.below (bt hb1 hb3)
      replace km := km.below (bt hb1 hb3)
      replace kt := kt.below (bt hb1 hb3)
      replace hb := bt hb (bt hb1 hb3)
      clear hb1 hb3 xd hia hib hp0 hp1
      obtain ⟨rfl, rfl⟩ : z = -1 ∧ m = img0 := by
        rcases HST.out with ⟨_, h⟩ | ⟨h, _⟩ | ⟨h, _⟩
        · exact h
        · exact absurd h (by decide)
        · exact absurd h (by decide)
      clear HST
      cases IA with
      | none =>
        rw [show optVal none = .tuple #[.agg #[.int .u64 0, .string ⟨#[]⟩], .bool false] from rfl]
        replace kd := kd.alloc (.cells #[.int .u64 0, .string ⟨#[]⟩] 36)
        replace ka := ka.alloc (.cells #[.int .u64 0, .string ⟨#[]⟩] 36)
        replace kb := kb.alloc (.cells #[.int .u64 0, .string ⟨#[]⟩] 36)
        replace km := km.alloc (.cells #[.int .u64 0, .string ⟨#[]⟩] 36)
        replace hb := hb.alloc hb.size (.cells #[.int .u64 0, .string ⟨#[]⟩] 36)
        replace kt := kt.alloc (.cells #[.int .u64 0, .string ⟨#[]⟩] 36)
        go_wp2
        go_roundw
        case rel => exact ⟨1, -1, img0, by omega, by first | rfl | go_num, by first | rfl | go_num, hide (.inr (.inl ⟨rfl, .inl ⟨rfl, rfl, rfl⟩⟩)), kd, ka, kb, km, kt, hb⟩
        case measure => simp [intOf]
      | some y =>
        rw [show optVal (some y) = .tuple #[.agg #[.int .u64 (y.ep : Int), .string (str y.pay)], .bool true] from rfl]
        obtain ⟨S, HS⟩ := named (str y.pay)
        rw [← HS.out]
        have kn := Blk.new w3 [.int .u64 (y.ep : Int), .string S] 36
        replace kd := kd.alloc (.cells #[.int .u64 (y.ep : Int), .string S] 36)
        replace ka := ka.alloc (.cells #[.int .u64 (y.ep : Int), .string S] 36)
        replace kb := kb.alloc (.cells #[.int .u64 (y.ep : Int), .string S] 36)
        replace km := km.alloc (.cells #[.int .u64 (y.ep : Int), .string S] 36)
        replace hb := hb.alloc hb.size (.cells #[.int .u64 (y.ep : Int), .string S] 36)
        replace kt := kt.alloc (.cells #[.int .u64 (y.ep : Int), .string S] 36)
        go_upto_region 11 with fail
        obtain ⟨W4, HW4⟩ := named (w3.alloc (.cells #[.int .u64 (y.ep : Int), .string S] 36))
        obtain ⟨nB, HnB⟩ := named w3.heap.size
        rw [← HnB.out] at kn ⊢
        rw [← HW4.out] at kn kt kd ka kb km hb ⊢
        clear HW4 HnB
        have xn := kn.cell
        have xt := kt.cell
        have ft := kt.free
        replace kt := (kt.set 0 (.int .u64 (y.ep : Int))).set 1 (.string S)
        replace kd := (kd.far (p := ⟨T, 0, none⟩) (by show w.heap.size ≠ T; omega) (.int .u64 (y.ep : Int))).far (p := ⟨T, 1, none⟩) (by show w.heap.size ≠ T; omega) (.string S)
        replace ka := (ka.far (p := ⟨T, 0, none⟩) (by show w.heap.size + 1 ≠ T; omega) (.int .u64 (y.ep : Int))).far (p := ⟨T, 1, none⟩) (by show w.heap.size + 1 ≠ T; omega) (.string S)
        replace kb := (kb.far (p := ⟨T, 0, none⟩) (by show w.heap.size + 1 + 1 ≠ T; omega) (.int .u64 (y.ep : Int))).far (p := ⟨T, 1, none⟩) (by show w.heap.size + 1 + 1 ≠ T; omega) (.string S)
        replace km := (km.far (p := ⟨T, 0, none⟩) (by show w.heap.size + 1 + 1 + 1 ≠ T; omega) (.int .u64 (y.ep : Int))).far (p := ⟨T, 1, none⟩) (by show w.heap.size + 1 + 1 + 1 ≠ T; omega) (.string S)
        replace hb := (hb.setCell (p := ⟨T, 0, none⟩) (by show w.heap.size ≤ T; omega) (.int .u64 (y.ep : Int))).setCell (p := ⟨T, 1, none⟩) (by show w.heap.size ≤ T; omega) (.string S)
        go_wp2
        go_roundw
        case rel => exact ⟨1, 0, y, by omega, by first | rfl | go_num, by first | rfl | go_num, hide (.inr (.inl ⟨rfl, .inr ⟨rfl, rfl⟩⟩)), kd, ka, kb, km, (by rw [← HS.out]; exact kt), hb⟩
        case measure => simp [intOf]
    · have xd := (kd.alloc (.cells #[.int .i64 (fb' : Int), .int .i64 (sb' : Int)] 33)).cell
      have hp0 := pick0 (.int .i64 (fa' : Int)) (.int .i64 (sa' : Int)) (.int .i64 (fb' : Int)) (.int .i64 (sb' : Int))
      have hp1 := pick1 (.int .i64 (fa' : Int)) (.int .i64 (sa' : Int)) (.int .i64 (fb' : Int)) (.int .i64 (sb' : Int))
      go_wp2_with fail
      have hb1 := below_alloc wr (.cells #[.int .i64 (fb' : Int), .int .i64 (sb' : Int)] 33)
      refine (hib _ _ (hv1.below (bt hb hb1))).mono ?_
      rintro e w3 ⟨rfl, hb3⟩
      replace kd := kd.below (bt hb1 hb3)
      replace ka := ka.below (bt hb1 hb3)
      replace kb := kb.below (bt hb1 hb3)
      replace km := km.below (bt hb1 hb3)
      replace kt := kt.below (bt hb1 hb3)
      replace hb := bt hb (bt hb1 hb3)
      clear hb1 hb3 xd hia hib hp0 hp1
      rcases HST.out with ⟨h, _⟩ | ⟨_, h1⟩ | ⟨h, _⟩
      case inl => exact absurd h (by decide)
      case inr.inr => exact absurd h (by decide)
      clear HST
      rcases h1 with ⟨rfl, rfl, rfl⟩ | ⟨rfl, rfl⟩
      · cases IB with
        | none =>
          rw [show optVal none = .tuple #[.agg #[.int .u64 0, .string ⟨#[]⟩], .bool false] from rfl]
          replace kd := kd.alloc (.cells #[.int .u64 0, .string ⟨#[]⟩] 36)
          replace ka := ka.alloc (.cells #[.int .u64 0, .string ⟨#[]⟩] 36)
          replace kb := kb.alloc (.cells #[.int .u64 0, .string ⟨#[]⟩] 36)
          replace km := km.alloc (.cells #[.int .u64 0, .string ⟨#[]⟩] 36)
          replace hb := hb.alloc hb.size (.cells #[.int .u64 0, .string ⟨#[]⟩] 36)
          replace kt := kt.alloc (.cells #[.int .u64 0, .string ⟨#[]⟩] 36)
          go_wp2
          go_roundw
          case rel => exact ⟨2, -1, img0, by omega, by first | rfl | go_num, by first | rfl | go_num, hide (.inr (.inr ⟨rfl, .inl ⟨rfl, HRB.out⟩⟩)), kd, ka, kb, km, kt, hb⟩
          case measure => simp [intOf]
        | some y =>
          rw [show optVal (some y) = .tuple #[.agg #[.int .u64 (y.ep : Int), .string (str y.pay)], .bool true] from rfl]
          obtain ⟨S, HS⟩ := named (str y.pay)
          rw [← HS.out]
          have kn := Blk.new w3 [.int .u64 (y.ep : Int), .string S] 36
          replace kd := kd.alloc (.cells #[.int .u64 (y.ep : Int), .string S] 36)
          replace ka := ka.alloc (.cells #[.int .u64 (y.ep : Int), .string S] 36)
          replace kb := kb.alloc (.cells #[.int .u64 (y.ep : Int), .string S] 36)
          replace km := km.alloc (.cells #[.int .u64 (y.ep : Int), .string S] 36)
          replace hb := hb.alloc hb.size (.cells #[.int .u64 (y.ep : Int), .string S] 36)
          replace kt := kt.alloc (.cells #[.int .u64 (y.ep : Int), .string S] 36)
          go_upto_region 11 with fail
          obtain ⟨W4, HW4⟩ := named (w3.alloc (.cells #[.int .u64 (y.ep : Int), .string S] 36))
          obtain ⟨nB, HnB⟩ := named w3.heap.size
          rw [← HnB.out] at kn ⊢
          rw [← HW4.out] at kn kt kd ka kb km hb ⊢
          clear HW4 HnB
          have xn := kn.cell
          have xt := kt.cell
          have ft := kt.free
          replace kt := (kt.set 0 (.int .u64 (y.ep : Int))).set 1 (.string S)
          replace kd := (kd.far (p := ⟨T, 0, none⟩) (by show w.heap.size ≠ T; omega) (.int .u64 (y.ep : Int))).far (p := ⟨T, 1, none⟩) (by show w.heap.size ≠ T; omega) (.string S)
          replace ka := (ka.far (p := ⟨T, 0, none⟩) (by show w.heap.size + 1 ≠ T; omega) (.int .u64 (y.ep : Int))).far (p := ⟨T, 1, none⟩) (by show w.heap.size + 1 ≠ T; omega) (.string S)
          replace kb := (kb.far (p := ⟨T, 0, none⟩) (by show w.heap.size + 1 + 1 ≠ T; omega) (.int .u64 (y.ep : Int))).far (p := ⟨T, 1, none⟩) (by show w.heap.size + 1 + 1 ≠ T; omega) (.string S)
          replace km := (km.far (p := ⟨T, 0, none⟩) (by show w.heap.size + 1 + 1 + 1 ≠ T; omega) (.int .u64 (y.ep : Int))).far (p := ⟨T, 1, none⟩) (by show w.heap.size + 1 + 1 + 1 ≠ T; omega) (.string S)
          replace hb := (hb.setCell (p := ⟨T, 0, none⟩) (by show w.heap.size ≤ T; omega) (.int .u64 (y.ep : Int))).setCell (p := ⟨T, 1, none⟩) (by show w.heap.size ≤ T; omega) (.string S)
          go_wp2
          go_roundw
          case rel => exact ⟨2, 1, y, by omega, by first | rfl | go_num, by first | rfl | go_num, hide (.inr (.inr ⟨rfl, .inr (.inr ⟨rfl, HRB.out⟩)⟩)), kd, ka, kb, km, (by rw [← HS.out]; exact kt), hb⟩
          case measure => simp [intOf]
      · cases IB with
        | none =>
          rw [show optVal none = .tuple #[.agg #[.int .u64 0, .string ⟨#[]⟩], .bool false] from rfl]
          replace kd := kd.alloc (.cells #[.int .u64 0, .string ⟨#[]⟩] 36)
          replace ka := ka.alloc (.cells #[.int .u64 0, .string ⟨#[]⟩] 36)
          replace kb := kb.alloc (.cells #[.int .u64 0, .string ⟨#[]⟩] 36)
          replace km := km.alloc (.cells #[.int .u64 0, .string ⟨#[]⟩] 36)
          replace hb := hb.alloc hb.size (.cells #[.int .u64 0, .string ⟨#[]⟩] 36)
          replace kt := kt.alloc (.cells #[.int .u64 0, .string ⟨#[]⟩] 36)
          go_wp2
          go_roundw
          case rel => exact ⟨2, 0, m, by omega, by first | rfl | go_num, by first | rfl | go_num, hide (.inr (.inr ⟨rfl, .inr (.inl ⟨rfl, HRB.out⟩)⟩)), kd, ka, kb, km, kt, hb⟩
          case measure => simp [intOf]
        | some y =>
          by_cases hle : y.ep ≤ m.ep
          · have HRB2 : Hid (R = (m, 0, 0)) := by show R = _; rw [HRB.out]; simp only [best]; rw [if_pos hle]
            have t8 : ¬ (m.ep : Int) < (y.ep : Int) := by omega
            have t9 : decide (m.ep < y.ep) = false := decide_eq_false (by omega)
            clear hle
            rw [show optVal (some y) = .tuple #[.agg #[.int .u64 (y.ep : Int), .string (str y.pay)], .bool true] from rfl]
            obtain ⟨S, HS⟩ := named (str y.pay)
            rw [← HS.out]
            have kn := Blk.new w3 [.int .u64 (y.ep : Int), .string S] 36
            replace kd := kd.alloc (.cells #[.int .u64 (y.ep : Int), .string S] 36)
            replace ka := ka.alloc (.cells #[.int .u64 (y.ep : Int), .string S] 36)
            replace kb := kb.alloc (.cells #[.int .u64 (y.ep : Int), .string S] 36)
            replace km := km.alloc (.cells #[.int .u64 (y.ep : Int), .string S] 36)
            replace hb := hb.alloc hb.size (.cells #[.int .u64 (y.ep : Int), .string S] 36)
            replace kt := kt.alloc (.cells #[.int .u64 (y.ep : Int), .string S] 36)
            go_upto_region 11 with fail
            obtain ⟨W4, HW4⟩ := named (w3.alloc (.cells #[.int .u64 (y.ep : Int), .string S] 36))
            obtain ⟨nB, HnB⟩ := named w3.heap.size
            rw [← HnB.out] at kn ⊢
            rw [← HW4.out] at kn kt kd ka kb km hb ⊢
            clear HW4 HnB
            have xn := kn.cell
            have xt := kt.cell
            have ft := kt.free
            go_wp2
            go_roundw
            case rel => exact ⟨2, 0, m, by omega, by first | rfl | go_num, by first | rfl | go_num, hide (.inr (.inr ⟨rfl, .inr (.inl ⟨rfl, HRB2.out⟩)⟩)), kd, ka, kb, km, kt, hb⟩
            case measure => simp [intOf]
          · have HRB2 : Hid (R = (y, 1, 0)) := by show R = _; rw [HRB.out]; simp only [best]; rw [if_neg hle]
            have t8 : (m.ep : Int) < (y.ep : Int) := by omega
            have t9 : decide (m.ep < y.ep) = true := decide_eq_true (by omega)
            clear hle
            rw [show optVal (some y) = .tuple #[.agg #[.int .u64 (y.ep : Int), .string (str y.pay)], .bool true] from rfl]
            obtain ⟨S, HS⟩ := named (str y.pay)
            rw [← HS.out]
            have kn := Blk.new w3 [.int .u64 (y.ep : Int), .string S] 36
            replace kd := kd.alloc (.cells #[.int .u64 (y.ep : Int), .string S] 36)
            replace ka := ka.alloc (.cells #[.int .u64 (y.ep : Int), .string S] 36)
            replace kb := kb.alloc (.cells #[.int .u64 (y.ep : Int), .string S] 36)
            replace km := km.alloc (.cells #[.int .u64 (y.ep : Int), .string S] 36)
            replace hb := hb.alloc hb.size (.cells #[.int .u64 (y.ep : Int), .string S] 36)
            replace kt := kt.alloc (.cells #[.int .u64 (y.ep : Int), .string S] 36)
            go_upto_region 11 with fail
            obtain ⟨W4, HW4⟩ := named (w3.alloc (.cells #[.int .u64 (y.ep : Int), .string S] 36))
            obtain ⟨nB, HnB⟩ := named w3.heap.size
            rw [← HnB.out] at kn ⊢
            rw [← HW4.out] at kn kt kd ka kb km hb ⊢
            clear HW4 HnB
            have xn := kn.cell
            have xt := kt.cell
            have ft := kt.free
            replace kt := (kt.set 0 (.int .u64 (y.ep : Int))).set 1 (.string S)
            replace kd := (kd.far (p := ⟨T, 0, none⟩) (by show w.heap.size ≠ T; omega) (.int .u64 (y.ep : Int))).far (p := ⟨T, 1, none⟩) (by show w.heap.size ≠ T; omega) (.string S)
            replace ka := (ka.far (p := ⟨T, 0, none⟩) (by show w.heap.size + 1 ≠ T; omega) (.int .u64 (y.ep : Int))).far (p := ⟨T, 1, none⟩) (by show w.heap.size + 1 ≠ T; omega) (.string S)
            replace kb := (kb.far (p := ⟨T, 0, none⟩) (by show w.heap.size + 1 + 1 ≠ T; omega) (.int .u64 (y.ep : Int))).far (p := ⟨T, 1, none⟩) (by show w.heap.size + 1 + 1 ≠ T; omega) (.string S)
            replace km := (km.far (p := ⟨T, 0, none⟩) (by show w.heap.size + 1 + 1 + 1 ≠ T; omega) (.int .u64 (y.ep : Int))).far (p := ⟨T, 1, none⟩) (by show w.heap.size + 1 + 1 + 1 ≠ T; omega) (.string S)
            replace hb := (hb.setCell (p := ⟨T, 0, none⟩) (by show w.heap.size ≤ T; omega) (.int .u64 (y.ep : Int))).setCell (p := ⟨T, 1, none⟩) (by show w.heap.size ≤ T; omega) (.string S)
            go_wp2
            go_roundw
            case rel => exact ⟨2, 1, y, by omega, by first | rfl | go_num, by first | rfl | go_num, hide (.inr (.inr ⟨rfl, .inr (.inr ⟨rfl, HRB2.out⟩)⟩)), kd, ka, kb, km, (by rw [← HS.out]; exact kt), hb⟩
            case measure => simp [intOf]
    · rcases HST.out with ⟨h, _⟩ | ⟨h, _⟩ | ⟨_, h1⟩
      case inl => exact absurd h (by decide)
      case inr.inl => exact absurd h (by decide)
      clear HST hia hib HRB
      have r0 := km.cell 0
      have r1 := km.cell 1
      have z0 := km.free 0
      have z1 := km.free 1
      obtain ⟨S, HS⟩ := named (str m.pay)
      rw [← HS.out] at kt
      have xt := kt.cell
      rcases h1 with ⟨rfl, hR⟩ | ⟨rfl, hR⟩ | ⟨rfl, hR⟩
      · have hR2 := hide hR
        clear hR
        have hbe := (hb.setCell (p := ⟨w.heap.size + 1 + 1 + 1, 0, none⟩) (by show w.heap.size ≤ w.heap.size + 1 + 1 + 1; omega) (.int .u64 0)).setCell (p := ⟨w.heap.size + 1 + 1 + 1, 1, none⟩) (by show w.heap.size ≤ w.heap.size + 1 + 1 + 1; omega) (.string ⟨#[]⟩)
        go_wp2_with fail
        refine bodyPost_ret (v := .tuple #[.agg #[.int .u64 0, .string ⟨#[]⟩], .int .i64 0, .int .i64 9]) (by simp [results, Try.results13, go_sem, r0, r1]) rfl ?_
        rw [hR2.out]
        exact ⟨rfl, hbe⟩
      · have hR2 := hide hR
        clear hR
        have hbe := (hb.setCell (p := ⟨w.heap.size + 1 + 1 + 1, 0, none⟩) (by show w.heap.size ≤ w.heap.size + 1 + 1 + 1; omega) (.int .u64 (m.ep : Int))).setCell (p := ⟨w.heap.size + 1 + 1 + 1, 1, none⟩) (by show w.heap.size ≤ w.heap.size + 1 + 1 + 1; omega) (.string S)
        go_wp2_with fail
        refine bodyPost_ret (v := .tuple #[.agg #[.int .u64 (m.ep : Int), .string S], .int .i64 0, .int .i64 0]) (by simp [results, Try.results13, go_sem, r0, r1]) rfl ?_
        rw [hR2.out]
        exact ⟨by rw [HS.out]; rfl, hbe⟩
      · have hR2 := hide hR
        clear hR
        have hbe := (hb.setCell (p := ⟨w.heap.size + 1 + 1 + 1, 0, none⟩) (by show w.heap.size ≤ w.heap.size + 1 + 1 + 1; omega) (.int .u64 (m.ep : Int))).setCell (p := ⟨w.heap.size + 1 + 1 + 1, 1, none⟩) (by show w.heap.size ≤ w.heap.size + 1 + 1 + 1; omega) (.string S)
        go_wp2_with fail
        refine bodyPost_ret (v := .tuple #[.agg #[.int .u64 (m.ep : Int), .string S], .int .i64 1, .int .i64 0]) (by simp [results, Try.results13, go_sem, r0, r1]) rfl ?_
        rw [hR2.out]
        exact ⟨by rw [HS.out]; rfl, hbe⟩
end Go.Proofs.Ytpfbmmeipojodaa
end
