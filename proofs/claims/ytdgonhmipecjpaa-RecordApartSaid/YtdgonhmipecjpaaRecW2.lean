/- The law RecordApart: the walk. -/
import Derived.Test.YtdgonhmipecjpaaRecW1
namespace Go.Proofs.Ytdgonhmipecjpaa
set_option linter.unusedSimpArgs false
set_option linter.unusedVariables false
open Go.RowKit Go.Shelf
open Crc
theorem bytes_beq (a b : ByteArray) : (a.toList == b.toList) = decide (a = b) := by
  by_cases h : a = b
  · subst h; simp
  · have : a.toList ≠ b.toList := fun e => h (by
      rw [ByteArray.toList_eq, ByteArray.toList_eq] at e
      have := Array.toList_inj.1 e
      cases a; cases b; simp_all)
    simp [h, this]
theorem fr_differ {kind : UInt8} {epoch seq : Nat} {p : ByteArray} {kind2 : UInt8} {epoch2 seq2 : Nat} {p2 : ByteArray} (h : (⟨kind, epoch, seq, p.data.toList⟩ : Fr) ≠ ⟨kind2, epoch2, seq2, p2.data.toList⟩) :
    kind ≠ kind2 ∨ (kind = kind2 ∧ epoch ≠ epoch2) ∨ (kind = kind2 ∧ epoch = epoch2 ∧ seq ≠ seq2) ∨ (kind = kind2 ∧ epoch = epoch2 ∧ seq = seq2 ∧ p ≠ p2) := by
  by_cases h1 : kind = kind2
  case neg => exact .inl h1
  by_cases h2 : epoch = epoch2
  case neg => exact .inr (.inl ⟨h1, h2⟩)
  by_cases h3 : seq = seq2
  case neg => exact .inr (.inr (.inl ⟨h1, h2, h3⟩))
  exact .inr (.inr (.inr ⟨h1, h2, h3, fun h4 => h (by rw [h1, h2, h3, h4])⟩))
set_option maxHeartbeats 4000000 in
set_option maxRecDepth 100000 in
theorem recordapart_w (kind : UInt8) (epoch seq : Nat) (p : ByteArray) (kind2 : UInt8) (epoch2 seq2 : Nat) (p2 : ByteArray) (w : World) (he : epoch < 18446744073709551616) (hs : seq < 18446744073709551616) (he2 : epoch2 < 18446744073709551616) (hs2 : seq2 < 18446744073709551616) :
    Calls Try.prog 7 #[.agg #[.int .u8 (kind.toNat : Int), .int .u64 (epoch : Int), .int .u64 (seq : Int), .string p], .agg #[.int .u8 (kind2.toNat : Int), .int .u64 (epoch2 : Int), .int .u64 (seq2 : Int), .string p2]] w fun e w' => e = .returned (.bool true) ∧ Below w.heap.size w w' := by
  have k1 := (Blk.new w [.int .u8 (kind.toNat : Int), .int .u64 (epoch : Int), .int .u64 (seq : Int), .string p] 24).alloc (.cells #[.int .u8 (kind2.toNat : Int), .int .u64 (epoch2 : Int), .int .u64 (seq2 : Int), .string p2] 24)
  have k2 := Blk.new (w.alloc (.cells #[.int .u8 (kind.toNat : Int), .int .u64 (epoch : Int), .int .u64 (seq : Int), .string p] 24)) [.int .u8 (kind2.toNat : Int), .int .u64 (epoch2 : Int), .int .u64 (seq2 : Int), .string p2] 24
  rw [show (w.alloc (.cells #[.int .u8 (kind.toNat : Int), .int .u64 (epoch : Int), .int .u64 (seq : Int), .string p] 24)).heap.size = w.heap.size + 1 by simp] at k2
  have b1 := bt (below_alloc w (.cells #[.int .u8 (kind.toNat : Int), .int .u64 (epoch : Int), .int .u64 (seq : Int), .string p] 24)) (below_alloc _ (.cells #[.int .u8 (kind2.toNat : Int), .int .u64 (epoch2 : Int), .int .u64 (seq2 : Int), .string p2] 24))
  go_enter Try.func7, Try.ntmps7
  go_wp2_with fail
  refine (recLives_w _).mono ?_
  rintro e w2 ⟨rfl, hb2⟩
  replace k1 := k1.below hb2
  replace k2 := k2.below hb2
  replace b1 := bt b1 hb2
  clear hb2
  have y1 := k1.cell
  have y2 := k2.cell
  go_wp2_with fail
  by_cases hc : frCheck ⟨kind, epoch, seq, p.data.toList⟩ = 0
  case neg =>
    have hno := recSectors_no kind epoch seq p w2 hc
    obtain ⟨why, hwhy⟩ := named (frCheck ⟨kind, epoch, seq, p.data.toList⟩)
    rw [← hwhy.out] at hno hc
    have hne : (why != 0) = true := by simp [hc]
    have hne0 : ¬ (why = 0) := hc
    refine hno.mono ?_
    rintro e w3 ⟨rfl, hb3⟩
    clear hno hwhy hc y1 y2
    replace k2 := k2.below hb3
    replace b1 := bt b1 hb3
    have y2 := k2.cell
    go_wp2_with fail
    by_cases hc2 : frCheck ⟨kind2, epoch2, seq2, p2.data.toList⟩ = 0
    · obtain ⟨hk, hp⟩ := frCheck_ok hc2
      refine (recSectors_yes kind2 epoch2 seq2 p2 _ hk hp).mono ?_
      rintro e w4 ⟨⟨A, c, rfl, hcap, ht⟩, hb4⟩
      clear hk hp hc2
      go_wp2
      go_ret
      exact ⟨rfl, bt b1 hb4⟩
    · refine (recSectors_no kind2 epoch2 seq2 p2 _ hc2).mono ?_
      rintro e w4 ⟨rfl, hb4⟩
      clear hc2
      go_wp2
      go_ret
      exact ⟨rfl, bt b1 hb4⟩
  obtain ⟨hk, hp⟩ := frCheck_ok hc
  clear hc
  refine (recSectors_yes kind epoch seq p _ hk hp).mono ?_
  rintro e w3 ⟨⟨A, c, rfl, hcap, ht⟩, hb3⟩
  replace k1 := k1.below hb3
  replace k2 := k2.below hb3
  replace b1 := bt b1 hb3
  clear y1 y2 hb3
  have Hk := hide hk
  clear hk
  have y1 := k1.cell
  have y2 := k2.cell
  go_wp2_with fail
  by_cases hc2 : frCheck ⟨kind2, epoch2, seq2, p2.data.toList⟩ = 0
  case neg =>
    have hno := recSectors_no kind2 epoch2 seq2 p2 w3 hc2
    obtain ⟨why, hwhy⟩ := named (frCheck ⟨kind2, epoch2, seq2, p2.data.toList⟩)
    rw [← hwhy.out] at hno hc2
    have hne : (why != 0) = true := by simp [hc2]
    have hne0 : ¬ (why = 0) := hc2
    refine hno.mono ?_
    rintro e w4 ⟨rfl, hb4⟩
    clear hno hwhy hc2 y1 y2
    go_wp2
    go_ret
    exact ⟨rfl, bt b1 hb4⟩
  obtain ⟨hk2, hp2⟩ := frCheck_ok hc2
  clear hc2
  refine (recSectors_yes kind2 epoch2 seq2 p2 _ hk2 hp2).mono ?_
  rintro e w4 ⟨⟨A2, c2, rfl, hcap2, ht2⟩, hb4⟩
  replace k1 := k1.below hb4
  replace k2 := k2.below hb4
  replace b1 := bt b1 hb4
  replace ht := Texts.below ht hb4
  clear y1 y2 hb4
  have Hk2 := hide hk2
  clear hk2
  have hll : ((sectorsL ⟨kind, epoch, seq, p.data.toList⟩).map str).length = piecesN p.size + 1 := by rw [List.length_map, sectorsL_length]; rfl
  have hll2 : ((sectorsL ⟨kind2, epoch2, seq2, p2.data.toList⟩).map str).length = piecesN p2.size + 1 := by rw [List.length_map, sectorsL_length]; rfl
  have hfok : FrOk ⟨kind, epoch, seq, p.data.toList⟩ := ⟨Hk.out, hp, he, hs⟩
  have hfok2 : FrOk ⟨kind2, epoch2, seq2, p2.data.toList⟩ := ⟨Hk2.out, hp2, he2, hs2⟩
  have Hiff : Hid (((sectorsL ⟨kind, epoch, seq, p.data.toList⟩).map str = (sectorsL ⟨kind2, epoch2, seq2, p2.data.toList⟩).map str) ↔ (⟨kind, epoch, seq, p.data.toList⟩ : Fr) = ⟨kind2, epoch2, seq2, p2.data.toList⟩) :=
    ⟨fun h => sectors_inj hfok hfok2 (map_str_inj h), fun h => by rw [h]⟩
  obtain ⟨L, HL⟩ := named ((sectorsL ⟨kind, epoch, seq, p.data.toList⟩).map str)
  obtain ⟨L2, HL2⟩ := named ((sectorsL ⟨kind2, epoch2, seq2, p2.data.toList⟩).map str)
  rw [← HL.out] at ht hll Hiff
  rw [← HL2.out] at ht2 hll2 Hiff
  have n9 : piecesN p.size ≤ 269 := by unfold piecesN; omega
  have n9' : piecesN p2.size ≤ 269 := by unfold piecesN; omega
  obtain ⟨n1, hn1⟩ := named (piecesN p.size + 1)
  obtain ⟨n2, hn2⟩ := named (piecesN p2.size + 1)
  rw [← hn1.out] at hll hcap ⊢
  rw [← hn2.out] at hll2 hcap2 ⊢
  have n9a : n1 ≤ 270 := by rw [hn1.out]; omega
  have n9b : n2 ≤ 270 := by rw [hn2.out]; omega
  have hpos1 : 1 ≤ n1 := by rw [hn1.out]; omega
  clear n9 n9' hn1 hn2 hfok hfok2 HL HL2 hp hp2
  go_wp2_with fail
  go_loopw [9, 10] (fun x i wr => ∃ (k : Nat) (b : Bool), k ≤ n1 ∧ x = .bool b ∧ i = .int .i64 k ∧ (b = true → n1 = n2 ∧ L.take k = L2.take k) ∧ (b = false → L ≠ L2) ∧ Below w4.heap.size w4 wr) (fun _ i _ => n1 - (intOf i).toNat)
  case atStart =>
    refine ⟨0, decide (n1 = n2), by omega, ?_, rfl, fun h => ⟨of_decide_eq_true h, by simp⟩, fun h e => ?_, Below.refl _ _⟩
    · by_cases h : n1 = n2
      · subst h; simp
      · have : ¬ ((n1 : Int) = (n2 : Int)) := by omega
        simp [h, this]
    · have := of_decide_eq_false h
      rw [e] at hll
      omega
  case round =>
    obtain ⟨k, b, hk, rfl, rfl, hT, hF, hbw⟩ := hrel
    have q1 := k1.below hbw
    have q2 := k2.below hbw
    have y1 := q1.cell
    have y2 := q2.cell
    cases b
    · have hd := fr_differ (fun h => hF rfl (Hiff.out.2 h))
      have hpp : p ≠ p2 → (p.toList == p2.toList) = false := fun h => by rw [bytes_beq]; exact decide_eq_false h
      have hb' := bt b1 hbw
      clear hT hF
      rcases hd with hd | ⟨rfl, hd⟩ | ⟨rfl, rfl, hd⟩ | ⟨rfl, rfl, rfl, hd⟩
      · have h1 : ¬ ((kind.toNat : Int) = (kind2.toNat : Int)) := fun e => hd (UInt8.toNat_inj.1 (by omega))
        have h2 : ((kind.toNat : Int) == (kind2.toNat : Int)) = false := by simpa using h1
        clear hd hpp
        go_wp2
        all_goals
          go_ret
          exact ⟨rfl, hb'⟩
      · have h1 : ¬ ((epoch : Int) = (epoch2 : Int)) := by omega
        have h2 : ((epoch : Int) == (epoch2 : Int)) = false := by simpa using h1
        clear hd hpp
        go_wp2
        all_goals
          go_ret
          exact ⟨rfl, hb'⟩
      · have h1 : ¬ ((seq : Int) = (seq2 : Int)) := by omega
        have h2 : ((seq : Int) == (seq2 : Int)) = false := by simpa using h1
        clear hd hpp
        go_wp2
        all_goals
          go_ret
          exact ⟨rfl, hb'⟩
      · have h2 := hpp hd
        clear hpp
        go_wp2
        all_goals
          go_ret
          exact ⟨rfl, hb'⟩
    · obtain ⟨rfl, hTk⟩ := hT rfl
      clear hT hF
      by_cases hlt : k < n1
      · obtain ⟨b', o', e', hc1⟩ := Texts.at_ (Texts.below ht hbw) (k := k) (by omega)
        subst e'
        obtain ⟨b2, o2, e2, hc2⟩ := Texts.at_ (Texts.below ht2 hbw) (k := k) (by omega)
        subst e2
        have hx1 : L.take (k + 1) = L.take k ++ [L[k]'(by omega)] := List.take_succ_eq_append_getElem (by omega)
        have hx2 : L2.take (k + 1) = L2.take k ++ [L2[k]'(by omega)] := List.take_succ_eq_append_getElem (by omega)
        have hgo : ∀ x y : ByteArray, L[k]'(by omega) = x → L2[k]'(by omega) = y → (x ≠ y → L ≠ L2) := fun x y h1 h2 hne e => hne (by subst e; rw [← h1, ← h2])
        obtain ⟨x, Hx⟩ := named (L[k]'(by omega))
        obtain ⟨z, Hz⟩ := named (L2[k]'(by omega))
        have hgo' := hide (hgo x z Hx.out.symm Hz.out.symm)
        rw [← Hx.out] at hc1 hx1
        rw [← Hz.out] at hc2 hx2
        have HX1 := hide hx1
        have HX2 := hide hx2
        have HTk := hide hTk
        clear hgo hx1 hx2 hTk
        by_cases hxz : x = z
        · subst hxz
          have hbeq : (x.toList == x.toList) = true := by simp
          go_wp2_with fail
          go_region
          go_wp2
          go_roundw
          case rel => exact ⟨k + 1, true, by omega, by first | rfl | simp, by go_num, fun _ => ⟨trivial, by rw [HX1.out, HX2.out, HTk.out]⟩, (fun h => Bool.noConfusion h), below_drewN hbw 1⟩
          case measure => simp [intOf]; omega
        · have hbeq : (x.toList == z.toList) = false := by rw [bytes_beq]; exact decide_eq_false hxz
          have hLne := hide (hgo'.out hxz)
          clear hxz
          go_wp2_with fail
          go_region
          go_wp2
          go_roundw
          case rel => exact ⟨k + 1, false, by omega, by first | rfl | simp, by go_num, (fun h => Bool.noConfusion h), fun _ => hLne.out, below_drewN hbw 1⟩
          case measure => simp [intOf]; omega
      · have hkk : k = n1 := by omega
        have hLL : L = L2 := by rw [← List.take_length (l := L), ← List.take_length (l := L2), hll, hll2, ← hkk]; exact hTk
        have hfr := Hiff.out.1 hLL
        injection hfr with e1 e2 e3 e4
        have e4' : p = p2 := by
          have := Array.toList_inj.1 e4
          cases p; cases p2; simp_all
        subst e1 e2 e3 e4'
        have hlt' : ¬ ((k : Int) < (n1 : Int)) := by omega
        clear hLL hTk hkk
        go_wp2
        go_ret
        exact ⟨rfl, bt b1 hbw⟩
end Go.Proofs.Ytdgonhmipecjpaa
