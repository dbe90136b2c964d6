/- wire.texts at the writer, of any texts. -/
import Derived.Test.YtiodfbbgbnbdpaaRepPlain
import Derived.Test.YtiodfbbgbnbdpaaWTexts0
import Derived.Deep.DeepCutAuto
namespace Go.Proofs.Ytiodfbbgbnbdpaa
set_option linter.unusedSimpArgs false
set_option linter.unusedVariables false
open Go.RowKit
open Crc
theorem Texts.keep {w w' : World} {A : Option Addr} {l : List ByteArray} (h : Texts w A l) (hk : l ≠ [] → ∀ b o', A = some ⟨b, o', none⟩ → w'.heap[b]? = w.heap[b]?) : Texts w' A l := by
  refine ⟨h.1, fun hne => ?_⟩
  obtain ⟨b, o, e, hc⟩ := h.2 hne
  refine ⟨b, o, e, fun j u hj => ?_⟩
  rw [World.cell?_of_block (hk (fun h0 => hne (by rw [h0]; rfl)) b o e)]
  exact hc j u hj
theorem min255 (n : Nat) : min (n : Int) 255 = ((min n 255 : Nat) : Int) := by omega
set_option maxRecDepth 100000 in
set_option maxHeartbeats 2000000 in
theorem wtexts_w {B g A o : Nat} {P : Nat → Prop} {bs : List UInt8} {bad : Bool} {w : World} (l : List ByteArray) (ad : Option Addr) (cap : Nat) (h : Wr B g P bs bad w) (hA : P A) (hc : w.cell? ⟨A, o, none⟩ = some (.slice ad l.length cap)) (hl : Texts w ad l) (hP : l ≠ [] → ∀ b o', ad = some ⟨b, o', none⟩ → P b) (hsz : ∀ t ∈ l, t.size < 16777216) (hb : bs.length ≤ 10000000000) (hll : l.length ≤ 140737488351232) :
    Calls Try.prog 42 #[.iface 53 (.pointer (some ⟨g, 0, none⟩)), .pointer (some ⟨A, o, none⟩)] w fun e w' => e = .returned (.tuple #[]) ∧ Wr B g P (bs ++ textsW l) (bad || texB l) w' ∧ KP B P w w' := by
  have hmn := min255 l.length
  have hW : bs ++ textsW l = bs ++ [UInt8.ofNat (min l.length 255)] ++ txts (l.take (min l.length 255)) := by
    have : l.take (min l.length 255) = l.take 255 := by
      by_cases h : l.length ≤ 255
      · rw [Nat.min_eq_left h, List.take_of_length_le (Nat.le_refl _), List.take_of_length_le h]
      · rw [Nat.min_eq_right (by omega)]
    rw [this]
    simp [textsW]
  have hX : (bad || texB l) = ((bad || decide (255 < l.length)) || longs (l.take (min l.length 255))) := by
    have : l.take (min l.length 255) = l.take 255 := by
      by_cases h : l.length ≤ 255
      · rw [Nat.min_eq_left h, List.take_of_length_le (Nat.le_refl _), List.take_of_length_le h]
      · rw [Nat.min_eq_right (by omega)]
    rw [this]
    unfold texB
    rw [Bool.or_assoc]
  rw [hW, hX]
  have hat := fun W (hW : Texts W ad l) k (hk : k < l.length) => hW.at_ hk
  have hbig : decide (255 < l.length) = decide ((255 : Int) < (l.length : Int)) := by simp; omega
  have hml : min l.length 255 ≤ l.length := Nat.min_le_left _ _
  have hm255 : min l.length 255 ≤ 255 := Nat.min_le_right _ _
  have hm0 : (l.length : Int) = 0 → min l.length 255 = 0 := fun h => by omega
  have hmm : min (l.length : Int) ((min l.length 255 : Nat) : Int) = ((min l.length 255 : Nat) : Int) := by omega
  obtain ⟨N, hN⟩ := named l.length
  rw [← hN.out] at hc hmn hbig hml hm255 hm0 hmm hll ⊢
  simp only [← hN.out] at hat
  obtain ⟨m, hm⟩ := named (min N 255)
  rw [← hm.out] at hmn hml hm255 hm0 hmm ⊢
  have hwm : IntKind.u8.wrap (m : Int) = (m : Int) := by simp [IntKind.wrap, IntKind.bits, IntKind.signed]; omega
  have hwm2 : IntKind.i64.wrap (m : Int) = (m : Int) := by simp [IntKind.wrap, IntKind.bits, IntKind.signed]; omega
  have hcm : ((UInt8.ofNat m).toNat : Int) = (m : Int) := by rw [UInt8.toNat_ofNat']; omega
  obtain ⟨q, hq⟩ := named (decide (255 < N))
  rw [← hq.out] at hbig ⊢
  have HML := hide hml
  have HM255 := hide hm255
  have HM0 := hide hm0
  have HMN := hide hN.out
  have HAT := hide hat
  have hcell : ∀ W, Texts W ad l → ∀ k, k < N → ∃ b o', ad = some ⟨b, o', none⟩ ∧ W.cell? ⟨b, o' + k, none⟩ = some (.string (l.getD k e0)) := fun W hW k hk => by
    have hk' : k < l.length := by rw [← hN.out]; exact hk
    obtain ⟨b, o', e, hc⟩ := hat W hW k hk
    refine ⟨b, o', e, ?_⟩
    rw [List.getD_eq_getElem?_getD, List.getElem?_eq_getElem hk']
    exact hc
  clear hml hm255 hm0 hm hN hat HAT hW hX hq
  have hal := below_alloc w (.cells #[.int .u8 (m : Int)] 5)
  have h1 : Wr B g (fun i => P i ∨ i = w.heap.size) bs bad (w.alloc (.cells #[.int .u8 (m : Int)] 5)) := BuT.add h hal (Nat.le_refl _) (by simp) (small_one w _)
  have hK := Blk.new w [.int .u8 (m : Int)] 5
  have k1 := KP.of (P := P) hal h.isP.2 h.isP.1
  have c1 := (k1.cell (o := o) hA).trans hc
  have hm1 := wm_byte
  have hm2 := wm_fail
  go_enter Try.func42, Try.ntmps42
  go_upto_region 1 with fail
  obtain ⟨K, hKn⟩ := named w.heap.size
  obtain ⟨w1, hw1⟩ := named (w.alloc (.cells #[.int .u8 (m : Int)] 5))
  rw [← hKn.out] at h1 hK ⊢
  rw [← hw1.out] at h1 hK k1 c1 ⊢
  clear hKn hw1 hal h
  go_upto_if 16 with fail
  go_cut [] (fun wx => Wr B g (fun i => P i ∨ i = K) bs (bad || q) wx ∧ Blk wx K [.int .u8 (m : Int)] 5 ∧ KP B P w wx)
  case first =>
    cases q with
    | true =>
      have hbI : (255 : Int) < (N : Int) := by simpa using hbig.symm
      have hbD : decide ((255 : Int) < (N : Int)) = true := hbig.symm
      clear hbig
      have hf := wfail_w B g _ bs bad w1 h1
      have hbt : (bad || true) = true := by simp
      go_wp2_with fail
      refine hf.mono ?_
      rintro e w2 ⟨rfl, h2, k2⟩
      have hK2 := hK.kP k2 (.inr rfl)
      have k3 := k1.trans (k2.weak fun i hi => .inl hi)
      clear hf h1 hK k1 c1 k2
      go_wp2
      go_meet
      case rel => exact ⟨by rw [hbt]; exact h2, hK2, k3⟩
    | false =>
      have hbI : ¬ (255 : Int) < (N : Int) := by simpa using hbig.symm
      have hbD : decide ((255 : Int) < (N : Int)) = false := hbig.symm
      clear hbig
      have hbt : (bad || false) = bad := by simp
      go_wp2
      go_meet
      case rel => exact ⟨by rw [hbt]; exact h1, hK, k1⟩
  case rest =>
    clear h1 hK k1 c1 hbig
    obtain ⟨h1, hK, k1⟩ := hcut
    have c1 := (k1.cell (o := o) hA).trans hc
    obtain ⟨bb, hbb⟩ := named (bad || q)
    rw [← hbb.out] at h1
    have hby := wbyte_w B g K 0 _ bs bb (UInt8.ofNat m) wc h1 (.inr rfl) (by rw [hK.cell, hcm]; rfl) (by omega)
    go_wp2_with fail
    refine hby.mono ?_
    rintro e w2 ⟨rfl, h2, k2⟩
    have hK2 := hK.kP k2 (.inr rfl)
    have c2 := (k2.cell (o := o) (.inl hA)).trans c1
    have k3 := k1.trans (k2.weak fun i hi => .inl hi)
    have h3 : Wr B g P (bs ++ [UInt8.ofNat m]) bb w2 := BuT.weak h2 fun i hi => .inl hi
    have xK := hK2.cell
    clear hby h1 hK k1 c1 h2 k2
    by_cases hz : (N : Int) = 0
    case pos =>
      have hN0 : N = 0 := by omega
      have hm0 := HM0.out hz
      have hz1 : ((N : Int) == 0) = true := by simpa using hz
      have hz2 : ¬ (0 : Int) < (m : Int) := by omega
      have hz3 : decide ((0 : Int) < (m : Int)) = false := by simpa using hz2
      have hz4 : decide (0 < m) = false := by simp; omega
      have HZ := hide hm0
      clear hz hm0 hN0
      go_wp2_with fail
      refine region_flatS _ (fun L u => Hid (u = w2.drew) ∧ u.cell? ⟨A, o, none⟩ = some (.slice ad N cap) ∧ ∀ i, u.cell? ⟨K, i, none⟩ = [Value.int .u8 (m : Int)][i]?) (fun _ _ _ => True)
        (fun _ => rel [fun v _ => v = .pointer (some ⟨A, o, none⟩),
          fun v _ => v = .pointer (some ⟨A, o, none⟩),
          fun v _ => v = .slice ad N cap,
          fun v _ => v = .int .i64 (N : Int),
          fun v _ => v = .int .u8 (m : Int),
          fun v _ => v = .int .i64 (m : Int),
          fun v _ => v = .int .i64 (m : Int),
          fun v _ => v = .int .i64 0])
        (by kernel_rfl) (by kernel_rfl) (fun v => by simp only [putsV, Act.put, List.toList_toArray, List.setIfInBounds_toArray, List.set_cons_zero, List.set_cons_succ, Nat.reduceAdd, Nat.zero_add]; rfl) ?_ (fun _ _ _ _ _ h => h) ⟨hide rfl, c2, xK⟩ ?_ (fun _ _ _ _ _ _ h => h) (fun L L' u hL h => by  exact h) ?_
      · intro i L j x u u' _ _ hG h
        match j with
        | 0 => exact h
        | 1 => exact h
        | 2 => exact h
        | 3 => exact h
        | 4 => exact h
        | 5 => exact h
        | 6 => exact h
        | 7 => exact h
        | _ + 8 => trivial
      · refine ⟨?_, ?_, ?_, ?_, ?_, ?_, ?_, ?_, trivial⟩
        · intro L hL hcl v u hS hd K' hK
          simp only [waited, List.toList_toArray, Region.binds, rel, List.getD_cons_zero, List.getD_cons_succ, true_imp_iff, and_true] at hd
          simp only [rel, List.getD_cons_zero, List.getD_cons_succ, Act.put, List.setIfInBounds_toArray, List.set_cons_zero, List.set_cons_succ] at hK
          try simp only [hd] at hK
          go_simp
          exact hK.out _ _ ⟨hS, trivial, rfl⟩
        · intro L hL hcl v u hS hd K' hK
          simp only [waited, List.toList_toArray, Region.binds, rel, List.getD_cons_zero, List.getD_cons_succ, true_imp_iff, and_true] at hd
          simp only [rel, List.getD_cons_zero, List.getD_cons_succ, Act.put, List.setIfInBounds_toArray, List.set_cons_zero, List.set_cons_succ] at hK
          try simp only [hd] at hK
          go_simp
          exact hK.out _ _ ⟨hS, trivial, rfl⟩
        · intro L hL hcl v u hS hd K' hK
          simp only [waited, List.toList_toArray, Region.binds, rel, List.getD_cons_zero, List.getD_cons_succ, true_imp_iff, and_true] at hd
          simp only [rel, List.getD_cons_zero, List.getD_cons_succ, Act.put, List.setIfInBounds_toArray, List.set_cons_zero, List.set_cons_succ] at hK
          try simp only [hd] at hK
          have x0 := hS.2.1
          go_simp
          exact hK.out _ _ ⟨hS, trivial, rfl⟩
        · intro L hL hcl v u hS hd K' hK
          simp only [waited, List.toList_toArray, Region.binds, rel, List.getD_cons_zero, List.getD_cons_succ, true_imp_iff, and_true] at hd
          simp only [rel, List.getD_cons_zero, List.getD_cons_succ, Act.put, List.setIfInBounds_toArray, List.set_cons_zero, List.set_cons_succ] at hK
          try simp only [hd] at hK
          go_simp
          exact hK.out _ _ ⟨hS, trivial, rfl⟩
        · intro L hL hcl v u hS hd K' hK
          simp only [waited, List.toList_toArray, Region.binds, rel, List.getD_cons_zero, List.getD_cons_succ, true_imp_iff, and_true] at hd
          simp only [rel, List.getD_cons_zero, List.getD_cons_succ, Act.put, List.setIfInBounds_toArray, List.set_cons_zero, List.set_cons_succ] at hK
          try simp only [hd] at hK
          have x0 := hS.2.2 0
          go_simp
          exact hK.out _ _ ⟨hS, trivial, rfl⟩
        · intro L hL hcl v u hS hd K' hK
          simp only [waited, List.toList_toArray, Region.binds, rel, List.getD_cons_zero, List.getD_cons_succ, true_imp_iff, and_true] at hd
          simp only [rel, List.getD_cons_zero, List.getD_cons_succ, Act.put, List.setIfInBounds_toArray, List.set_cons_zero, List.set_cons_succ] at hK
          try simp only [hd] at hK
          go_simp
          exact hK.out _ _ ⟨hS, trivial, rfl⟩
        · intro L hL hcl v u hS hd K' hK
          simp only [waited, List.toList_toArray, Region.binds, rel, List.getD_cons_zero, List.getD_cons_succ, true_imp_iff, and_true] at hd
          simp only [rel, List.getD_cons_zero, List.getD_cons_succ, Act.put, List.setIfInBounds_toArray, List.set_cons_zero, List.set_cons_succ] at hK
          try simp only [hd] at hK
          go_simp
          exact hK.out _ _ ⟨hS, trivial, rfl⟩
        · intro L hL hcl v u hS hd K' hK
          simp only [waited, List.toList_toArray, Region.binds, rel, List.getD_cons_zero, List.getD_cons_succ, true_imp_iff, and_true] at hd
          simp only [rel, List.getD_cons_zero, List.getD_cons_succ, Act.put, List.setIfInBounds_toArray, List.set_cons_zero, List.set_cons_succ] at hK
          try simp only [hd] at hK
          go_simp
          exact hK.out _ _ ⟨hS, trivial, rfl⟩
      · rintro v u hS hR
        simp only [holdAll, List.size_toArray, List.length_cons, List.length_nil, Nat.reduceAdd, rel, List.getD_cons_zero, List.getD_cons_succ] at hR
        obtain ⟨-, h7⟩ := (And.intro hR.1.2 hR.2 : _ ∧ _)
        have h6 := hR.1.2
        simp only [h6, h7]
        have hu : u = w2.drew := hS.1.out
        clear h6 h7 hR hS
        rw [hu]
        clear hu xK
        have h4 : Wr B g P (bs ++ [UInt8.ofNat m]) bb w2.drew := h3
        have k4 : KP B P w w2.drew := k3.drew
        obtain ⟨w4, hw4⟩ := named w2.drew
        rw [← hw4.out] at h4 k4 ⊢
        clear hw4 h3 k3 c2 hK2
        go_wp2_with fail
        go_loopw [41] (fun i wr => ∃ j : Nat, j ≤ m ∧ i = .int .i64 (j : Int) ∧ Wr B g P (bs ++ [UInt8.ofNat m] ++ txts (l.take j)) (bb || longs (l.take j)) wr ∧ KP B P w wr) (fun i _ => m - (intOf i).toNat)
        case atStart => exact ⟨0, by omega, rfl, by simpa [txts, longs] using h4, k4⟩
        case round =>
          clear h4 k4
          obtain ⟨j, hjm, rfl, h4, k4⟩ := hrel
          by_cases hj : j < m
          · have hjI : (j : Int) < (m : Int) := by omega
            have hjN : j < N := Nat.lt_of_lt_of_le hj HML.out
            have hjN' : (j : Int) < (N : Int) := by omega
            have hj0 : (0 : Int) ≤ (j : Int) := by omega
            have hjl : j < l.length := by rw [← HMN.out]; exact hjN
            have hlne : l ≠ [] := fun h0 => by rw [h0] at hjl; simp at hjl
            have hTx : Texts wr ad l := Texts.keep hl (fun _ b o' e => k4.1 b (hP hlne b o' e))
            obtain ⟨b0, o0, hade, hct⟩ := hcell wr hTx j hjN
            have hPb := hP hlne b0 o0 hade
            have hco := (k4.cell (o := o) hA).trans hc
            have hsu := txts_succ l (j := j) hjl
            have hsz1 : (l.getD j e0).size < 16777216 := by
              have hm : l.getD j e0 ∈ l := by rw [List.getD_eq_getElem?_getD, List.getElem?_eq_getElem hjl]; exact List.getElem_mem _
              exact hsz _ hm
            have hlen := txts_len (l.take j) 16777216 (fun t htt => hsz t (List.mem_of_mem_take htt))
            have hlj : (l.take j).length ≤ 255 := by have := HM255.out; rw [List.length_take]; omega
            have hbl : (bs ++ [UInt8.ofNat m] ++ txts (l.take j)).length + (l.getD j e0).size + 4 ≤ 140737488355328 := by
              rw [List.length_append, List.length_append]
              have : (l.take j).length * (16777216 + 4) ≤ 255 * (16777216 + 4) := Nat.mul_le_mul_right _ hlj
              simp only [List.length_cons, List.length_nil]
              omega
            have htx := fun (W : World) (hW : Wr B g P (bs ++ [UInt8.ofNat m] ++ txts (l.take j)) (bb || longs (l.take j)) W) (hcW : W.cell? ⟨b0, o0 + j, none⟩ = some (.string (l.getD j e0))) => wtext_w B g b0 (o0 + j) P (bs ++ [UInt8.ofNat m] ++ txts (l.take j)) (bb || longs (l.take j)) (l.getD j e0) W hW hPb hcW (by omega) hbl
            rw [List.append_assoc (bs ++ [UInt8.ofNat m]), ← hsu.1, Bool.or_assoc, ← hsu.2] at htx
            have hmt := wm_text
            have hmf := make_func
            subst hade
            clear hTx hlne hsu hsz1 hlen hlj hbl hjN hjl hmm hmn
            go_wp2_with fail
            refine region_flatS _ (fun L u => Wr B g P (cond (L 9) (bs ++ [UInt8.ofNat m] ++ txts (l.take (j + 1))) (bs ++ [UInt8.ofNat m] ++ txts (l.take j))) (cond (L 9) (bb || longs (l.take (j + 1))) (bb || longs (l.take j))) u ∧ KP B P wr u) (fun _ _ _ => True)
              (fun _ => rel [fun v _ => v = .iface 53 (.pointer (some ⟨g, 0, none⟩)),
                fun v _ => v = .pointer (some ⟨A, o, none⟩),
                fun v _ => v = .pointer (some ⟨A, o, none⟩),
                fun v _ => v = .slice (some ⟨b0, o0, none⟩) N cap,
                fun v _ => v = .int .i64 (j : Int),
                fun v _ => v = .pointer (some ⟨b0, o0 + j, none⟩),
                fun v _ => v = .func (Fn.method "lictor/wire.text") #[.iface 53 (.pointer (some ⟨g, 0, none⟩))] #[],
                fun v _ => v = .func (Fn.method "lictor/wire.text") #[.iface 53 (.pointer (some ⟨g, 0, none⟩))] #[],
                fun v _ => v = .iface 53 (.pointer (some ⟨g, 0, none⟩)),
                fun _ _ => True])
              (by kernel_rfl) (by kernel_rfl) (fun v => by simp only [putsV, Act.put, List.toList_toArray, List.setIfInBounds_toArray, List.set_cons_zero, List.set_cons_succ, Nat.reduceAdd, Nat.zero_add]; rfl) ?_ (fun _ _ _ _ _ h => h) ⟨h4, (KP.refl _ _ _).drew⟩ ?_ (fun _ _ _ _ _ _ h => h) (fun L L' u hL h => by rw [← hL 9 (by decide)]; exact h) ?_
            · intro i L j x u u' _ _ hG h
              match j with
              | 0 => exact h
              | 1 => exact h
              | 2 => exact h
              | 3 => exact h
              | 4 => exact h
              | 5 => exact h
              | 6 => exact h
              | 7 => exact h
              | 8 => exact h
              | 9 => exact h
              | _ + 10 => trivial
            · refine ⟨?_, ?_, ?_, ?_, ?_, ?_, ?_, ?_, ?_, ?_, trivial⟩
              · intro L hL hcl v u hS hd K' hK
                simp only [waited, List.toList_toArray, Region.binds, rel, List.getD_cons_zero, List.getD_cons_succ, true_imp_iff, and_true] at hd
                simp only [rel, List.getD_cons_zero, List.getD_cons_succ, Act.put, List.setIfInBounds_toArray, List.set_cons_zero, List.set_cons_succ] at hK
                try simp only [hd] at hK
                go_simp
                exact hK.out _ _ ⟨hS, trivial, rfl⟩
              · intro L hL hcl v u hS hd K' hK
                simp only [waited, List.toList_toArray, Region.binds, rel, List.getD_cons_zero, List.getD_cons_succ, true_imp_iff, and_true] at hd
                simp only [rel, List.getD_cons_zero, List.getD_cons_succ, Act.put, List.setIfInBounds_toArray, List.set_cons_zero, List.set_cons_succ] at hK
                try simp only [hd] at hK
                go_simp
                exact hK.out _ _ ⟨hS, trivial, rfl⟩
              · intro L hL hcl v u hS hd K' hK
                simp only [waited, List.toList_toArray, Region.binds, rel, List.getD_cons_zero, List.getD_cons_succ, true_imp_iff, and_true] at hd
                simp only [rel, List.getD_cons_zero, List.getD_cons_succ, Act.put, List.setIfInBounds_toArray, List.set_cons_zero, List.set_cons_succ] at hK
                try simp only [hd] at hK
                go_simp
                exact hK.out _ _ ⟨hS, trivial, rfl⟩
              · intro L hL hcl v u hS hd K' hK
                simp only [waited, List.toList_toArray, Region.binds, rel, List.getD_cons_zero, List.getD_cons_succ, true_imp_iff, and_true] at hd
                simp only [rel, List.getD_cons_zero, List.getD_cons_succ, Act.put, List.setIfInBounds_toArray, List.set_cons_zero, List.set_cons_succ] at hK
                try simp only [hd] at hK
                have x0 := (hS.2.cell (o := o) hA).trans hco
                go_simp
                exact hK.out _ _ ⟨hS, trivial, rfl⟩
              · intro L hL hcl v u hS hd K' hK
                simp only [waited, List.toList_toArray, Region.binds, rel, List.getD_cons_zero, List.getD_cons_succ, true_imp_iff, and_true] at hd
                simp only [rel, List.getD_cons_zero, List.getD_cons_succ, Act.put, List.setIfInBounds_toArray, List.set_cons_zero, List.set_cons_succ] at hK
                try simp only [hd] at hK
                go_simp
                exact hK.out _ _ ⟨hS, trivial, rfl⟩
              · intro L hL hcl v u hS hd K' hK
                simp only [waited, List.toList_toArray, Region.binds, rel, List.getD_cons_zero, List.getD_cons_succ, true_imp_iff, and_true] at hd
                simp only [rel, List.getD_cons_zero, List.getD_cons_succ, Act.put, List.setIfInBounds_toArray, List.set_cons_zero, List.set_cons_succ] at hK
                try simp only [hd] at hK
                go_simp
                exact hK.out _ _ ⟨hS, trivial, rfl⟩
              · intro L hL hcl v u hS hd K' hK
                simp only [waited, List.toList_toArray, Region.binds, rel, List.getD_cons_zero, List.getD_cons_succ, true_imp_iff, and_true] at hd
                simp only [rel, List.getD_cons_zero, List.getD_cons_succ, Act.put, List.setIfInBounds_toArray, List.set_cons_zero, List.set_cons_succ] at hK
                try simp only [hd] at hK
                go_simp
                exact hK.out _ _ ⟨hS, trivial, rfl⟩
              · intro L hL hcl v u hS hd K' hK
                simp only [waited, List.toList_toArray, Region.binds, rel, List.getD_cons_zero, List.getD_cons_succ, true_imp_iff, and_true] at hd
                simp only [rel, List.getD_cons_zero, List.getD_cons_succ, Act.put, List.setIfInBounds_toArray, List.set_cons_zero, List.set_cons_succ] at hK
                try simp only [hd] at hK
                go_simp
                exact hK.out _ _ ⟨hS, trivial, rfl⟩
              · intro L hL hcl v u hS hd K' hK
                simp only [waited, List.toList_toArray, Region.binds, rel, List.getD_cons_zero, List.getD_cons_succ, true_imp_iff, and_true] at hd
                simp only [rel, List.getD_cons_zero, List.getD_cons_succ, Act.put, List.setIfInBounds_toArray, List.set_cons_zero, List.set_cons_succ] at hK
                try simp only [hd] at hK
                go_simp
                exact hK.out _ _ ⟨hS, trivial, rfl⟩
              · intro L hL hcl v u hS hd K' hK
                simp only [waited, List.toList_toArray, Region.binds, rel, List.getD_cons_zero, List.getD_cons_succ, true_imp_iff, and_true] at hd
                simp only [rel, List.getD_cons_zero, List.getD_cons_succ, Act.put, List.setIfInBounds_toArray, List.set_cons_zero, List.set_cons_succ] at hK
                try simp only [hd] at hK
                obtain ⟨t1, t2⟩ := hS
                rw [hL] at t1
                have t1' : Wr B g P (bs ++ [UInt8.ofNat m] ++ txts (l.take j)) (bb || longs (l.take j)) u := t1
                go_simp
                refine (htx u t1' ((t2.cell hPb).trans hct)).mono ?_
                rintro e w6 ⟨rfl, h6, h7⟩
                exact hK.out _ _ ⟨⟨h6, t2.trans h7⟩, trivial, trivial⟩
            · rintro v u hS hR
              simp only [holdAll, List.size_toArray, List.length_cons, List.length_nil, Nat.reduceAdd, rel, List.getD_cons_zero, List.getD_cons_succ] at hR
              clear hR
              obtain ⟨t1, t2⟩ := hS
              replace t1 : Wr B g P (bs ++ [UInt8.ofNat m] ++ txts (l.take (j + 1))) (bb || longs (l.take (j + 1))) u := t1
              have k5 := k4.trans t2
              clear t2 k4 h4 htx hct hco
              go_wp2
              go_roundw
              case rel => exact ⟨j + 1, by omega, by first | rfl | go_num, t1, k5⟩
              case measure => simp [intOf]; omega
          · obtain rfl : j = m := by omega
            clear hj hjm
            go_wp2
            go_end0
            exact ⟨rfl, by first | exact h4 | (rw [← hbb.out]; exact h4), k4⟩
    case neg =>
      have hz1 : ((N : Int) == 0) = false := by simpa using hz
      clear hz
      go_wp2_with fail
      refine region_flatS _ (fun L u => Hid (u = w2.drew) ∧ u.cell? ⟨A, o, none⟩ = some (.slice ad N cap) ∧ ∀ i, u.cell? ⟨K, i, none⟩ = [Value.int .u8 (m : Int)][i]?) (fun _ _ _ => True)
        (fun _ => rel [fun v _ => v = .pointer (some ⟨A, o, none⟩),
          fun v _ => v = .pointer (some ⟨A, o, none⟩),
          fun v _ => v = .slice ad N cap,
          fun v _ => v = .int .i64 (N : Int),
          fun v _ => v = .int .u8 (m : Int),
          fun v _ => v = .int .i64 (m : Int),
          fun v _ => v = .int .i64 (m : Int),
          fun v _ => v = .int .i64 0])
        (by kernel_rfl) (by kernel_rfl) (fun v => by simp only [putsV, Act.put, List.toList_toArray, List.setIfInBounds_toArray, List.set_cons_zero, List.set_cons_succ, Nat.reduceAdd, Nat.zero_add]; rfl) ?_ (fun _ _ _ _ _ h => h) ⟨hide rfl, c2, xK⟩ ?_ (fun _ _ _ _ _ _ h => h) (fun L L' u hL h => by  exact h) ?_
      · intro i L j x u u' _ _ hG h
        match j with
        | 0 => exact h
        | 1 => exact h
        | 2 => exact h
        | 3 => exact h
        | 4 => exact h
        | 5 => exact h
        | 6 => exact h
        | 7 => exact h
        | _ + 8 => trivial
      · refine ⟨?_, ?_, ?_, ?_, ?_, ?_, ?_, ?_, trivial⟩
        · intro L hL hcl v u hS hd K' hK
          simp only [waited, List.toList_toArray, Region.binds, rel, List.getD_cons_zero, List.getD_cons_succ, true_imp_iff, and_true] at hd
          simp only [rel, List.getD_cons_zero, List.getD_cons_succ, Act.put, List.setIfInBounds_toArray, List.set_cons_zero, List.set_cons_succ] at hK
          try simp only [hd] at hK
          go_simp
          exact hK.out _ _ ⟨hS, trivial, rfl⟩
        · intro L hL hcl v u hS hd K' hK
          simp only [waited, List.toList_toArray, Region.binds, rel, List.getD_cons_zero, List.getD_cons_succ, true_imp_iff, and_true] at hd
          simp only [rel, List.getD_cons_zero, List.getD_cons_succ, Act.put, List.setIfInBounds_toArray, List.set_cons_zero, List.set_cons_succ] at hK
          try simp only [hd] at hK
          go_simp
          exact hK.out _ _ ⟨hS, trivial, rfl⟩
        · intro L hL hcl v u hS hd K' hK
          simp only [waited, List.toList_toArray, Region.binds, rel, List.getD_cons_zero, List.getD_cons_succ, true_imp_iff, and_true] at hd
          simp only [rel, List.getD_cons_zero, List.getD_cons_succ, Act.put, List.setIfInBounds_toArray, List.set_cons_zero, List.set_cons_succ] at hK
          try simp only [hd] at hK
          have x0 := hS.2.1
          go_simp
          exact hK.out _ _ ⟨hS, trivial, rfl⟩
        · intro L hL hcl v u hS hd K' hK
          simp only [waited, List.toList_toArray, Region.binds, rel, List.getD_cons_zero, List.getD_cons_succ, true_imp_iff, and_true] at hd
          simp only [rel, List.getD_cons_zero, List.getD_cons_succ, Act.put, List.setIfInBounds_toArray, List.set_cons_zero, List.set_cons_succ] at hK
          try simp only [hd] at hK
          go_simp
          exact hK.out _ _ ⟨hS, trivial, rfl⟩
        · intro L hL hcl v u hS hd K' hK
          simp only [waited, List.toList_toArray, Region.binds, rel, List.getD_cons_zero, List.getD_cons_succ, true_imp_iff, and_true] at hd
          simp only [rel, List.getD_cons_zero, List.getD_cons_succ, Act.put, List.setIfInBounds_toArray, List.set_cons_zero, List.set_cons_succ] at hK
          try simp only [hd] at hK
          have x0 := hS.2.2 0
          go_simp
          exact hK.out _ _ ⟨hS, trivial, rfl⟩
        · intro L hL hcl v u hS hd K' hK
          simp only [waited, List.toList_toArray, Region.binds, rel, List.getD_cons_zero, List.getD_cons_succ, true_imp_iff, and_true] at hd
          simp only [rel, List.getD_cons_zero, List.getD_cons_succ, Act.put, List.setIfInBounds_toArray, List.set_cons_zero, List.set_cons_succ] at hK
          try simp only [hd] at hK
          go_simp
          exact hK.out _ _ ⟨hS, trivial, rfl⟩
        · intro L hL hcl v u hS hd K' hK
          simp only [waited, List.toList_toArray, Region.binds, rel, List.getD_cons_zero, List.getD_cons_succ, true_imp_iff, and_true] at hd
          simp only [rel, List.getD_cons_zero, List.getD_cons_succ, Act.put, List.setIfInBounds_toArray, List.set_cons_zero, List.set_cons_succ] at hK
          try simp only [hd] at hK
          go_simp
          exact hK.out _ _ ⟨hS, trivial, rfl⟩
        · intro L hL hcl v u hS hd K' hK
          simp only [waited, List.toList_toArray, Region.binds, rel, List.getD_cons_zero, List.getD_cons_succ, true_imp_iff, and_true] at hd
          simp only [rel, List.getD_cons_zero, List.getD_cons_succ, Act.put, List.setIfInBounds_toArray, List.set_cons_zero, List.set_cons_succ] at hK
          try simp only [hd] at hK
          go_simp
          exact hK.out _ _ ⟨hS, trivial, rfl⟩
      · rintro v u hS hR
        simp only [holdAll, List.size_toArray, List.length_cons, List.length_nil, Nat.reduceAdd, rel, List.getD_cons_zero, List.getD_cons_succ] at hR
        obtain ⟨-, h7⟩ := (And.intro hR.1.2 hR.2 : _ ∧ _)
        have h6 := hR.1.2
        simp only [h6, h7]
        have hu : u = w2.drew := hS.1.out
        clear h6 h7 hR hS
        rw [hu]
        clear hu xK
        have h4 : Wr B g P (bs ++ [UInt8.ofNat m]) bb w2.drew := h3
        have k4 : KP B P w w2.drew := k3.drew
        obtain ⟨w4, hw4⟩ := named w2.drew
        rw [← hw4.out] at h4 k4 ⊢
        clear hw4 h3 k3 c2 hK2
        go_wp2_with fail
        go_loopw [41] (fun i wr => ∃ j : Nat, j ≤ m ∧ i = .int .i64 (j : Int) ∧ Wr B g P (bs ++ [UInt8.ofNat m] ++ txts (l.take j)) (bb || longs (l.take j)) wr ∧ KP B P w wr) (fun i _ => m - (intOf i).toNat)
        case atStart => exact ⟨0, by omega, rfl, by simpa [txts, longs] using h4, k4⟩
        case round =>
          clear h4 k4
          obtain ⟨j, hjm, rfl, h4, k4⟩ := hrel
          by_cases hj : j < m
          · have hjI : (j : Int) < (m : Int) := by omega
            have hjN : j < N := Nat.lt_of_lt_of_le hj HML.out
            have hjN' : (j : Int) < (N : Int) := by omega
            have hj0 : (0 : Int) ≤ (j : Int) := by omega
            have hjl : j < l.length := by rw [← HMN.out]; exact hjN
            have hlne : l ≠ [] := fun h0 => by rw [h0] at hjl; simp at hjl
            have hTx : Texts wr ad l := Texts.keep hl (fun _ b o' e => k4.1 b (hP hlne b o' e))
            obtain ⟨b0, o0, hade, hct⟩ := hcell wr hTx j hjN
            have hPb := hP hlne b0 o0 hade
            have hco := (k4.cell (o := o) hA).trans hc
            have hsu := txts_succ l (j := j) hjl
            have hsz1 : (l.getD j e0).size < 16777216 := by
              have hm : l.getD j e0 ∈ l := by rw [List.getD_eq_getElem?_getD, List.getElem?_eq_getElem hjl]; exact List.getElem_mem _
              exact hsz _ hm
            have hlen := txts_len (l.take j) 16777216 (fun t htt => hsz t (List.mem_of_mem_take htt))
            have hlj : (l.take j).length ≤ 255 := by have := HM255.out; rw [List.length_take]; omega
            have hbl : (bs ++ [UInt8.ofNat m] ++ txts (l.take j)).length + (l.getD j e0).size + 4 ≤ 140737488355328 := by
              rw [List.length_append, List.length_append]
              have : (l.take j).length * (16777216 + 4) ≤ 255 * (16777216 + 4) := Nat.mul_le_mul_right _ hlj
              simp only [List.length_cons, List.length_nil]
              omega
            have htx := fun (W : World) (hW : Wr B g P (bs ++ [UInt8.ofNat m] ++ txts (l.take j)) (bb || longs (l.take j)) W) (hcW : W.cell? ⟨b0, o0 + j, none⟩ = some (.string (l.getD j e0))) => wtext_w B g b0 (o0 + j) P (bs ++ [UInt8.ofNat m] ++ txts (l.take j)) (bb || longs (l.take j)) (l.getD j e0) W hW hPb hcW (by omega) hbl
            rw [List.append_assoc (bs ++ [UInt8.ofNat m]), ← hsu.1, Bool.or_assoc, ← hsu.2] at htx
            have hmt := wm_text
            have hmf := make_func
            subst hade
            clear hTx hlne hsu hsz1 hlen hlj hbl hjN hjl hmm hmn
            go_wp2_with fail
            refine region_flatS _ (fun L u => Wr B g P (cond (L 9) (bs ++ [UInt8.ofNat m] ++ txts (l.take (j + 1))) (bs ++ [UInt8.ofNat m] ++ txts (l.take j))) (cond (L 9) (bb || longs (l.take (j + 1))) (bb || longs (l.take j))) u ∧ KP B P wr u) (fun _ _ _ => True)
              (fun _ => rel [fun v _ => v = .iface 53 (.pointer (some ⟨g, 0, none⟩)),
                fun v _ => v = .pointer (some ⟨A, o, none⟩),
                fun v _ => v = .pointer (some ⟨A, o, none⟩),
                fun v _ => v = .slice (some ⟨b0, o0, none⟩) N cap,
                fun v _ => v = .int .i64 (j : Int),
                fun v _ => v = .pointer (some ⟨b0, o0 + j, none⟩),
                fun v _ => v = .func (Fn.method "lictor/wire.text") #[.iface 53 (.pointer (some ⟨g, 0, none⟩))] #[],
                fun v _ => v = .func (Fn.method "lictor/wire.text") #[.iface 53 (.pointer (some ⟨g, 0, none⟩))] #[],
                fun v _ => v = .iface 53 (.pointer (some ⟨g, 0, none⟩)),
                fun _ _ => True])
              (by kernel_rfl) (by kernel_rfl) (fun v => by simp only [putsV, Act.put, List.toList_toArray, List.setIfInBounds_toArray, List.set_cons_zero, List.set_cons_succ, Nat.reduceAdd, Nat.zero_add]; rfl) ?_ (fun _ _ _ _ _ h => h) ⟨h4, (KP.refl _ _ _).drew⟩ ?_ (fun _ _ _ _ _ _ h => h) (fun L L' u hL h => by rw [← hL 9 (by decide)]; exact h) ?_
            · intro i L j x u u' _ _ hG h
              match j with
              | 0 => exact h
              | 1 => exact h
              | 2 => exact h
              | 3 => exact h
              | 4 => exact h
              | 5 => exact h
              | 6 => exact h
              | 7 => exact h
              | 8 => exact h
              | 9 => exact h
              | _ + 10 => trivial
            · refine ⟨?_, ?_, ?_, ?_, ?_, ?_, ?_, ?_, ?_, ?_, trivial⟩
              · intro L hL hcl v u hS hd K' hK
                simp only [waited, List.toList_toArray, Region.binds, rel, List.getD_cons_zero, List.getD_cons_succ, true_imp_iff, and_true] at hd
                simp only [rel, List.getD_cons_zero, List.getD_cons_succ, Act.put, List.setIfInBounds_toArray, List.set_cons_zero, List.set_cons_succ] at hK
                try simp only [hd] at hK
                go_simp
                exact hK.out _ _ ⟨hS, trivial, rfl⟩
              · intro L hL hcl v u hS hd K' hK
                simp only [waited, List.toList_toArray, Region.binds, rel, List.getD_cons_zero, List.getD_cons_succ, true_imp_iff, and_true] at hd
                simp only [rel, List.getD_cons_zero, List.getD_cons_succ, Act.put, List.setIfInBounds_toArray, List.set_cons_zero, List.set_cons_succ] at hK
                try simp only [hd] at hK
                go_simp
                exact hK.out _ _ ⟨hS, trivial, rfl⟩
              · intro L hL hcl v u hS hd K' hK
                simp only [waited, List.toList_toArray, Region.binds, rel, List.getD_cons_zero, List.getD_cons_succ, true_imp_iff, and_true] at hd
                simp only [rel, List.getD_cons_zero, List.getD_cons_succ, Act.put, List.setIfInBounds_toArray, List.set_cons_zero, List.set_cons_succ] at hK
                try simp only [hd] at hK
                go_simp
                exact hK.out _ _ ⟨hS, trivial, rfl⟩
              · intro L hL hcl v u hS hd K' hK
                simp only [waited, List.toList_toArray, Region.binds, rel, List.getD_cons_zero, List.getD_cons_succ, true_imp_iff, and_true] at hd
                simp only [rel, List.getD_cons_zero, List.getD_cons_succ, Act.put, List.setIfInBounds_toArray, List.set_cons_zero, List.set_cons_succ] at hK
                try simp only [hd] at hK
                have x0 := (hS.2.cell (o := o) hA).trans hco
                go_simp
                exact hK.out _ _ ⟨hS, trivial, rfl⟩
              · intro L hL hcl v u hS hd K' hK
                simp only [waited, List.toList_toArray, Region.binds, rel, List.getD_cons_zero, List.getD_cons_succ, true_imp_iff, and_true] at hd
                simp only [rel, List.getD_cons_zero, List.getD_cons_succ, Act.put, List.setIfInBounds_toArray, List.set_cons_zero, List.set_cons_succ] at hK
                try simp only [hd] at hK
                go_simp
                exact hK.out _ _ ⟨hS, trivial, rfl⟩
              · intro L hL hcl v u hS hd K' hK
                simp only [waited, List.toList_toArray, Region.binds, rel, List.getD_cons_zero, List.getD_cons_succ, true_imp_iff, and_true] at hd
                simp only [rel, List.getD_cons_zero, List.getD_cons_succ, Act.put, List.setIfInBounds_toArray, List.set_cons_zero, List.set_cons_succ] at hK
                try simp only [hd] at hK
                go_simp
                exact hK.out _ _ ⟨hS, trivial, rfl⟩
              · intro L hL hcl v u hS hd K' hK
                simp only [waited, List.toList_toArray, Region.binds, rel, List.getD_cons_zero, List.getD_cons_succ, true_imp_iff, and_true] at hd
                simp only [rel, List.getD_cons_zero, List.getD_cons_succ, Act.put, List.setIfInBounds_toArray, List.set_cons_zero, List.set_cons_succ] at hK
                try simp only [hd] at hK
                go_simp
                exact hK.out _ _ ⟨hS, trivial, rfl⟩
              · intro L hL hcl v u hS hd K' hK
                simp only [waited, List.toList_toArray, Region.binds, rel, List.getD_cons_zero, List.getD_cons_succ, true_imp_iff, and_true] at hd
                simp only [rel, List.getD_cons_zero, List.getD_cons_succ, Act.put, List.setIfInBounds_toArray, List.set_cons_zero, List.set_cons_succ] at hK
                try simp only [hd] at hK
                go_simp
                exact hK.out _ _ ⟨hS, trivial, rfl⟩
              · intro L hL hcl v u hS hd K' hK
                simp only [waited, List.toList_toArray, Region.binds, rel, List.getD_cons_zero, List.getD_cons_succ, true_imp_iff, and_true] at hd
                simp only [rel, List.getD_cons_zero, List.getD_cons_succ, Act.put, List.setIfInBounds_toArray, List.set_cons_zero, List.set_cons_succ] at hK
                try simp only [hd] at hK
                go_simp
                exact hK.out _ _ ⟨hS, trivial, rfl⟩
              · intro L hL hcl v u hS hd K' hK
                simp only [waited, List.toList_toArray, Region.binds, rel, List.getD_cons_zero, List.getD_cons_succ, true_imp_iff, and_true] at hd
                simp only [rel, List.getD_cons_zero, List.getD_cons_succ, Act.put, List.setIfInBounds_toArray, List.set_cons_zero, List.set_cons_succ] at hK
                try simp only [hd] at hK
                obtain ⟨t1, t2⟩ := hS
                rw [hL] at t1
                have t1' : Wr B g P (bs ++ [UInt8.ofNat m] ++ txts (l.take j)) (bb || longs (l.take j)) u := t1
                go_simp
                refine (htx u t1' ((t2.cell hPb).trans hct)).mono ?_
                rintro e w6 ⟨rfl, h6, h7⟩
                exact hK.out _ _ ⟨⟨h6, t2.trans h7⟩, trivial, trivial⟩
            · rintro v u hS hR
              simp only [holdAll, List.size_toArray, List.length_cons, List.length_nil, Nat.reduceAdd, rel, List.getD_cons_zero, List.getD_cons_succ] at hR
              clear hR
              obtain ⟨t1, t2⟩ := hS
              replace t1 : Wr B g P (bs ++ [UInt8.ofNat m] ++ txts (l.take (j + 1))) (bb || longs (l.take (j + 1))) u := t1
              have k5 := k4.trans t2
              clear t2 k4 h4 htx hct hco
              go_wp2
              go_roundw
              case rel => exact ⟨j + 1, by omega, by first | rfl | go_num, t1, k5⟩
              case measure => simp [intOf]; omega
          · obtain rfl : j = m := by omega
            clear hj hjm
            go_wp2
            go_end0
            exact ⟨rfl, by first | exact h4 | (rw [← hbb.out]; exact h4), k4⟩
end Go.Proofs.Ytiodfbbgbnbdpaa
