/- Several small texts of this proof, one behind the other. -/
import Derived.Test.YtmnfmgoolimlmaaDoorGT
import Derived.Test.YtmnfmgoolimlmaaDoorVRecord
import Derived.Test.YtmnfmgoolimlmaaDoorVLives
section
/- value.Set at any values: what comes back is of its own memory. -/
namespace Go.Proofs.YtmnfmgoolimlmaaDoor
set_option linter.unusedSimpArgs false
set_option linter.unusedVariables false
open Go.RowKit
set_option maxRecDepth 100000 in
set_option maxHeartbeats 1000000 in
theorem indexAny_w (l : List Vt) (A : Option Addr) (c bx : Nat) (rows : List (List Value)) (w : World) (hL : Lies w A l.length 7 rows.flatten) (hV : VsAt w bx l rows) (hls : l.length * 96 ≤ mLen) (htab : Tb w) :
    Calls Tryd.prog 62 #[.slice A l.length c, .func (.func 38) #[] #[]] w fun e w' => ∃ R : Int, e = .returned (.int .i64 R) ∧ Below w.heap.size w w' := by
  have eg : ∀ args w, (callFunc 38 args).run Tryd.prog w = .ok (.enter 38 args) w := fun _ _ => by kernel_rfl
  have hls96 : l.length * 96 ≤ 140737488351232 := hls
  have HL := hide hL
  have HV := hide hV
  have HTAB := hide htab
  obtain ⟨M, hM⟩ := named l.length
  rw [← hM.out] at hls96 ⊢
  clear hL hV htab hls
  go_enter Tryd.func62, Tryd.ntmps62
  go_wp2_with (first | (at_builtin; fail))
  go_loopw [8] (fun i wr => ∃ k : Nat, k ≤ M ∧ i = .int .i64 k ∧ Below w.heap.size w wr) (fun i _ => M - (intOf i).toNat)
  case atStart => exact ⟨0, by omega, rfl, Below.refl _ _⟩
  case round =>
    obtain ⟨k, hk, rfl, hbw⟩ := hrel
    by_cases hlt : k < M
    · have hi0 : (0 : Int) ≤ (k : Int) := by omega
      have hi1 : (k : Int) < (M : Int) := by omega
      have hkl : k < l.length := by rw [← hM.out]; exact hlt
      obtain ⟨y, hy⟩ : ∃ y, l[k]? = some y := ⟨_, List.getElem?_eq_getElem hkl⟩
      obtain ⟨r, hr, hvr⟩ := vsAt_get HV.out k y hy
      have hL2 := HL.out
      obtain ⟨bb, ob, rfl, -⟩ := hL2.2 (fun h0 => by
        have h9 := (vsAt_len HV.out).2
        rw [h0] at h9
        simp only [List.length_nil] at h9
        omega)
      have hload : wr.rangeAt bb (ob + k * 7) r := fun i v hi => cells_of_lies hL2 (vsAt_all7 HV.out) hr wr hbw i v hi
      have h7 := vAt_len hvr
      have hcall := setBad_of r h7 (checkT y) wr (fun U hU => check_n y bx r U (hvr.below (bt hbw hU)) (HTAB.out.below (bt hbw hU)))
      obtain ⟨C, hC⟩ := named (checkT y == 7)
      rw [← hC.out] at hcall
      clear hC hL2 hr hvr hy
      go_wp2_with (first | (refine wpList_load_mid rfl 37 _ rfl bb (ob + k * 7) rfl r _ hload Tryd.underlying37 rfl (kV7l h7) ?_) | (at_builtin; fail))
      refine hcall.mono ?_
      rintro e w1 ⟨rfl, hb1⟩
      have hb2 := bt hbw hb1
      cases C with
      | true =>
        go_wp2_with (first | (at_builtin; fail))
        go_ret
        first | exact ⟨_, rfl, hb2⟩ | exact ⟨⟨_, rfl⟩, hb2⟩ | exact hb2
      | false =>
        go_wp2_with (first | (at_builtin; fail))
        go_roundw
        case rel => exact ⟨k + 1, by omega, by go_num, hb2⟩
        case measure => simp [intOf]; omega
    · have hi1 : ¬ (k : Int) < (M : Int) := by omega
      go_wp2_with (first | (at_builtin; fail))
      go_ret
      first | exact ⟨_, rfl, hbw⟩ | exact ⟨⟨_, rfl⟩, hbw⟩ | exact hbw
set_option maxRecDepth 100000 in
theorem containsAny_w (l : List Vt) (A : Option Addr) (c bx : Nat) (rows : List (List Value)) (w : World) (hL : Lies w A l.length 7 rows.flatten) (hV : VsAt w bx l rows) (hls : l.length * 96 ≤ mLen) (htab : Tb w) :
    Calls Tryd.prog 37 #[.slice A l.length c, .func (.func 38) #[] #[]] w fun e w' => ∃ R : Bool, e = .returned (.bool R) ∧ Below w.heap.size w w' := by
  have h := indexAny_w l A c bx rows w hL hV hls htab
  obtain ⟨M, hM⟩ := named l.length
  rw [← hM.out] at h ⊢
  clear hL hV htab hls hM
  go_enter Tryd.func37, Tryd.ntmps37
  go_wp2_with (first | (at_builtin; fail))
  refine h.mono ?_
  rintro e w1 ⟨R, rfl, hb⟩
  go_wp2_with (first | (at_builtin; fail))
  go_ret
  first | exact ⟨_, rfl, hb⟩ | exact ⟨⟨_, rfl⟩, hb⟩ | exact hb
/-! ### Nothing to sort -/
set_option maxRecDepth 100000 in
theorem ins_none (cap : Nat) (cmp : Value) (w : World) : Calls Tryd.prog 75 #[.slice none 0 cap, .int .i64 0, .int .i64 0, cmp] w fun e w' => e = .returned (.tuple #[]) ∧ w' = w := by
  go_enter Tryd.func75, Tryd.ntmps75
  go_wp2_with (first | (at_builtin; fail))
  go_loopw [8] (fun s wr => s = .int .i64 1 ∧ wr = w) (fun _ _ => 0)
  case atStart => exact ⟨rfl, rfl⟩
  case round =>
    obtain ⟨rfl, rfl⟩ := hrel
    go_wp2_with (first | (at_builtin; fail))
    go_end0
    exact ⟨rfl, rfl⟩
set_option maxRecDepth 100000 in
theorem stable_none (cap : Nat) (cmp : Value) (w : World) : Calls Tryd.prog 64 #[.slice none 0 cap, .int .i64 0, cmp] w fun e w' => e = .returned (.tuple #[]) ∧ w' = w := by
  have hins := ins_none cap cmp
  go_enter Tryd.func64, Tryd.ntmps64
  go_wp2_with (first | (at_builtin; fail))
  go_loopw [7, 8] (fun s t wr => s = .int .i64 0 ∧ t = .int .i64 20 ∧ wr = w) (fun _ _ _ => 0)
  case atStart => exact ⟨rfl, rfl, rfl⟩
  case round =>
    obtain ⟨rfl, rfl, rfl⟩ := hrel
    go_wp2_with (first | (at_builtin; fail))
    refine (hins _).mono ?_
    rintro e w1 ⟨rfl, rfl⟩
    go_wp2_with (first | (at_builtin; fail))
    go_loopw [6] (fun s wr => s = .int .i64 20 ∧ wr = w1) (fun _ _ => 0)
    case atStart => exact ⟨rfl, rfl⟩
    case round =>
      obtain ⟨rfl, rfl⟩ := hrel
      go_wp2_with (first | (at_builtin; fail))
      go_end0
      exact ⟨rfl, rfl⟩
set_option maxRecDepth 100000 in
theorem sortStable_none (cap : Nat) (cmp : Value) (w : World) : Calls Tryd.prog 40 #[.slice none 0 cap, cmp] w fun e w' => e = .returned (.tuple #[]) ∧ w' = w := by
  have hs := stable_none cap cmp w
  go_enter Tryd.func40, Tryd.ntmps40
  go_wp2_with (first | (at_builtin; fail))
  refine hs.mono ?_
  rintro e w1 ⟨rfl, rfl⟩
  go_wp2_with (first | (at_builtin; fail))
  go_end0
  exact ⟨rfl, rfl⟩
set_option maxRecDepth 100000 in
theorem compact_none (cap : Nat) (eq : Value) (w : World) : Calls Tryd.prog 41 #[.slice none 0 cap, eq] w fun e w' => e = .returned (.slice none 0 cap) ∧ w' = w := by
  go_enter Tryd.func41, Tryd.ntmps41
  go_wp2_with (first | (at_builtin; fail))
  go_ret
  exact ⟨rfl, rfl⟩
/-- A slice of values that may be spoilt: rows from a block's head on, or none. -/
def Spoil (w : World) (base : Nat) (v : Value) : Prop := (∃ c, v = .slice none 0 c) ∨ ∃ g n c, v = .slice (some ⟨g, 0, none⟩) n c ∧ base ≤ g ∧ RowsAt w g n ∧ n ≤ 1466015503701
theorem Spoil.below {w w' : World} {base : Nat} {v : Value} (h : Spoil w base v) (hb : Below w.heap.size w w') : Spoil w' base v := by
  rcases h with h | ⟨g, n, c, e, h1, h2, h3⟩
  · exact .inl h
  · exact .inr ⟨g, n, c, e, h1, h2.below hb, h3⟩
theorem OwnAt.spoil {w : World} {base : Nat} {v : Value} {l : List Vt} (h : OwnAt w base v l) (hn : l.length * 96 ≤ mLen) : Spoil w base v := by
  rcases h with ⟨rfl, rfl⟩ | ⟨g, cap, vs, rows, rfl, hg, hk, hc, hr, hv, hw⟩
  · exact .inl ⟨0, rfl⟩
  · refine .inr ⟨g, _, cap, rfl, hg, fun j hj => ?_, by unfold mLen at hn; omega⟩
    obtain ⟨r, hr1, hv1⟩ := vsAt_get hv j _ (List.getElem?_eq_getElem hj)
    have h7 := vAt_len hv1
    refine ⟨_, r, fun i v hi => (hk.cell _).trans (hr j r i v hr1 hi), hv1, fun i hi => ?_, hw r (List.mem_of_getElem? hr1)⟩
    exact ⟨by rw [hk.cell, hr j r i _ hr1 (List.getElem?_eq_getElem (by omega))]; rfl, hk.free _⟩
theorem rows_vs {w : World} {g n : Nat} (h : RowsAt w g n) : ∃ (l : List Vt) (rows : List (List Value)), l.length = n ∧ Lies w (some ⟨g, 0, none⟩) n 7 rows.flatten ∧ VsAt w (g + 1) l rows := by
  have hfam : ∀ m, m ≤ n → ∃ (l : List Vt) (rows : List (List Value)), l.length = m ∧ rows.length = m ∧ (∀ i x r, l[i]? = some x → rows[i]? = some r → w.rangeAt g (i * 7) r ∧ VAt w (g + 1) x r) := by
    intro m
    induction m with
    | zero => intro _; exact ⟨[], [], rfl, rfl, fun i x r h => by cases h⟩
    | succ m ih =>
      intro hm
      obtain ⟨l, rows, h1, h2, h3⟩ := ih (by omega)
      obtain ⟨x, r, k1, k2, -⟩ := h m (by omega)
      refine ⟨l ++ [x], rows ++ [r], by simp [h1], by simp [h2], fun i y q hy hq => ?_⟩
      rcases Nat.lt_or_ge i m with hi | hi
      · rw [List.getElem?_append_left (by omega)] at hy hq
        exact h3 i y q hy hq
      · rw [List.getElem?_append_right (by omega)] at hy hq
        rw [h1] at hy
        rw [h2] at hq
        cases hj : i - m with
        | zero =>
          rw [hj] at hy hq
          simp only [List.getElem?_cons_zero, Option.some.injEq] at hy hq
          subst hy hq
          rw [show i = m by omega]
          exact ⟨k1, k2⟩
        | succ j => rw [hj] at hy; cases hy
  obtain ⟨l, rows, h1, h2, h3⟩ := hfam n (Nat.le_refl _)
  have hV : VsAt w (g + 1) l rows := vsAt_mk (by omega) fun i x r hx hr => (h3 i x r hx hr).2
  refine ⟨l, rows, h1, ⟨by rw [(vsAt_len hV).2, h1], fun _ => ⟨g, 0, rfl, fun j v hj => ?_⟩⟩, hV⟩
  obtain ⟨r, hr1, hr2⟩ := flat_get (vsAt_all7 hV) j v hj
  have hq : j / 7 < l.length := by have := (List.getElem?_eq_some_iff.1 hr1).1; omega
  have := (h3 (j / 7) _ r (List.getElem?_eq_getElem hq) hr1).1 (j % 7) v hr2
  rw [Nat.zero_add]
  rw [show j / 7 * 7 + j % 7 = j by omega] at this
  exact this
theorem RowsAt.grown {w w' : World} {g n q : Nat} (h : RowsAt w g n) (hg : w.grownBy w' (some q)) (hq : q < g) : RowsAt w' g n := by
  intro j hj
  obtain ⟨x, r, h1, h2, h3, h4⟩ := h j hj
  have hka : KA g w w' := fun p v hp hc => hg.cell hc (fun e => by have := Option.some.inj e; omega)
  have hlt : g < w.heap.size := by
    obtain ⟨v, hv⟩ := Option.isSome_iff_exists.1 (h3 0 (by omega)).1
    exact World.block_lt_of_cell? w _ hv
  have hb := hg.block g hlt (fun e => by have := Option.some.inj e; omega)
  refine ⟨x, r, fun i v hi => hg.cell (h1 i v hi) (fun e => by have h9 : g = q := Option.some.inj e; omega), h2.ka hka, fun i hi => ?_, fun A m c e => (h4 A m c e).grown hg (fun a ha e2 => ?_)⟩
  · obtain ⟨k1, k2⟩ := h3 i hi
    unfold World.cell? at k1 ⊢
    unfold World.frozen? at k2 ⊢
    rw [hb]
    exact ⟨k1, k2⟩
  · cases x
    rw [VAt] at h2
    obtain ⟨A', c', B', d', rows', rfl, _, _, _, _, ⟨_, h5⟩, _⟩ := h2
    cases e
    have := h5 a ha
    have := Option.some.inj e2
    omega
theorem Spoil.grown {w w' : World} {base q : Nat} {v : Value} (h : Spoil w base v) (hg : w.grownBy w' (some q)) (hq : q < base) : Spoil w' base v := by
  rcases h with h | ⟨g, n, c, e, h1, h2, h3⟩
  · exact .inl h
  · exact .inr ⟨g, n, c, e, h1, h2.grown hg (by omega), h3⟩
theorem vRow_one {k : Nat} {b : Bool} {z : Int} {s t : ByteArray} {N L : Value} (hN : N.oneCell' = true) (hL : L.oneCell' = true) : ∀ v ∈ vRow k b z s t N L, v.oneCell' = true := by
  intro v hv
  simp only [vRow, List.mem_cons, List.not_mem_nil, or_false] at hv
  rcases hv with rfl | rfl | rfl | rfl | rfl | rfl | rfl <;> first | rfl | assumption
set_option maxRecDepth 100000 in
set_option maxHeartbeats 2000000 in
theorem set_n (l : List Vt) (A : Option Addr) (c bx : Nat) (rows : List (List Value)) (w : World) (hL : Lies w A l.length 7 rows.flatten) (hV : VsAt w bx l rows) (hls : l.length * 96 ≤ mLen) (htab : Tb w) :
    Calls Tryd.prog 16 #[.slice A l.length c] w fun e w' => Below w.heap.size w w' ∧ ∃ (k : Nat) (L : Value) (why : Int), e = .returned (.tuple #[.agg (vRow k false 0 ⟨#[]⟩ ⟨#[]⟩ (.slice none 0 0) L).toArray, .int .i64 why]) ∧ L.oneCell' = true ∧ Spoil w' (w.heap.size + 1) L := by
  have k2 := Blk.new w zeroRow 37
  have b2 := below_alloc w (.cells zeroRow.toArray 37)
  have s2 : (w.alloc (.cells zeroRow.toArray 37)).heap.size = w.heap.size + 1 := Array.size_push _
  obtain ⟨W, HW⟩ := named (w.alloc (.cells zeroRow.toArray 37))
  have HW2 : W = w.alloc (.cells #[.int .u8 0, .bool false, .int .i64 0, .string ⟨#[]⟩, .string ⟨#[]⟩, .slice none 0 0, .slice none 0 0] 37) := HW.out
  have HW3 := hide HW2
  clear HW2
  rw [← HW.out] at k2 b2 s2
  have hcon := containsAny_w l A c bx rows W (hL.below b2) (hV.below b2) hls (htab.below b2)
  have hown := fun U (hU : Below w.heap.size w U) => own_n _ l rfl bx A c rows U (hL.below hU) (hV.below hU) hls
  have HOWN := hide hown
  have HTAB := hide htab
  have hls96 : l.length * 96 ≤ 140737488351232 := hls
  obtain ⟨M, hM⟩ := named l.length
  rw [← hM.out] at hcon hls96 ⊢
  clear hL hV htab hls hown HW
  go_enter Tryd.func16, Tryd.ntmps16
  go_upto_region 1 with (go_quiet (fail))
  rw [← HW3.out]
  clear HW3
  go_wp2_with (first | (at_builtin; fail))
  refine hcon.mono ?_
  rintro e w1 ⟨R, rfl, hb1⟩
  have b3 := bt b2 hb1
  replace k2 := k2.below hb1
  have hw1s := hb1.size
  clear hcon
  cases R with
  | true =>
    go_wp2_with (first | refine wpList_store_row rfl 37 _ _ rfl _ zeroRow.toArray rfl rfl 37 zeroRow.toArray k2 (kV7 rfl) rfl (by kernel_rfl) ?_ | (at_builtin; fail))
    refine bodyPost_ret (vret2 rfl _ rfl (k2.vrow zeroRow) rfl rfl) rfl ⟨below_vrow b3 (Nat.le_refl _) _, 0, _, 7, rfl, rfl, .inl ⟨0, rfl⟩⟩
  | false =>
    have hown := HOWN.out w1 b3
    rw [← hM.out] at hown
    go_wp2_with (first | (at_builtin; fail))
    refine hown.mono ?_
    rintro e w2 ⟨v2, rfl, ho2, hb2⟩
    have b4 := bt b3 hb2
    replace k2 := k2.below hb2
    clear hown HOWN
    rcases ho2 with ⟨hl0, rfl⟩ | ⟨g, cap, vs, rows2, rfl, hg, hk, hcap, hri, hv2, hw2⟩
    · have hs := fun U => sortStable_none 0 (.func (.func 34) #[] #[]) U
      have hc := fun U => compact_none 0 (.func (.func 42) #[] #[]) U
      go_wp2_with (first | (at_builtin; fail))
      refine (hs _).mono ?_
      rintro e w3 ⟨rfl, rfl⟩
      go_wp2_with (first | (at_builtin; fail))
      refine (hc _).mono ?_
      rintro e w4 ⟨rfl, rfl⟩
      have hvat : VAt w4 0 (.mk 4 false 0 ⟨#[]⟩ ⟨#[]⟩ [] []) (vRow 4 false 0 ⟨#[]⟩ ⟨#[]⟩ (.slice none 0 0) (.slice none 0 0)) := by
        rw [VAt]
        exact ⟨none, 0, none, 0, [], rfl, ⟨by decide, by decide, by decide, by decide, by decide⟩, Lies.nil _ _ _, (fun x h => by cases h), ⟨by decide, by decide, by decide, by decide⟩, ⟨(fun a h => by cases h), (fun a h => by cases h)⟩, Lies.nil _ _ _, by rw [VsAt]⟩
      have hck := checked_of (vRow 4 false 0 ⟨#[]⟩ ⟨#[]⟩ (.slice none 0 0) (.slice none 0 0)) rfl (vRow_one rfl rfl) (checkT (.mk 4 false 0 ⟨#[]⟩ ⟨#[]⟩ [] [])) w4 (fun U hU => check_n _ _ _ U (hvat.below hU) (HTAB.out.below (bt b4 hU)))
      obtain ⟨C, hC⟩ := named (checkT (.mk 4 false 0 ⟨#[]⟩ ⟨#[]⟩ [] []))
      rw [← hC.out] at hck
      clear hC
      have hsp : Spoil w4 (w.heap.size + 1) (.slice none 0 0) := .inl ⟨0, rfl⟩
      go_wp2_with (first | (at_builtin; fail))
      refine hck.mono ?_
      rintro e w7 ⟨rfl, hb7⟩
      have k27 := k2.below hb7
      have b7 := bt b4 hb7
      have hsp7 := hsp.below hb7
      clear hck
      by_cases hC0 : C = 0
      · rw [if_pos hC0]
        go_wp2_with (first | refine wpList_store_row rfl 37 _ _ rfl _ (vRow 4 false 0 ⟨#[]⟩ ⟨#[]⟩ (.slice none 0 0) (.slice none 0 0)).toArray rfl rfl 37 zeroRow.toArray k27 (kV7 rfl) rfl (all_one (vRow_one rfl rfl)) ?_ | (at_builtin; fail))
        refine bodyPost_ret (vret2 rfl _ rfl (k27.vrow (vRow 4 false 0 ⟨#[]⟩ ⟨#[]⟩ (.slice none 0 0) (.slice none 0 0))) rfl rfl) rfl ⟨below_vrow b7 (Nat.le_refl _) _, 4, _, 0, rfl, rfl, hsp7.grown (grown_setRow w7 w.heap.size _) (Nat.lt_succ_self _)⟩
      · rw [if_neg hC0]
        go_wp2_with (first | refine wpList_store_row rfl 37 _ _ rfl _ zeroRow.toArray rfl rfl 37 zeroRow.toArray k27 (kV7 rfl) rfl (by kernel_rfl) ?_ | (at_builtin; fail))
        refine bodyPost_ret (vret2 rfl _ rfl (k27.vrow zeroRow) rfl rfl) rfl ⟨below_vrow b7 (Nat.le_refl _) _, 0, _, C, rfl, rfl, .inl ⟨0, rfl⟩⟩
    · have hgw : w.heap.size < g := by omega
      have hRA : RowsAt w2 g M := by
        intro j hj
        have hjl : j < l.length := by rw [← hM.out]; exact hj
        obtain ⟨r, hr1, hv1⟩ := vsAt_get hv2 j _ (List.getElem?_eq_getElem hjl)
        have h7 := vAt_len hv1
        refine ⟨_, r, fun i v hi => (hk.cell _).trans (hri j r i v hr1 hi), hv1, fun i hi => ?_, hw2 r (List.mem_of_getElem? hr1)⟩
        exact ⟨by rw [hk.cell, hri j r i _ hr1 (List.getElem?_eq_getElem (by omega))]; rfl, hk.free _⟩
      have hMn : M ≤ 1466015503701 := by omega
      have hcapM : M ≤ cap := by rw [hM.out]; exact hcap
      have hs := sortStable_n g M cap w2 hRA hMn
      rw [← hM.out]
      clear hk hri hv2 hw2 hcap
      go_wp2_with (first | (at_builtin; fail))
      refine hs.mono ?_
      rintro e w3 ⟨rfl, hR3, hg3⟩
      have hc := compact_n g M cap w3 hR3 hMn hcapM
      clear hs hRA
      go_wp2_with (first | (at_builtin; fail))
      refine hc.mono ?_
      rintro e w4 ⟨m, hmM, rfl, hR4, hg4⟩
      clear hc hR3
      have hg5 := hg3.trans hg4
      have b5 := b4.grown hg5 b4.size (fun j hj => by have := Option.some.inj hj; omega)
      have k25 : Blk w4 w.heap.size zeroRow 37 := (hg5.block _ k2.lt (fun e => by have := Option.some.inj e; omega)).trans k2
      obtain ⟨l', rows', hl', hL', hV'⟩ := rows_vs hR4
      have hvat : VAt w4 0 (.mk 4 false 0 ⟨#[]⟩ ⟨#[]⟩ [] l') (vRow 4 false 0 ⟨#[]⟩ ⟨#[]⟩ (.slice none 0 0) (.slice (some ⟨g, 0, none⟩) m cap)) := by
        rw [VAt]
        exact ⟨none, 0, some ⟨g, 0, none⟩, cap, rows', by rw [hl']; rfl, ⟨by decide, by decide, by decide, by decide, by decide⟩, Lies.nil _ _ _, (fun x h => by cases h), ⟨by decide, by decide, by unfold mLen; omega, by omega⟩, ⟨(fun a h => by cases h), fun a h => Nat.zero_le _⟩, by rw [hl']; exact hL', hV'.mono (Nat.zero_le _)⟩
      have hck := checked_of (vRow 4 false 0 ⟨#[]⟩ ⟨#[]⟩ (.slice none 0 0) (.slice (some ⟨g, 0, none⟩) m cap)) rfl (vRow_one rfl rfl) (checkT (.mk 4 false 0 ⟨#[]⟩ ⟨#[]⟩ [] l')) w4 (fun U hU => check_n _ _ _ U (hvat.below hU) (HTAB.out.below (bt b5 hU)))
      obtain ⟨C, hC⟩ := named (checkT (.mk 4 false 0 ⟨#[]⟩ ⟨#[]⟩ [] l'))
      rw [← hC.out] at hck
      clear hC
      have hsp : Spoil w4 (w.heap.size + 1) (.slice (some ⟨g, 0, none⟩) m cap) := .inr ⟨g, m, cap, rfl, hgw, hR4, by omega⟩
      go_wp2_with (first | (at_builtin; fail))
      refine hck.mono ?_
      rintro e w7 ⟨rfl, hb7⟩
      have k27 := k25.below hb7
      have b7 := bt b5 hb7
      have hsp7 := hsp.below hb7
      clear hck
      by_cases hC0 : C = 0
      · rw [if_pos hC0]
        go_wp2_with (first | refine wpList_store_row rfl 37 _ _ rfl _ (vRow 4 false 0 ⟨#[]⟩ ⟨#[]⟩ (.slice none 0 0) (.slice (some ⟨g, 0, none⟩) m cap)).toArray rfl rfl 37 zeroRow.toArray k27 (kV7 rfl) rfl (all_one (vRow_one rfl rfl)) ?_ | (at_builtin; fail))
        refine bodyPost_ret (vret2 rfl _ rfl (k27.vrow (vRow 4 false 0 ⟨#[]⟩ ⟨#[]⟩ (.slice none 0 0) (.slice (some ⟨g, 0, none⟩) m cap))) rfl rfl) rfl ⟨below_vrow b7 (Nat.le_refl _) _, 4, _, 0, rfl, rfl, hsp7.grown (grown_setRow w7 w.heap.size _) (Nat.lt_succ_self _)⟩
      · rw [if_neg hC0]
        go_wp2_with (first | refine wpList_store_row rfl 37 _ _ rfl _ zeroRow.toArray rfl rfl 37 zeroRow.toArray k27 (kV7 rfl) rfl (by kernel_rfl) ?_ | (at_builtin; fail))
        refine bodyPost_ret (vret2 rfl _ rfl (k27.vrow zeroRow) rfl rfl) rfl ⟨below_vrow b7 (Nat.le_refl _) _, 0, _, C, rfl, rfl, .inl ⟨0, rfl⟩⟩
end Go.Proofs.YtmnfmgoolimlmaaDoor
end
section
/- Values of one's own, spoilt: what stays. -/
namespace Go.Proofs.YtmnfmgoolimlmaaDoor
set_option linter.unusedSimpArgs false
set_option linter.unusedVariables false
open Go.RowKit
/-- A slice of values whose numbers, and their parts' numbers, may be written; its blocks lie from base on, below top. -/
def Mut (w : World) (base top : Nat) (L : Value) : Prop :=
  (∃ c, L = .slice none 0 c) ∨ ∃ g n c, L = .slice (some ⟨g, 0, none⟩) n c ∧ n ≤ 1466015503701 ∧ ∀ j, j < n → base ≤ g ∧ g < top ∧ (∃ z, w.cell? ⟨g, j * 7 + 2, none⟩ = some (.int .i64 z)) ∧ w.frozen? ⟨g, j * 7 + 2, none⟩ = false ∧
    ∃ A m c', w.cell? ⟨g, j * 7 + 6, none⟩ = some (.slice A m c') ∧ m ≤ 1466015503701 ∧ ∀ k, k < m → ∃ b, A = some ⟨b, 0, none⟩ ∧ base ≤ b ∧ b < top ∧ (∃ z, w.cell? ⟨b, k * 7 + 2, none⟩ = some (.int .i64 z)) ∧ w.frozen? ⟨b, k * 7 + 2, none⟩ = false
theorem cell_two {w : World} {b o q t : Nat} {z z' : Int} (h : w.cell? ⟨b, o, none⟩ = some (.int .i64 z)) : ∃ y, (w.setCell ⟨q, t, none⟩ (.int .i64 z')).cell? ⟨b, o, none⟩ = some (.int .i64 y) := by
  by_cases e : (⟨q, t, none⟩ : Addr) = ⟨b, o, none⟩
  · cases e
    refine ⟨z', ?_⟩
    unfold World.cell? World.setCell at *
    simp only [Option.isSome_none, Bool.false_eq_true, if_false] at h ⊢
    rw [Array.getElem?_modify, if_pos rfl]
    cases hb : w.heap[b]? with
    | none => rw [hb] at h; cases h
    | some ob =>
      rw [hb] at h
      cases ob with
      | cells cs ty fr =>
        simp only [Option.map_some] at h ⊢
        have hlt := (Array.getElem?_eq_some_iff.1 h).1
        simp [hlt]
      | _ => cases h
  · exact ⟨z, (World.cell?_setCell_other w ⟨q, t, none⟩ ⟨b, o, none⟩ _ e).trans h⟩
theorem Mut.set {w : World} {base top : Nat} {L : Value} (h : Mut w base top L) (q t : Nat) (z : Int) : Mut (w.setCell ⟨q, t * 7 + 2, none⟩ (.int .i64 z)) base top L := by
  rcases h with h | ⟨g, n, c, e, hn, h⟩
  · exact .inl h
  · refine .inr ⟨g, n, c, e, hn, fun j hj => ?_⟩
    obtain ⟨h1, h2, ⟨y, h3⟩, h4, A, m, c', h5, h6, h7⟩ := h j hj
    refine ⟨h1, h2, cell_two h3, by rw [World.frozen?_setCell]; exact h4, A, m, c', (World.cell?_setCell_other w ⟨q, t * 7 + 2, none⟩ ⟨g, j * 7 + 6, none⟩ _ (fun e => by have h9 := congrArg Addr.off e; simp only at h9; omega)).trans h5, h6, fun k hk => ?_⟩
    obtain ⟨b, k1, k2, k3, ⟨y', k4⟩, k5⟩ := h7 k hk
    exact ⟨b, k1, k2, k3, cell_two k4, by rw [World.frozen?_setCell]; exact k5⟩
theorem frozen_below {w w' : World} (hb : Below w.heap.size w w') {a : Addr} (hlt : a.block < w.heap.size) : w'.frozen? a = w.frozen? a := by
  unfold World.frozen?
  rw [hb.block a.block hlt]
theorem Mut.below {w w' : World} {base top : Nat} {L : Value} (h : Mut w base top L) (hb : Below w.heap.size w w') : Mut w' base top L := by
  rcases h with h | ⟨g, n, c, e, hn, h⟩
  · exact .inl h
  · refine .inr ⟨g, n, c, e, hn, fun j hj => ?_⟩
    obtain ⟨h1, h2, ⟨y, h3⟩, h4, A, m, c', h5, h6, h7⟩ := h j hj
    refine ⟨h1, h2, ⟨y, cell_below' h3 hb⟩, by rw [frozen_below hb (World.block_lt_of_cell? w _ h3)]; exact h4, A, m, c', cell_below' h5 hb, h6, fun k hk => ?_⟩
    obtain ⟨b, k1, k2, k3, ⟨y', k4⟩, k5⟩ := h7 k hk
    exact ⟨b, k1, k2, k3, ⟨y', cell_below' k4 hb⟩, by rw [frozen_below hb (World.block_lt_of_cell? w _ k4)]; exact k5⟩
theorem Mut.top {w : World} {base top top' : Nat} {L : Value} (h : Mut w base top L) (ht : top ≤ top') : Mut w base top' L := by
  rcases h with h | ⟨g, n, c, e, hn, h⟩
  · exact .inl h
  · refine .inr ⟨g, n, c, e, hn, fun j hj => ?_⟩
    obtain ⟨h1, h2, h3, h4, A, m, c', h5, h6, h7⟩ := h j hj
    exact ⟨h1, by omega, h3, h4, A, m, c', h5, h6, fun k hk => by obtain ⟨b, k1, k2, k3, k4⟩ := h7 k hk; exact ⟨b, k1, k2, by omega, k4⟩⟩
theorem Spoil.mut {w : World} {base base' : Nat} {L : Value} (h : Spoil w base L) (hb : base' ≤ base) : Mut w base' w.heap.size L := by
  rcases h with h | ⟨g, n, c, e, hg, hR, hn⟩
  · exact .inl h
  · refine .inr ⟨g, n, c, e, hn, fun j hj => ?_⟩
    obtain ⟨x, r, h1, h2, h3, h4⟩ := hR j hj
    have hlt : g < w.heap.size := by
      obtain ⟨v, hv⟩ := Option.isSome_iff_exists.1 (h3 0 (by omega)).1
      exact World.block_lt_of_cell? w _ hv
    obtain ⟨k, b, z, s, t, ns, l⟩ := x
    rw [VAt] at h2
    obtain ⟨A, ca, B, cb, rows, rfl, _, _, _, ⟨_, _, hls, _⟩, ⟨_, h5⟩, hL, hV⟩ := h2
    refine ⟨by omega, hlt, ⟨z, h1 2 _ rfl⟩, (h3 2 (by omega)).2, B, l.length, cb, h1 6 _ rfl, by unfold mLen at hls; omega, fun q hq => ?_⟩
    have h7 := vsAt_all7 hV
    obtain ⟨r', hr', hv'⟩ := vsAt_get hV q _ (List.getElem?_eq_getElem hq)
    have hf := flat_at h7 q 2 r' (r'[2]'(by have := vAt_len hv'; omega)) hr' (List.getElem?_eq_getElem _)
    obtain ⟨b', o, e1, hc⟩ := hL.2 (by intro h0; rw [h0] at hf; cases hf)
    have hw := h4 B l.length cb rfl ⟨b', o, none⟩ e1
    have ho : o = 0 := by have := hw.1; cases this; rfl
    subst ho
    have hcell := hc _ _ hf
    rw [Nat.zero_add] at hcell
    have hw2 := hw.2 (q * 7 + 2) (by omega)
    rw [addr_add, Nat.zero_add] at hw2
    have hb5 := h5 _ e1
    refine ⟨b', e1, by have h9 : g + 1 ≤ b' := hb5; omega, World.block_lt_of_cell? w _ hcell, ?_, hw2.2⟩
    generalize l[q] = x at hv'
    obtain ⟨k', b2, z', s', t', ns', l2⟩ := x
    rw [VAt] at hv'
    obtain ⟨A', ca', B', cb', rows2, rfl, _⟩ := hv'
    exact ⟨z', hcell⟩
/-- The two results, side by side in a block; they may be spoilt. -/
def Two (w : World) (base gb : Nat) : Prop := ∀ i, i < 2 → ∃ k N L, w.rangeAt gb (i * 7) (vRow k false 0 ⟨#[]⟩ ⟨#[]⟩ N L) ∧ N.oneCell' = true ∧ L.oneCell' = true ∧ Mut w base gb L
theorem Two.set {w : World} {base gb : Nat} (h : Two w base gb) {q t : Nat} (hq : q ≠ gb) (z : Int) : Two (w.setCell ⟨q, t * 7 + 2, none⟩ (.int .i64 z)) base gb := by
  intro i hi
  obtain ⟨k, N, L, h1, h2, h3, h4⟩ := h i hi
  exact ⟨k, N, L, fun j v hj => (World.cell?_setCell_other w ⟨q, t * 7 + 2, none⟩ ⟨gb, i * 7 + j, none⟩ _ (fun e => hq (congrArg Addr.block e))).trans (h1 j v hj), h2, h3, h4.set q t z⟩
theorem Two.below {w w' : World} {base gb : Nat} (h : Two w base gb) (hb : Below w.heap.size w w') : Two w' base gb := by
  intro i hi
  obtain ⟨k, N, L, h1, h2, h3, h4⟩ := h i hi
  exact ⟨k, N, L, fun j v hj => cell_below' (h1 j v hj) hb, h2, h3, h4.below hb⟩
theorem record_own (ns : List ByteArray) (l : List Vt) (A B : Option Addr) (ca cb bx : Nat) (rows : List (List Value)) (w : World) (hT : Texts w A ns) (hnz : ∀ x ∈ ns, x.size ≤ mLen) (hns : ns.length * 16 ≤ mLen)
    (hL : Lies w B l.length 7 rows.flatten) (hV : VsAt w bx l rows) (hls : l.length * 96 ≤ mLen) (htab : Tb w) :
    Calls Tryd.prog 17 #[.slice A ns.length ca, .slice B l.length cb] w fun e w' => Below w.heap.size w w' ∧ ∃ (k : Nat) (N L : Value) (why : Int), e = .returned (.tuple #[.agg (vRow k false 0 ⟨#[]⟩ ⟨#[]⟩ N L).toArray, .int .i64 why]) ∧ N.oneCell' = true ∧ L.oneCell' = true ∧ Spoil w' (w.heap.size + 1) L := by
  refine (record_w ns l A B ca cb bx rows w hT hnz hns hL hV hls htab).mono ?_
  rintro e w' ⟨hb, ⟨why, -, rfl⟩ | ⟨-, -, ms, l', r', -, hll, -, -, hv, ⟨N, v5, rfl, ho⟩, rfl⟩⟩
  · exact ⟨hb, 0, _, _, why, rfl, rfl, rfl, .inl ⟨0, rfl⟩⟩
  · exact ⟨hb, 5, N, v5, 0, rfl, vAt_one hv N (by simp [vRow]), vAt_one hv v5 (by simp [vRow]), ho.spoil (by rw [hll]; exact hls)⟩
end Go.Proofs.YtmnfmgoolimlmaaDoor
end
