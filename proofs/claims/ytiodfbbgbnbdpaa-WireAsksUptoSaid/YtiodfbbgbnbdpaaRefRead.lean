/- lictorref19.ReadAsk. -/
import Derived.Test.YtiodfbbgbnbdpaaGG
import Derived.Test.YtiodfbbgbnbdpaaRefWAll
import Derived.Test.YtiodfbbgbnbdpaaGH
import Derived.Laws.ResultCell
namespace Go.Proofs.Ytiodfbbgbnbdpaa
set_option linter.unusedSimpArgs false
set_option linter.unusedVariables false
open Go.RowKit
open Crc
theorem row_ret {P : Program} {fn : Func} {p u : Tmp} {ty : TypeId} (h : fn.results = #[.cell p ty, .tmp u]) (tmps : Array Value) (w : World) (A : Addr) (v x : Value)
    (hp : tmps.getD p undef = .pointer (some A)) (hl : (loadVar ty A).run P w = .ok v w) (hx : tmps.getD u undef = x) : (results fn tmps).run P w = .ok (.tuple #[v, x]) w := by
  rw [results_cell_tmp h, hp, hx]
  have h1 : (asAddr (.pointer (some A))).run P w = .ok A w := rfl
  rw [h1]
  simp only [Result.andThen, hl]
theorem kASK : (Try.prog.info? 30).map (·.size) = some 15 := by kernel_rfl
theorem beq_u8 (k c : UInt8) : ((k.toNat : Int) == (c.toNat : Int)) = decide (k = c) := by
  have h := u8_iff k c
  by_cases hc : k = c
  · rw [decide_eq_true hc]; simpa using h.2 hc
  · rw [decide_eq_false hc]; simpa using fun e => hc (h.1 e)
theorem refA_cons (k : UInt8) (r : List UInt8) : refA (k :: r) = refFin (k :: r) (refAsk k r) := rfl
theorem refAsk_2 {k : UInt8} {r : List UInt8} (h : k = 2) : refAsk k r = (match unpackL (numL r).2.1 with | some [c] => some (withC (withN (askOf k) (numL r).1) (some c), (numL r).2.2) | _ => none) := if_pos h
theorem refAsk_3 {k : UInt8} {r : List UInt8} (h : k = 3 ∨ k = 4) : refAsk k r = some (withN (askOf k) (numL r).1, (numL r).2.2) := by
  unfold refAsk
  rw [if_neg (by rintro rfl; rcases h with h | h <;> cases h), if_pos h]
theorem refAsk_5 {k : UInt8} {r : List UInt8} (h : k = 5) : refAsk k r = some (withT (askOf k) (takesL 7 r).1, (takesL 7 r).2.2) := by
  subst h
  rfl
theorem refAsk_6 {k : UInt8} {r : List UInt8} (h : k = 6) : refAsk k r = some (withT (withV (askOf k) (numL r).1) (takesL 7 (numL r).2.1).1, (numL r).2.2 && (takesL 7 (numL r).2.1).2.2) := by
  subst h
  rfl
theorem refAsk_no {k : UInt8} {r : List UInt8} (h2 : ¬ k = 2) (h3 : ¬ (k = 3 ∨ k = 4)) (h5 : ¬ k = 5) (h6 : ¬ k = 6) : refAsk k r = some (askOf k, true) := by
  unfold refAsk
  rw [if_neg h2, if_neg h3, if_neg h5, if_neg h6]
set_option maxRecDepth 100000 in
set_option maxHeartbeats 1000000 in
theorem refRead_0 (w : World) :
    Calls Try.prog 12 #[.string (str [])] w fun e w' => e = .returned (readV (refA [])) ∧ Below w.heap.size w w' := by
  have hb := below_alloc w (.cells #[.int .u8 0, .int .u64 0, .int .u8 0, .string ⟨#[]⟩, .string ⟨#[]⟩, .string ⟨#[]⟩, .string ⟨#[]⟩, .int .u64 0, .string ⟨#[]⟩, .string ⟨#[]⟩, .string ⟨#[]⟩, .string ⟨#[]⟩, .string ⟨#[]⟩, .string ⟨#[]⟩, .string ⟨#[]⟩] 30)
  have hR := Blk.new w [.int .u8 0, .int .u64 0, .int .u8 0, .string ⟨#[]⟩, .string ⟨#[]⟩, .string ⟨#[]⟩, .string ⟨#[]⟩, .int .u64 0, .string ⟨#[]⟩, .string ⟨#[]⟩, .string ⟨#[]⟩, .string ⟨#[]⟩, .string ⟨#[]⟩, .string ⟨#[]⟩, .string ⟨#[]⟩] 30
  have hs := str_empty []
  rw [decide_eq_true rfl] at hs
  obtain ⟨S, hS⟩ := named (str [])
  rw [← hS.out] at hs ⊢
  clear hS
  go_enter Try.func12, Try.ntmps12
  go_upto_region 1 with fail
  obtain ⟨w1, hw1⟩ := named (w.alloc (.cells #[.int .u8 0, .int .u64 0, .int .u8 0, .string ⟨#[]⟩, .string ⟨#[]⟩, .string ⟨#[]⟩, .string ⟨#[]⟩, .int .u64 0, .string ⟨#[]⟩, .string ⟨#[]⟩, .string ⟨#[]⟩, .string ⟨#[]⟩, .string ⟨#[]⟩, .string ⟨#[]⟩, .string ⟨#[]⟩] 30))
  rw [← hw1.out] at hR hb ⊢
  clear hw1
  have k6 := hR.row [.int .u8 0, .int .u64 0, .int .u8 0, .string ⟨#[]⟩, .string ⟨#[]⟩, .string ⟨#[]⟩, .string ⟨#[]⟩, .int .u64 0, .string ⟨#[]⟩, .string ⟨#[]⟩, .string ⟨#[]⟩, .string ⟨#[]⟩, .string ⟨#[]⟩, .string ⟨#[]⟩, .string ⟨#[]⟩]
  have hb6 := below_setRow hb (Nat.le_refl _) #[.int .u8 0, .int .u64 0, .int .u8 0, .string ⟨#[]⟩, .string ⟨#[]⟩, .string ⟨#[]⟩, .string ⟨#[]⟩, .int .u64 0, .string ⟨#[]⟩, .string ⟨#[]⟩, .string ⟨#[]⟩, .string ⟨#[]⟩, .string ⟨#[]⟩, .string ⟨#[]⟩, .string ⟨#[]⟩]
  go_wp2_with (refine wpList_store_row rfl 30 _ _ rfl _ #[.int .u8 0, .int .u64 0, .int .u8 0, .string ⟨#[]⟩, .string ⟨#[]⟩, .string ⟨#[]⟩, .string ⟨#[]⟩, .int .u64 0, .string ⟨#[]⟩, .string ⟨#[]⟩, .string ⟨#[]⟩, .string ⟨#[]⟩, .string ⟨#[]⟩, .string ⟨#[]⟩, .string ⟨#[]⟩] rfl rfl 30 #[.int .u8 0, .int .u64 0, .int .u8 0, .string ⟨#[]⟩, .string ⟨#[]⟩, .string ⟨#[]⟩, .string ⟨#[]⟩, .int .u64 0, .string ⟨#[]⟩, .string ⟨#[]⟩, .string ⟨#[]⟩, .string ⟨#[]⟩, .string ⟨#[]⟩, .string ⟨#[]⟩, .string ⟨#[]⟩] hR kASK rfl (by simp [Value.oneCell']) ?_)
  obtain ⟨w6, hw6⟩ := named (w1.setRow w.heap.size #[.int .u8 0, .int .u64 0, .int .u8 0, .string ⟨#[]⟩, .string ⟨#[]⟩, .string ⟨#[]⟩, .string ⟨#[]⟩, .int .u64 0, .string ⟨#[]⟩, .string ⟨#[]⟩, .string ⟨#[]⟩, .string ⟨#[]⟩, .string ⟨#[]⟩, .string ⟨#[]⟩, .string ⟨#[]⟩])
  rw [show (w1.setRow w.heap.size [.int .u8 0, .int .u64 0, .int .u8 0, .string ⟨#[]⟩, .string ⟨#[]⟩, .string ⟨#[]⟩, .string ⟨#[]⟩, .int .u64 0, .string ⟨#[]⟩, .string ⟨#[]⟩, .string ⟨#[]⟩, .string ⟨#[]⟩, .string ⟨#[]⟩, .string ⟨#[]⟩, .string ⟨#[]⟩].toArray) = w6 from hw6.out.symm] at k6
  rw [← hw6.out] at hb6 ⊢
  clear hw6 hR hb
  have hld : (loadVar 30 ⟨w.heap.size, 0, none⟩).run Try.prog w6 = .ok (.agg #[.int .u8 0, .int .u64 0, .int .u8 0, .string ⟨#[]⟩, .string ⟨#[]⟩, .string ⟨#[]⟩, .string ⟨#[]⟩, .int .u64 0, .string ⟨#[]⟩, .string ⟨#[]⟩, .string ⟨#[]⟩, .string ⟨#[]⟩, .string ⟨#[]⟩, .string ⟨#[]⟩, .string ⟨#[]⟩]) w6 := run_loadVar_row w6 w.heap.size 30 30 #[.int .u8 0, .int .u64 0, .int .u8 0, .string ⟨#[]⟩, .string ⟨#[]⟩, .string ⟨#[]⟩, .string ⟨#[]⟩, .int .u64 0, .string ⟨#[]⟩, .string ⟨#[]⟩, .string ⟨#[]⟩, .string ⟨#[]⟩, .string ⟨#[]⟩, .string ⟨#[]⟩, .string ⟨#[]⟩] (0, 0) _ k6 Try.underlying30 rfl kASK
  refine bodyPost_ret (v := .tuple #[.agg #[.int .u8 0, .int .u64 0, .int .u8 0, .string ⟨#[]⟩, .string ⟨#[]⟩, .string ⟨#[]⟩, .string ⟨#[]⟩, .int .u64 0, .string ⟨#[]⟩, .string ⟨#[]⟩, .string ⟨#[]⟩, .string ⟨#[]⟩, .string ⟨#[]⟩, .string ⟨#[]⟩, .string ⟨#[]⟩], .int .i64 14]) (row_ret rfl _ _ _ _ _ rfl hld rfl) rfl ?_
  exact ⟨by first | rfl | (rw [rfl]; rfl), hb6⟩

set_option maxRecDepth 100000 in
set_option maxHeartbeats 4000000 in
theorem refRead_k (k : UInt8) (r : List UInt8) (w : World) (hl : r.length ≤ 140737488351232) :
    Calls Try.prog 12 #[.string (str (k :: r))] w fun e w' => e = .returned (readV (refA (k :: r))) ∧ Below w.heap.size w w' := by
  have hN := fun W => refNumber_w (str r) W (by rw [str_size]; exact hl)
  have hU := fun W => refUnpack_w (numL r).2.1 W (Nat.le_trans (numL_len r) hl)
  have hT := fun (q : List UInt8) (hq : q.length ≤ r.length) (j : Nat) (W : World) => refTaken_w (str (takesL j q).2.1) W (by rw [str_size]; exact Nat.le_trans (Nat.le_trans (takesL_len j q) hq) hl)
  have hnl := numL_len r
  simp only [str_data] at hN hT
  have hF0 : refAsk k r = none → readV (refA (k :: r)) = readV none := fun h => by rw [refA_cons, h]; rfl
  have hF1 : ∀ a q, refAsk k r = some (a, q) → readV (refA (k :: r)) = readV (if q = true ∧ writeA a = (k :: r, 0) then some a else none) := fun a q h => by rw [refA_cons, h]; rfl
  obtain ⟨F, hF⟩ := named (readV (refA (k :: r)))
  rw [← hF.out] at hF0 hF1 ⊢
  have HF0 := hide hF0
  have HF1 := hide hF1
  have g1 := str_cons_size k r
  have g2 := str_cons_get k r
  have g3 := str_cons_drop k r
  have g4 := str_empty (k :: r)
  rw [decide_eq_false (by simp)] at g4
  rw [g1] at g3
  have hSS := str_toList (k :: r)
  obtain ⟨S, hS⟩ := named (str (k :: r))
  rw [← hS.out] at g1 g2 g3 g4 ⊢
  clear hF0 hF1 hF hl hSS
  have b0 := bt (below_alloc w (.cells #[.int .u8 0, .int .u64 0, .int .u8 0, .string ⟨#[]⟩, .string ⟨#[]⟩, .string ⟨#[]⟩, .string ⟨#[]⟩, .int .u64 0, .string ⟨#[]⟩, .string ⟨#[]⟩, .string ⟨#[]⟩, .string ⟨#[]⟩, .string ⟨#[]⟩, .string ⟨#[]⟩, .string ⟨#[]⟩] 30)) (below_alloc _ (.cells #[.int .u8 (k.toNat : Int), .int .u64 0, .int .u8 0, .string ⟨#[]⟩, .string ⟨#[]⟩, .string ⟨#[]⟩, .string ⟨#[]⟩, .int .u64 0, .string ⟨#[]⟩, .string ⟨#[]⟩, .string ⟨#[]⟩, .string ⟨#[]⟩, .string ⟨#[]⟩, .string ⟨#[]⟩, .string ⟨#[]⟩] 30))
  have r0 := (Blk.new w [.int .u8 0, .int .u64 0, .int .u8 0, .string ⟨#[]⟩, .string ⟨#[]⟩, .string ⟨#[]⟩, .string ⟨#[]⟩, .int .u64 0, .string ⟨#[]⟩, .string ⟨#[]⟩, .string ⟨#[]⟩, .string ⟨#[]⟩, .string ⟨#[]⟩, .string ⟨#[]⟩, .string ⟨#[]⟩] 30).alloc (.cells #[.int .u8 (k.toNat : Int), .int .u64 0, .int .u8 0, .string ⟨#[]⟩, .string ⟨#[]⟩, .string ⟨#[]⟩, .string ⟨#[]⟩, .int .u64 0, .string ⟨#[]⟩, .string ⟨#[]⟩, .string ⟨#[]⟩, .string ⟨#[]⟩, .string ⟨#[]⟩, .string ⟨#[]⟩, .string ⟨#[]⟩] 30)
  have a0 := Blk.new (w.alloc (.cells #[.int .u8 0, .int .u64 0, .int .u8 0, .string ⟨#[]⟩, .string ⟨#[]⟩, .string ⟨#[]⟩, .string ⟨#[]⟩, .int .u64 0, .string ⟨#[]⟩, .string ⟨#[]⟩, .string ⟨#[]⟩, .string ⟨#[]⟩, .string ⟨#[]⟩, .string ⟨#[]⟩, .string ⟨#[]⟩] 30)) [.int .u8 (k.toNat : Int), .int .u64 0, .int .u8 0, .string ⟨#[]⟩, .string ⟨#[]⟩, .string ⟨#[]⟩, .string ⟨#[]⟩, .int .u64 0, .string ⟨#[]⟩, .string ⟨#[]⟩, .string ⟨#[]⟩, .string ⟨#[]⟩, .string ⟨#[]⟩, .string ⟨#[]⟩, .string ⟨#[]⟩] 30
  rw [show (w.alloc (.cells #[.int .u8 0, .int .u64 0, .int .u8 0, .string ⟨#[]⟩, .string ⟨#[]⟩, .string ⟨#[]⟩, .string ⟨#[]⟩, .int .u64 0, .string ⟨#[]⟩, .string ⟨#[]⟩, .string ⟨#[]⟩, .string ⟨#[]⟩, .string ⟨#[]⟩, .string ⟨#[]⟩, .string ⟨#[]⟩] 30)).heap.size = w.heap.size + 1 by simp] at a0
  have d2 : ((k.toNat : Int) == 2) = decide (k = 2) := beq_u8 k 2
  have d3 : ((k.toNat : Int) == 3) = decide (k = 3) := beq_u8 k 3
  have d4 : ((k.toNat : Int) == 4) = decide (k = 4) := beq_u8 k 4
  have d5 : ((k.toNat : Int) == 5) = decide (k = 5) := beq_u8 k 5
  have d6 : ((k.toNat : Int) == 6) = decide (k = 6) := beq_u8 k 6
  go_enter Try.func12, Try.ntmps12
  go_upto_region 6 with fail
  obtain ⟨w1, hw1⟩ := named ((w.alloc (.cells #[.int .u8 0, .int .u64 0, .int .u8 0, .string ⟨#[]⟩, .string ⟨#[]⟩, .string ⟨#[]⟩, .string ⟨#[]⟩, .int .u64 0, .string ⟨#[]⟩, .string ⟨#[]⟩, .string ⟨#[]⟩, .string ⟨#[]⟩, .string ⟨#[]⟩, .string ⟨#[]⟩, .string ⟨#[]⟩] 30)).alloc (.cells #[.int .u8 (k.toNat : Int), .int .u64 0, .int .u8 0, .string ⟨#[]⟩, .string ⟨#[]⟩, .string ⟨#[]⟩, .string ⟨#[]⟩, .int .u64 0, .string ⟨#[]⟩, .string ⟨#[]⟩, .string ⟨#[]⟩, .string ⟨#[]⟩, .string ⟨#[]⟩, .string ⟨#[]⟩, .string ⟨#[]⟩] 30))
  rw [← hw1.out] at r0 b0 a0 ⊢
  clear hw1 g1 g2 g3 g4
  generalize (Value.agg #[.int .u8 (k.toNat : Int), .int .u64 0, .int .u8 0, .string ⟨#[]⟩, .string ⟨#[]⟩, .string ⟨#[]⟩, .string ⟨#[]⟩, .int .u64 0, .string ⟨#[]⟩, .string ⟨#[]⟩, .string ⟨#[]⟩, .string ⟨#[]⟩, .string ⟨#[]⟩, .string ⟨#[]⟩, .string ⟨#[]⟩] : Value) = V0
  have x0 := a0.cell 0
  go_upto_block 0 with fail
  clear x0
  go_cut [6] (fun x wx => ∃ (a : Ask) (q : Bool), x = .bool q ∧ Hid (refAsk k r = some (a, q)) ∧ Blk wx (w.heap.size + 1) (askCells a) 30 ∧ Blk wx w.heap.size [.int .u8 0, .int .u64 0, .int .u8 0, .string ⟨#[]⟩, .string ⟨#[]⟩, .string ⟨#[]⟩, .string ⟨#[]⟩, .int .u64 0, .string ⟨#[]⟩, .string ⟨#[]⟩, .string ⟨#[]⟩, .string ⟨#[]⟩, .string ⟨#[]⟩, .string ⟨#[]⟩, .string ⟨#[]⟩] 30 ∧ Below w.heap.size w wx)
  case first =>
    by_cases c2 : k = 2
    case pos =>
      have HSM := refAsk_2 (r := r) c2
      clear d3 d4 d5 d6 hT
      rw [decide_eq_true c2] at d2
      clear c2
      obtain ⟨N9, hN9⟩ := named (numL r)
      rw [← hN9.out] at HSM
      simp only [← hN9.out] at hN hU hnl
      clear hN9
      obtain ⟨n, q, on⟩ := N9
      simp only at hN hU hnl HSM
      have HSMM := hide HSM
      clear HSM hnl
      go_wp2_with fail
      refine (hN _).mono ?_
      rintro e w2 ⟨rfl, hb2⟩
      have xA := (a0.below hb2).cell
      have fA := (a0.below hb2).free
      have aN := (a0.below hb2).set 1 (.int .u64 (n : Int))
      have rN := (r0.below hb2).far (p := ⟨(w.heap.size + 1), 1, none⟩) (by show w.heap.size ≠ (w.heap.size + 1); omega) (.int .u64 (n : Int))
      have bN := (bt b0 hb2).setCell (p := ⟨(w.heap.size + 1), 1, none⟩) (by show w.heap.size ≤ (w.heap.size + 1); omega) (.int .u64 (n : Int))
      clear hN a0 r0 b0 hb2
      go_upto_region 10 with fail
      obtain ⟨W2, hW2⟩ := named (w2.setCell ⟨(w.heap.size + 1), 1, none⟩ (.int .u64 (n : Int)))
      rw [← hW2.out] at aN rN bN ⊢
      clear hW2 xA fA
      go_wp2_with fail
      refine (hU _).mono ?_
      rintro e w3 ⟨⟨v, rfl, ho⟩, hb3⟩
      have aU := aN.below hb3
      have rU := rN.below hb3
      have bU := bt bN hb3
      clear hU aN rN bN hb3
      obtain ⟨A0, cc, rfl, _, _, hlies, _⟩ := Lies.of_own ho
      clear ho
      unfold unpE unpR at *
      obtain ⟨P9, hP9⟩ := named (unpackL q)
      rw [← hP9.out] at HSMM
      simp only [← hP9.out] at hlies ⊢
      clear hP9
      match P9, HSMM, hlies with
      | none, HSMM, hlies =>
        have hfin := HF0.out HSMM.out
        clear hlies HSMM aU
        simp only [Option.isSome_none, if_false, Option.getD_none, List.length_nil, Bool.false_eq_true]
        have k6 := rU.row [.int .u8 0, .int .u64 0, .int .u8 0, .string ⟨#[]⟩, .string ⟨#[]⟩, .string ⟨#[]⟩, .string ⟨#[]⟩, .int .u64 0, .string ⟨#[]⟩, .string ⟨#[]⟩, .string ⟨#[]⟩, .string ⟨#[]⟩, .string ⟨#[]⟩, .string ⟨#[]⟩, .string ⟨#[]⟩]
        have hb6 := below_setRow bU (Nat.le_refl _) #[.int .u8 0, .int .u64 0, .int .u8 0, .string ⟨#[]⟩, .string ⟨#[]⟩, .string ⟨#[]⟩, .string ⟨#[]⟩, .int .u64 0, .string ⟨#[]⟩, .string ⟨#[]⟩, .string ⟨#[]⟩, .string ⟨#[]⟩, .string ⟨#[]⟩, .string ⟨#[]⟩, .string ⟨#[]⟩]
        go_wp2_with (refine wpList_store_row rfl 30 _ _ rfl _ #[.int .u8 0, .int .u64 0, .int .u8 0, .string ⟨#[]⟩, .string ⟨#[]⟩, .string ⟨#[]⟩, .string ⟨#[]⟩, .int .u64 0, .string ⟨#[]⟩, .string ⟨#[]⟩, .string ⟨#[]⟩, .string ⟨#[]⟩, .string ⟨#[]⟩, .string ⟨#[]⟩, .string ⟨#[]⟩] rfl rfl 30 #[.int .u8 0, .int .u64 0, .int .u8 0, .string ⟨#[]⟩, .string ⟨#[]⟩, .string ⟨#[]⟩, .string ⟨#[]⟩, .int .u64 0, .string ⟨#[]⟩, .string ⟨#[]⟩, .string ⟨#[]⟩, .string ⟨#[]⟩, .string ⟨#[]⟩, .string ⟨#[]⟩, .string ⟨#[]⟩] rU kASK rfl (by simp [Value.oneCell']) ?_)
        obtain ⟨w6, hw6⟩ := named (w3.setRow w.heap.size #[.int .u8 0, .int .u64 0, .int .u8 0, .string ⟨#[]⟩, .string ⟨#[]⟩, .string ⟨#[]⟩, .string ⟨#[]⟩, .int .u64 0, .string ⟨#[]⟩, .string ⟨#[]⟩, .string ⟨#[]⟩, .string ⟨#[]⟩, .string ⟨#[]⟩, .string ⟨#[]⟩, .string ⟨#[]⟩])
        rw [show (w3.setRow w.heap.size [.int .u8 0, .int .u64 0, .int .u8 0, .string ⟨#[]⟩, .string ⟨#[]⟩, .string ⟨#[]⟩, .string ⟨#[]⟩, .int .u64 0, .string ⟨#[]⟩, .string ⟨#[]⟩, .string ⟨#[]⟩, .string ⟨#[]⟩, .string ⟨#[]⟩, .string ⟨#[]⟩, .string ⟨#[]⟩].toArray) = w6 from hw6.out.symm] at k6
        rw [← hw6.out] at hb6 ⊢
        clear hw6 rU bU
        have hld : (loadVar 30 ⟨w.heap.size, 0, none⟩).run Try.prog w6 = .ok (.agg #[.int .u8 0, .int .u64 0, .int .u8 0, .string ⟨#[]⟩, .string ⟨#[]⟩, .string ⟨#[]⟩, .string ⟨#[]⟩, .int .u64 0, .string ⟨#[]⟩, .string ⟨#[]⟩, .string ⟨#[]⟩, .string ⟨#[]⟩, .string ⟨#[]⟩, .string ⟨#[]⟩, .string ⟨#[]⟩]) w6 := run_loadVar_row w6 w.heap.size 30 30 #[.int .u8 0, .int .u64 0, .int .u8 0, .string ⟨#[]⟩, .string ⟨#[]⟩, .string ⟨#[]⟩, .string ⟨#[]⟩, .int .u64 0, .string ⟨#[]⟩, .string ⟨#[]⟩, .string ⟨#[]⟩, .string ⟨#[]⟩, .string ⟨#[]⟩, .string ⟨#[]⟩, .string ⟨#[]⟩] (0, 0) _ k6 Try.underlying30 rfl kASK
        refine bodyPost_ret (v := .tuple #[.agg #[.int .u8 0, .int .u64 0, .int .u8 0, .string ⟨#[]⟩, .string ⟨#[]⟩, .string ⟨#[]⟩, .string ⟨#[]⟩, .int .u64 0, .string ⟨#[]⟩, .string ⟨#[]⟩, .string ⟨#[]⟩, .string ⟨#[]⟩, .string ⟨#[]⟩, .string ⟨#[]⟩, .string ⟨#[]⟩], .int .i64 14]) (row_ret rfl _ _ _ _ _ rfl hld rfl) rfl ?_
        exact ⟨by first | rfl | (rw [hfin]; rfl), hb6⟩
      | some [⟨ck, ci, ct, cu, cv⟩], HSMM, hlies =>
        simp only [Option.isSome_some, if_true, Option.getD_some, List.length_cons, List.length_nil, Nat.zero_add] at hlies ⊢
        obtain ⟨b, o, rfl, hcell⟩ := hlies.2 (by simp [chsCells, chCells])
        have y0 : w3.cell? ⟨b, o, none⟩ = some (.int .u8 (ck.toNat : Int)) := hcell 0 _ rfl
        have y1 : w3.cell? ⟨b, o + 1, none⟩ = some (.string ci) := hcell 1 _ rfl
        have y2 : w3.cell? ⟨b, o + 2, none⟩ = some (.string ct) := hcell 2 _ rfl
        have y3 : w3.cell? ⟨b, o + 3, none⟩ = some (.string cu) := hcell 3 _ rfl
        have y4 : w3.cell? ⟨b, o + 4, none⟩ = some (.string cv) := hcell 4 _ rfl
        have xA := aU.cell
        have fA := aU.free
        have aC := (((((aU.set 2 (.int .u8 (ck.toNat : Int))).set 3 (.string ci)).set 4 (.string ct)).set 5 (.string cu)).set 6 (.string cv))
        have rC := (((((rU.far (p := ⟨(w.heap.size + 1), 2, none⟩) (by show w.heap.size ≠ (w.heap.size + 1); omega) (.int .u8 (ck.toNat : Int))).far (p := ⟨(w.heap.size + 1), 3, none⟩) (by show w.heap.size ≠ (w.heap.size + 1); omega) (.string ci)).far (p := ⟨(w.heap.size + 1), 4, none⟩) (by show w.heap.size ≠ (w.heap.size + 1); omega) (.string ct)).far (p := ⟨(w.heap.size + 1), 5, none⟩) (by show w.heap.size ≠ (w.heap.size + 1); omega) (.string cu)).far (p := ⟨(w.heap.size + 1), 6, none⟩) (by show w.heap.size ≠ (w.heap.size + 1); omega) (.string cv))
        have bC := (((((bU.setCell (p := ⟨(w.heap.size + 1), 2, none⟩) (by show w.heap.size ≤ (w.heap.size + 1); omega) (.int .u8 (ck.toNat : Int))).setCell (p := ⟨(w.heap.size + 1), 3, none⟩) (by show w.heap.size ≤ (w.heap.size + 1); omega) (.string ci)).setCell (p := ⟨(w.heap.size + 1), 4, none⟩) (by show w.heap.size ≤ (w.heap.size + 1); omega) (.string ct)).setCell (p := ⟨(w.heap.size + 1), 5, none⟩) (by show w.heap.size ≤ (w.heap.size + 1); omega) (.string cu)).setCell (p := ⟨(w.heap.size + 1), 6, none⟩) (by show w.heap.size ≤ (w.heap.size + 1); omega) (.string cv))
        clear hlies hcell aU rU bU
        go_wp2
        go_meet
        case rel => exact ⟨_, on, rfl, HSMM, aC, rC, bC⟩
      | some [], HSMM, hlies =>
        have hfin := HF0.out HSMM.out
        clear hlies HSMM aU
        simp only [Option.isSome_some, if_true, Option.getD_some, List.length_nil]
        have k6 := rU.row [.int .u8 0, .int .u64 0, .int .u8 0, .string ⟨#[]⟩, .string ⟨#[]⟩, .string ⟨#[]⟩, .string ⟨#[]⟩, .int .u64 0, .string ⟨#[]⟩, .string ⟨#[]⟩, .string ⟨#[]⟩, .string ⟨#[]⟩, .string ⟨#[]⟩, .string ⟨#[]⟩, .string ⟨#[]⟩]
        have hb6 := below_setRow bU (Nat.le_refl _) #[.int .u8 0, .int .u64 0, .int .u8 0, .string ⟨#[]⟩, .string ⟨#[]⟩, .string ⟨#[]⟩, .string ⟨#[]⟩, .int .u64 0, .string ⟨#[]⟩, .string ⟨#[]⟩, .string ⟨#[]⟩, .string ⟨#[]⟩, .string ⟨#[]⟩, .string ⟨#[]⟩, .string ⟨#[]⟩]
        go_wp2_with (refine wpList_store_row rfl 30 _ _ rfl _ #[.int .u8 0, .int .u64 0, .int .u8 0, .string ⟨#[]⟩, .string ⟨#[]⟩, .string ⟨#[]⟩, .string ⟨#[]⟩, .int .u64 0, .string ⟨#[]⟩, .string ⟨#[]⟩, .string ⟨#[]⟩, .string ⟨#[]⟩, .string ⟨#[]⟩, .string ⟨#[]⟩, .string ⟨#[]⟩] rfl rfl 30 #[.int .u8 0, .int .u64 0, .int .u8 0, .string ⟨#[]⟩, .string ⟨#[]⟩, .string ⟨#[]⟩, .string ⟨#[]⟩, .int .u64 0, .string ⟨#[]⟩, .string ⟨#[]⟩, .string ⟨#[]⟩, .string ⟨#[]⟩, .string ⟨#[]⟩, .string ⟨#[]⟩, .string ⟨#[]⟩] rU kASK rfl (by simp [Value.oneCell']) ?_)
        obtain ⟨w6, hw6⟩ := named (w3.setRow w.heap.size #[.int .u8 0, .int .u64 0, .int .u8 0, .string ⟨#[]⟩, .string ⟨#[]⟩, .string ⟨#[]⟩, .string ⟨#[]⟩, .int .u64 0, .string ⟨#[]⟩, .string ⟨#[]⟩, .string ⟨#[]⟩, .string ⟨#[]⟩, .string ⟨#[]⟩, .string ⟨#[]⟩, .string ⟨#[]⟩])
        rw [show (w3.setRow w.heap.size [.int .u8 0, .int .u64 0, .int .u8 0, .string ⟨#[]⟩, .string ⟨#[]⟩, .string ⟨#[]⟩, .string ⟨#[]⟩, .int .u64 0, .string ⟨#[]⟩, .string ⟨#[]⟩, .string ⟨#[]⟩, .string ⟨#[]⟩, .string ⟨#[]⟩, .string ⟨#[]⟩, .string ⟨#[]⟩].toArray) = w6 from hw6.out.symm] at k6
        rw [← hw6.out] at hb6 ⊢
        clear hw6 rU bU
        have hld : (loadVar 30 ⟨w.heap.size, 0, none⟩).run Try.prog w6 = .ok (.agg #[.int .u8 0, .int .u64 0, .int .u8 0, .string ⟨#[]⟩, .string ⟨#[]⟩, .string ⟨#[]⟩, .string ⟨#[]⟩, .int .u64 0, .string ⟨#[]⟩, .string ⟨#[]⟩, .string ⟨#[]⟩, .string ⟨#[]⟩, .string ⟨#[]⟩, .string ⟨#[]⟩, .string ⟨#[]⟩]) w6 := run_loadVar_row w6 w.heap.size 30 30 #[.int .u8 0, .int .u64 0, .int .u8 0, .string ⟨#[]⟩, .string ⟨#[]⟩, .string ⟨#[]⟩, .string ⟨#[]⟩, .int .u64 0, .string ⟨#[]⟩, .string ⟨#[]⟩, .string ⟨#[]⟩, .string ⟨#[]⟩, .string ⟨#[]⟩, .string ⟨#[]⟩, .string ⟨#[]⟩] (0, 0) _ k6 Try.underlying30 rfl kASK
        refine bodyPost_ret (v := .tuple #[.agg #[.int .u8 0, .int .u64 0, .int .u8 0, .string ⟨#[]⟩, .string ⟨#[]⟩, .string ⟨#[]⟩, .string ⟨#[]⟩, .int .u64 0, .string ⟨#[]⟩, .string ⟨#[]⟩, .string ⟨#[]⟩, .string ⟨#[]⟩, .string ⟨#[]⟩, .string ⟨#[]⟩, .string ⟨#[]⟩], .int .i64 14]) (row_ret rfl _ _ _ _ _ rfl hld rfl) rfl ?_
        exact ⟨by first | rfl | (rw [hfin]; rfl), hb6⟩
      | some (c1 :: c2 :: cs), HSMM, hlies =>
        have hfin := HF0.out HSMM.out
        have hl1 : ((c1 :: c2 :: cs).length : Int) ≠ 1 := by simp; omega
        obtain ⟨m, hm⟩ := named (c1 :: c2 :: cs).length
        rw [← hm.out] at hl1
        simp only [Option.isSome_some, if_true, Option.getD_some, ← hm.out]
        have hl2 : ((m : Int) != 1) = true := by simpa using hl1
        have hl3 : ((m : Int) == 1) = false := by simpa using hl1
        clear hlies HSMM aU hm hl1
        have k6 := rU.row [.int .u8 0, .int .u64 0, .int .u8 0, .string ⟨#[]⟩, .string ⟨#[]⟩, .string ⟨#[]⟩, .string ⟨#[]⟩, .int .u64 0, .string ⟨#[]⟩, .string ⟨#[]⟩, .string ⟨#[]⟩, .string ⟨#[]⟩, .string ⟨#[]⟩, .string ⟨#[]⟩, .string ⟨#[]⟩]
        have hb6 := below_setRow bU (Nat.le_refl _) #[.int .u8 0, .int .u64 0, .int .u8 0, .string ⟨#[]⟩, .string ⟨#[]⟩, .string ⟨#[]⟩, .string ⟨#[]⟩, .int .u64 0, .string ⟨#[]⟩, .string ⟨#[]⟩, .string ⟨#[]⟩, .string ⟨#[]⟩, .string ⟨#[]⟩, .string ⟨#[]⟩, .string ⟨#[]⟩]
        go_wp2_with (refine wpList_store_row rfl 30 _ _ rfl _ #[.int .u8 0, .int .u64 0, .int .u8 0, .string ⟨#[]⟩, .string ⟨#[]⟩, .string ⟨#[]⟩, .string ⟨#[]⟩, .int .u64 0, .string ⟨#[]⟩, .string ⟨#[]⟩, .string ⟨#[]⟩, .string ⟨#[]⟩, .string ⟨#[]⟩, .string ⟨#[]⟩, .string ⟨#[]⟩] rfl rfl 30 #[.int .u8 0, .int .u64 0, .int .u8 0, .string ⟨#[]⟩, .string ⟨#[]⟩, .string ⟨#[]⟩, .string ⟨#[]⟩, .int .u64 0, .string ⟨#[]⟩, .string ⟨#[]⟩, .string ⟨#[]⟩, .string ⟨#[]⟩, .string ⟨#[]⟩, .string ⟨#[]⟩, .string ⟨#[]⟩] rU kASK rfl (by simp [Value.oneCell']) ?_)
        obtain ⟨w6, hw6⟩ := named (w3.setRow w.heap.size #[.int .u8 0, .int .u64 0, .int .u8 0, .string ⟨#[]⟩, .string ⟨#[]⟩, .string ⟨#[]⟩, .string ⟨#[]⟩, .int .u64 0, .string ⟨#[]⟩, .string ⟨#[]⟩, .string ⟨#[]⟩, .string ⟨#[]⟩, .string ⟨#[]⟩, .string ⟨#[]⟩, .string ⟨#[]⟩])
        rw [show (w3.setRow w.heap.size [.int .u8 0, .int .u64 0, .int .u8 0, .string ⟨#[]⟩, .string ⟨#[]⟩, .string ⟨#[]⟩, .string ⟨#[]⟩, .int .u64 0, .string ⟨#[]⟩, .string ⟨#[]⟩, .string ⟨#[]⟩, .string ⟨#[]⟩, .string ⟨#[]⟩, .string ⟨#[]⟩, .string ⟨#[]⟩].toArray) = w6 from hw6.out.symm] at k6
        rw [← hw6.out] at hb6 ⊢
        clear hw6 rU bU
        have hld : (loadVar 30 ⟨w.heap.size, 0, none⟩).run Try.prog w6 = .ok (.agg #[.int .u8 0, .int .u64 0, .int .u8 0, .string ⟨#[]⟩, .string ⟨#[]⟩, .string ⟨#[]⟩, .string ⟨#[]⟩, .int .u64 0, .string ⟨#[]⟩, .string ⟨#[]⟩, .string ⟨#[]⟩, .string ⟨#[]⟩, .string ⟨#[]⟩, .string ⟨#[]⟩, .string ⟨#[]⟩]) w6 := run_loadVar_row w6 w.heap.size 30 30 #[.int .u8 0, .int .u64 0, .int .u8 0, .string ⟨#[]⟩, .string ⟨#[]⟩, .string ⟨#[]⟩, .string ⟨#[]⟩, .int .u64 0, .string ⟨#[]⟩, .string ⟨#[]⟩, .string ⟨#[]⟩, .string ⟨#[]⟩, .string ⟨#[]⟩, .string ⟨#[]⟩, .string ⟨#[]⟩] (0, 0) _ k6 Try.underlying30 rfl kASK
        refine bodyPost_ret (v := .tuple #[.agg #[.int .u8 0, .int .u64 0, .int .u8 0, .string ⟨#[]⟩, .string ⟨#[]⟩, .string ⟨#[]⟩, .string ⟨#[]⟩, .int .u64 0, .string ⟨#[]⟩, .string ⟨#[]⟩, .string ⟨#[]⟩, .string ⟨#[]⟩, .string ⟨#[]⟩, .string ⟨#[]⟩, .string ⟨#[]⟩], .int .i64 14]) (row_ret rfl _ _ _ _ _ rfl hld rfl) rfl ?_
        exact ⟨by first | rfl | (rw [hfin]; rfl), hb6⟩
    clear hU
    by_cases c3 : k = 3
    case pos =>
      have HSM := refAsk_3 (r := r) (k := k) (by simp [c3])
      clear d5 d6 hT
      rw [decide_eq_false c2] at d2
      rw [decide_eq_true c3] at d3
      clear c2 c3 d4
      obtain ⟨N9, hN9⟩ := named (numL r)
      rw [← hN9.out] at HSM
      simp only [← hN9.out] at hN hnl
      clear hN9
      obtain ⟨n, q, on⟩ := N9
      simp only at hN hnl HSM
      have HSMM := hide HSM
      clear HSM hnl
      go_wp2_with fail
      refine (hN _).mono ?_
      rintro e w2 ⟨rfl, hb2⟩
      have xA := (a0.below hb2).cell
      have fA := (a0.below hb2).free
      have aN := (a0.below hb2).set 1 (.int .u64 (n : Int))
      have rN := (r0.below hb2).far (p := ⟨(w.heap.size + 1), 1, none⟩) (by show w.heap.size ≠ (w.heap.size + 1); omega) (.int .u64 (n : Int))
      have bN := (bt b0 hb2).setCell (p := ⟨(w.heap.size + 1), 1, none⟩) (by show w.heap.size ≤ (w.heap.size + 1); omega) (.int .u64 (n : Int))
      clear hN a0 r0 b0 hb2
      go_wp2
      obtain ⟨W2, hW2⟩ := named (w2.setCell ⟨(w.heap.size + 1), 1, none⟩ (.int .u64 (n : Int)))
      rw [← hW2.out] at aN rN bN ⊢
      clear hW2 xA fA
      go_meet
      case rel => exact ⟨_, on, rfl, HSMM, aN, rN, bN⟩
    by_cases c4 : k = 4
    case pos =>
      have HSM := refAsk_3 (r := r) (k := k) (by simp [c4])
      clear d5 d6 hT
      rw [decide_eq_false c2] at d2
      rw [decide_eq_false c3] at d3
      rw [decide_eq_true c4] at d4
      clear c2 c4 c3
      obtain ⟨N9, hN9⟩ := named (numL r)
      rw [← hN9.out] at HSM
      simp only [← hN9.out] at hN hnl
      clear hN9
      obtain ⟨n, q, on⟩ := N9
      simp only at hN hnl HSM
      have HSMM := hide HSM
      clear HSM hnl
      go_wp2_with fail
      refine (hN _).mono ?_
      rintro e w2 ⟨rfl, hb2⟩
      have xA := (a0.below hb2).cell
      have fA := (a0.below hb2).free
      have aN := (a0.below hb2).set 1 (.int .u64 (n : Int))
      have rN := (r0.below hb2).far (p := ⟨(w.heap.size + 1), 1, none⟩) (by show w.heap.size ≠ (w.heap.size + 1); omega) (.int .u64 (n : Int))
      have bN := (bt b0 hb2).setCell (p := ⟨(w.heap.size + 1), 1, none⟩) (by show w.heap.size ≤ (w.heap.size + 1); omega) (.int .u64 (n : Int))
      clear hN a0 r0 b0 hb2
      go_wp2
      obtain ⟨W2, hW2⟩ := named (w2.setCell ⟨(w.heap.size + 1), 1, none⟩ (.int .u64 (n : Int)))
      rw [← hW2.out] at aN rN bN ⊢
      clear hW2 xA fA
      go_meet
      case rel => exact ⟨_, on, rfl, HSMM, aN, rN, bN⟩
    by_cases c5 : k = 5
    case pos =>
      have HSM := refAsk_5 (r := r) c5
      rw [decide_eq_false c2] at d2
      rw [decide_eq_false c3] at d3
      rw [decide_eq_false c4] at d4
      rw [decide_eq_true c5] at d5
      rw [decide_eq_false (by rw [c5]; decide)] at d6
      clear c2 c3 c4 c5 hN
      have HSMM := hide HSM
      clear HSM hnl
      have x9 := a0.cell 0
      go_upto_region 21 with fail
      clear x9
      have hmk := run_make_row' (P := Try.prog) 40 9 (.string ⟨#[]⟩) 16 Try.underlying40 Try.info9 rfl .i64 .i64 7 (by omega) (by omega)
      rw [show madeCells #[(.string ⟨#[]⟩ : Value)] 7 = #[.string ⟨#[]⟩, .string ⟨#[]⟩, .string ⟨#[]⟩, .string ⟨#[]⟩, .string ⟨#[]⟩, .string ⟨#[]⟩, .string ⟨#[]⟩] by kernel_rfl] at hmk
      have hmk' : ∀ w, (Instr.makeSlice 40 (.int .i64 7) (.int .i64 7)).run Try.prog w = .ok (.slice (some ⟨w.heap.size, 0, none⟩) 7 7) (w.alloc (.cells #[.string ⟨#[]⟩, .string ⟨#[]⟩, .string ⟨#[]⟩, .string ⟨#[]⟩, .string ⟨#[]⟩, .string ⟨#[]⟩, .string ⟨#[]⟩] 9)) := hmk
      clear hmk
      have a1 := a0.alloc (.cells #[.string ⟨#[]⟩, .string ⟨#[]⟩, .string ⟨#[]⟩, .string ⟨#[]⟩, .string ⟨#[]⟩, .string ⟨#[]⟩, .string ⟨#[]⟩] 9)
      have r1 := r0.alloc (.cells #[.string ⟨#[]⟩, .string ⟨#[]⟩, .string ⟨#[]⟩, .string ⟨#[]⟩, .string ⟨#[]⟩, .string ⟨#[]⟩, .string ⟨#[]⟩] 9)
      have b1 := bt b0 (below_alloc _ (.cells #[.string ⟨#[]⟩, .string ⟨#[]⟩, .string ⟨#[]⟩, .string ⟨#[]⟩, .string ⟨#[]⟩, .string ⟨#[]⟩, .string ⟨#[]⟩] 9))
      have q1 := Blk.new w1 [.string ⟨#[]⟩, .string ⟨#[]⟩, .string ⟨#[]⟩, .string ⟨#[]⟩, .string ⟨#[]⟩, .string ⟨#[]⟩, .string ⟨#[]⟩] 9
      have hGA := a0.lt
      go_upto_region 23 with fail
      obtain ⟨G, hG⟩ := named w1.heap.size
      obtain ⟨W5, hW5⟩ := named (w1.alloc (.cells #[.string ⟨#[]⟩, .string ⟨#[]⟩, .string ⟨#[]⟩, .string ⟨#[]⟩, .string ⟨#[]⟩, .string ⟨#[]⟩, .string ⟨#[]⟩] 9))
      rw [← hG.out] at q1 hGA ⊢
      rw [← hW5.out] at a1 r1 b1 q1 ⊢
      clear hG hW5 hmk' a0 r0 b0
      go_loopw [76, 5, 6] (fun i s x wr => ∃ j : Nat, j ≤ 7 ∧ i = .int .i64 (j : Int) ∧ s = .string (str (takesL j r).2.1) ∧ x = .bool (true && (takesL j r).2.2) ∧ Blk wr G (strs ((takesL j r).1 ++ List.replicate (7 - j) e0)) 9 ∧ Blk wr (w.heap.size + 1) [.int .u8 (k.toNat : Int), .int .u64 0, .int .u8 0, .string ⟨#[]⟩, .string ⟨#[]⟩, .string ⟨#[]⟩, .string ⟨#[]⟩, .int .u64 0, .string ⟨#[]⟩, .string ⟨#[]⟩, .string ⟨#[]⟩, .string ⟨#[]⟩, .string ⟨#[]⟩, .string ⟨#[]⟩, .string ⟨#[]⟩] 30 ∧ Blk wr w.heap.size [.int .u8 0, .int .u64 0, .int .u8 0, .string ⟨#[]⟩, .string ⟨#[]⟩, .string ⟨#[]⟩, .string ⟨#[]⟩, .int .u64 0, .string ⟨#[]⟩, .string ⟨#[]⟩, .string ⟨#[]⟩, .string ⟨#[]⟩, .string ⟨#[]⟩, .string ⟨#[]⟩, .string ⟨#[]⟩] 30 ∧ Below w.heap.size w wr) (fun i _ _ _ => 7 - (intOf i).toNat)
      case atStart => exact ⟨0, by omega, rfl, rfl, by first | rfl | simp [takesL], q1, a1, r1, b1⟩
      case round =>
        clear a1 r1 b1 q1
        obtain ⟨j, hj7, rfl, rfl, rfl, q0, a0, r0, b0⟩ := hrel
        by_cases hj : j < 7
        · have hjl := takesL_length j r
          have hTj := hT r (by first | exact Nat.le_refl _ | exact hnl) j wr
          have e1 : takesL (j + 1) r = ((takesL j r).1 ++ [str (tkL (takesL j r).2.1).1], (tkL (takesL j r).2.1).2.1, (takesL j r).2.2 && (tkL (takesL j r).2.1).2.2) := rfl
          have E1 := hide e1
          clear e1 hT HSMM
          obtain ⟨P, hP⟩ := named (takesL j r)
          obtain ⟨pt, ps, po⟩ := P
          simp only [← hP.out] at hTj hjl q0 E1 ⊢
          clear hP
          obtain ⟨Y, hY⟩ := named (tkL ps)
          obtain ⟨y1, y2, y3⟩ := Y
          simp only [← hY.out] at hTj E1
          clear hY
          obtain ⟨t1, ht1⟩ := named (str y1)
          simp only [← ht1.out] at hTj E1
          clear ht1
          have hm : 7 - j = (7 - (j + 1)) + 1 := by omega
          have HJL := hide hjl
          clear hjl
          obtain ⟨xo, hxo⟩ := named (true && po)
          go_wp2_with fail
          refine hTj.mono ?_
          rintro e w2 ⟨rfl, hb2⟩
          replace q0 := q0.below hb2
          replace a0 := a0.below hb2
          replace r0 := r0.below hb2
          replace b0 := bt b0 hb2
          clear hb2 hTj
          have hlt : (j : Int) < 7 := by omega
          have hj0 : (0 : Int) ≤ (j : Int) := by omega
          have hcl : w2.cell? ⟨G, j, none⟩ = some (.string e0) := by
            rw [q0.cell]
            have e9 : (strs (pt ++ List.replicate (7 - j) e0))[j]? = some (.string e0) := by
              have hjl := HJL.out
              simp only [strs, List.getElem?_map]
              rw [List.getElem?_append_right (by omega), hjl, Nat.sub_self, hm]
              rfl
            exact e9
          have hfr := q0.free j
          have q1 := q0.set j (.string t1)
          have a1 := a0.far (p := ⟨G, j, none⟩) (by show (w.heap.size + 1) ≠ G; omega) (.string t1)
          have r1 := r0.far (p := ⟨G, j, none⟩) (by show w.heap.size ≠ G; omega) (.string t1)
          have b1 := b0.setCell (p := ⟨G, j, none⟩) (by show w.heap.size ≤ G; omega) (.string t1)
          have hset : (strs (pt ++ List.replicate (7 - j) e0)).set j (.string t1) = strs ((pt ++ [t1]) ++ List.replicate (7 - (j + 1)) e0) := by
            have hjl := HJL.out
            have := strs_fill [] pt (7 - (j + 1)) t1
            simp only [List.nil_append, List.length_nil, Nat.zero_add, hjl] at this
            rw [hm]
            exact this
          rw [hset] at q1
          clear hset a0 r0 b0 q0 hm
          go_upto_region 27 with fail
          obtain ⟨w3, hw3⟩ := named (w2.setCell ⟨G, j, none⟩ (.string t1))
          rw [← hw3.out] at q1 a1 r1 b1 ⊢
          clear hw3 hcl hfr
          first | rw [show (true && po) = xo from hxo.out.symm] | rw [show po = xo from hxo.out.symm]
          cases xo with
          | true =>
            go_wp2
            go_roundw
            case rel => exact ⟨j + 1, by omega, by first | rfl | go_num, by rw [E1.out], by rw [E1.out, ← Bool.and_assoc, ← hxo.out]; rfl, by rw [E1.out]; exact q1, a1, r1, b1⟩
            case measure => simp [intOf]; omega
          | false =>
            go_wp2
            go_roundw
            case rel => exact ⟨j + 1, by omega, by first | rfl | go_num, by rw [E1.out], by rw [E1.out, ← Bool.and_assoc, ← hxo.out]; rfl, by rw [E1.out]; exact q1, a1, r1, b1⟩
            case measure => simp [intOf]; omega
        · obtain rfl : j = 7 := by omega
          have h7 := takesL_length 7 r
          obtain ⟨P, hP⟩ := named (takesL 7 r)
          obtain ⟨pt, ps, po⟩ := P
          rw [← hP.out] at HSMM
          simp only [← hP.out] at h7 q0 ⊢
          clear hP hT hj hj7
          obtain ⟨s1, s2, s3, s4, s5, s6, s7, rfl⟩ := list7' pt h7
          clear h7
          replace q0 : Blk wr G [.string s1, .string s2, .string s3, .string s4, .string s5, .string s6, .string s7] 9 := q0
          rw [show ((7 : Nat) : Int) = 7 from rfl]
          go_wp2_with fail
          refine region_flatS _ (fun L u => Blk u G [.string s1, .string s2, .string s3, .string s4, .string s5, .string s6, .string s7] 9 ∧ Blk u (w.heap.size + 1) [.int .u8 (k.toNat : Int), .int .u64 0, .int .u8 0, .string ⟨#[]⟩, .string ⟨#[]⟩, .string ⟨#[]⟩, .string ⟨#[]⟩, .int .u64 0, cond (L 25) (.string s1) (.string ⟨#[]⟩), cond (L 25) (.string s2) (.string ⟨#[]⟩), cond (L 27) (.string s3) (.string ⟨#[]⟩), cond (L 27) (.string s4) (.string ⟨#[]⟩), cond (L 29) (.string s5) (.string ⟨#[]⟩), cond (L 29) (.string s6) (.string ⟨#[]⟩), cond (L 31) (.string s7) (.string ⟨#[]⟩)] 30 ∧ Blk u w.heap.size [.int .u8 0, .int .u64 0, .int .u8 0, .string ⟨#[]⟩, .string ⟨#[]⟩, .string ⟨#[]⟩, .string ⟨#[]⟩, .int .u64 0, .string ⟨#[]⟩, .string ⟨#[]⟩, .string ⟨#[]⟩, .string ⟨#[]⟩, .string ⟨#[]⟩, .string ⟨#[]⟩, .string ⟨#[]⟩] 30 ∧ Below w.heap.size w u) (fun _ _ _ => True)
            (fun _ => rel [fun v _ => v = .slice (some ⟨G, 0, none⟩) 7 7,
              fun v _ => v = .pointer (some ⟨G, 0, none⟩),
              fun v _ => v = .string s1,
              fun v _ => v = .slice (some ⟨G, 0, none⟩) 7 7,
              fun v _ => v = .pointer (some ⟨G, 1, none⟩),
              fun v _ => v = .string s2,
              fun v _ => v = .agg #[.string s1, .string s2],
              fun v _ => v = .slice (some ⟨G, 0, none⟩) 7 7,
              fun v _ => v = .pointer (some ⟨G, 2, none⟩),
              fun v _ => v = .string s3,
              fun v _ => v = .slice (some ⟨G, 0, none⟩) 7 7,
              fun v _ => v = .pointer (some ⟨G, 3, none⟩),
              fun v _ => v = .string s4,
              fun v _ => v = .agg #[.string s3, .string s4],
              fun v _ => v = .slice (some ⟨G, 0, none⟩) 7 7,
              fun v _ => v = .pointer (some ⟨G, 4, none⟩),
              fun v _ => v = .string s5,
              fun v _ => v = .slice (some ⟨G, 0, none⟩) 7 7,
              fun v _ => v = .pointer (some ⟨G, 5, none⟩),
              fun v _ => v = .string s6,
              fun v _ => v = .agg #[.string s5, .string s6],
              fun v _ => v = .slice (some ⟨G, 0, none⟩) 7 7,
              fun v _ => v = .pointer (some ⟨G, 6, none⟩),
              fun v _ => v = .string s7,
              fun v _ => v = .pointer (some ⟨(w.heap.size + 1), 8, none⟩),
              fun _ _ => True,
              fun v _ => v = .pointer (some ⟨(w.heap.size + 1), 10, none⟩),
              fun _ _ => True,
              fun v _ => v = .pointer (some ⟨(w.heap.size + 1), 12, none⟩),
              fun _ _ => True,
              fun v _ => v = .pointer (some ⟨(w.heap.size + 1), 14, none⟩),
              fun _ _ => True])
            (by kernel_rfl) (by kernel_rfl) (fun v => by simp only [putsV, Act.put, List.toList_toArray, List.setIfInBounds_toArray, List.set_cons_zero, List.set_cons_succ, Nat.reduceAdd, Nat.zero_add]; rfl) ?_ (fun _ _ _ _ _ h => h) ⟨q0, a0, r0, b0.drew⟩ ?_ (fun _ _ _ _ _ _ h => h) (fun L L' u hL h => by rw [← hL 25 (by decide)]; rw [← hL 27 (by decide)]; rw [← hL 29 (by decide)]; rw [← hL 31 (by decide)]; exact h) ?_
          · intro i L j x u u' _ _ hG h
            match j with
            | 0 => exact h
            | 1 => exact h
            | 2 => exact h
            | 3 => exact h
            | 4 => exact h
            | 5 => exact h
            | 6 => exact h
            | 7 => exact h
            | 8 => exact h
            | 9 => exact h
            | 10 => exact h
            | 11 => exact h
            | 12 => exact h
            | 13 => exact h
            | 14 => exact h
            | 15 => exact h
            | 16 => exact h
            | 17 => exact h
            | 18 => exact h
            | 19 => exact h
            | 20 => exact h
            | 21 => exact h
            | 22 => exact h
            | 23 => exact h
            | 24 => exact h
            | 25 => exact h
            | 26 => exact h
            | 27 => exact h
            | 28 => exact h
            | 29 => exact h
            | 30 => exact h
            | 31 => exact h
            | _ + 32 => trivial
          · refine ⟨?_, ?_, ?_, ?_, ?_, ?_, ?_, ?_, ?_, ?_, ?_, ?_, ?_, ?_, ?_, ?_, ?_, ?_, ?_, ?_, ?_, ?_, ?_, ?_, ?_, ?_, ?_, ?_, ?_, ?_, ?_, ?_, trivial⟩
            · intro L hL hcl v u hS hd K' hK
              simp only [waited, List.toList_toArray, Region.binds, rel, List.getD_cons_zero, List.getD_cons_succ, true_imp_iff, and_true] at hd
              simp only [rel, List.getD_cons_zero, List.getD_cons_succ, Act.put, List.setIfInBounds_toArray, List.set_cons_zero, List.set_cons_succ] at hK
              try simp only [hd] at hK
              go_simp
              exact hK.out _ _ ⟨hS, trivial, rfl⟩
            · intro L hL hcl v u hS hd K' hK
              simp only [waited, List.toList_toArray, Region.binds, rel, List.getD_cons_zero, List.getD_cons_succ, true_imp_iff, and_true] at hd
              simp only [rel, List.getD_cons_zero, List.getD_cons_succ, Act.put, List.setIfInBounds_toArray, List.set_cons_zero, List.set_cons_succ] at hK
              try simp only [hd] at hK
              go_simp
              exact hK.out _ _ ⟨hS, trivial, rfl⟩
            · intro L hL hcl v u hS hd K' hK
              simp only [waited, List.toList_toArray, Region.binds, rel, List.getD_cons_zero, List.getD_cons_succ, true_imp_iff, and_true] at hd
              simp only [rel, List.getD_cons_zero, List.getD_cons_succ, Act.put, List.setIfInBounds_toArray, List.set_cons_zero, List.set_cons_succ] at hK
              try simp only [hd] at hK
              have x0 := hS.1.cell
              go_simp
              exact hK.out _ _ ⟨hS, trivial, rfl⟩
            · intro L hL hcl v u hS hd K' hK
              simp only [waited, List.toList_toArray, Region.binds, rel, List.getD_cons_zero, List.getD_cons_succ, true_imp_iff, and_true] at hd
              simp only [rel, List.getD_cons_zero, List.getD_cons_succ, Act.put, List.setIfInBounds_toArray, List.set_cons_zero, List.set_cons_succ] at hK
              try simp only [hd] at hK
              go_simp
              exact hK.out _ _ ⟨hS, trivial, rfl⟩
            · intro L hL hcl v u hS hd K' hK
              simp only [waited, List.toList_toArray, Region.binds, rel, List.getD_cons_zero, List.getD_cons_succ, true_imp_iff, and_true] at hd
              simp only [rel, List.getD_cons_zero, List.getD_cons_succ, Act.put, List.setIfInBounds_toArray, List.set_cons_zero, List.set_cons_succ] at hK
              try simp only [hd] at hK
              go_simp
              exact hK.out _ _ ⟨hS, trivial, rfl⟩
            · intro L hL hcl v u hS hd K' hK
              simp only [waited, List.toList_toArray, Region.binds, rel, List.getD_cons_zero, List.getD_cons_succ, true_imp_iff, and_true] at hd
              simp only [rel, List.getD_cons_zero, List.getD_cons_succ, Act.put, List.setIfInBounds_toArray, List.set_cons_zero, List.set_cons_succ] at hK
              try simp only [hd] at hK
              have x0 := hS.1.cell
              go_simp
              exact hK.out _ _ ⟨hS, trivial, rfl⟩
            · intro L hL hcl v u hS hd K' hK
              simp only [waited, List.toList_toArray, Region.binds, rel, List.getD_cons_zero, List.getD_cons_succ, true_imp_iff, and_true] at hd
              simp only [rel, List.getD_cons_zero, List.getD_cons_succ, Act.put, List.setIfInBounds_toArray, List.set_cons_zero, List.set_cons_succ] at hK
              try simp only [hd] at hK
              go_simp
              exact hK.out _ _ ⟨hS, trivial, rfl⟩
            · intro L hL hcl v u hS hd K' hK
              simp only [waited, List.toList_toArray, Region.binds, rel, List.getD_cons_zero, List.getD_cons_succ, true_imp_iff, and_true] at hd
              simp only [rel, List.getD_cons_zero, List.getD_cons_succ, Act.put, List.setIfInBounds_toArray, List.set_cons_zero, List.set_cons_succ] at hK
              try simp only [hd] at hK
              go_simp
              exact hK.out _ _ ⟨hS, trivial, rfl⟩
            · intro L hL hcl v u hS hd K' hK
              simp only [waited, List.toList_toArray, Region.binds, rel, List.getD_cons_zero, List.getD_cons_succ, true_imp_iff, and_true] at hd
              simp only [rel, List.getD_cons_zero, List.getD_cons_succ, Act.put, List.setIfInBounds_toArray, List.set_cons_zero, List.set_cons_succ] at hK
              try simp only [hd] at hK
              go_simp
              exact hK.out _ _ ⟨hS, trivial, rfl⟩
            · intro L hL hcl v u hS hd K' hK
              simp only [waited, List.toList_toArray, Region.binds, rel, List.getD_cons_zero, List.getD_cons_succ, true_imp_iff, and_true] at hd
              simp only [rel, List.getD_cons_zero, List.getD_cons_succ, Act.put, List.setIfInBounds_toArray, List.set_cons_zero, List.set_cons_succ] at hK
              try simp only [hd] at hK
              have x0 := hS.1.cell
              go_simp
              exact hK.out _ _ ⟨hS, trivial, rfl⟩
            · intro L hL hcl v u hS hd K' hK
              simp only [waited, List.toList_toArray, Region.binds, rel, List.getD_cons_zero, List.getD_cons_succ, true_imp_iff, and_true] at hd
              simp only [rel, List.getD_cons_zero, List.getD_cons_succ, Act.put, List.setIfInBounds_toArray, List.set_cons_zero, List.set_cons_succ] at hK
              try simp only [hd] at hK
              go_simp
              exact hK.out _ _ ⟨hS, trivial, rfl⟩
            · intro L hL hcl v u hS hd K' hK
              simp only [waited, List.toList_toArray, Region.binds, rel, List.getD_cons_zero, List.getD_cons_succ, true_imp_iff, and_true] at hd
              simp only [rel, List.getD_cons_zero, List.getD_cons_succ, Act.put, List.setIfInBounds_toArray, List.set_cons_zero, List.set_cons_succ] at hK
              try simp only [hd] at hK
              go_simp
              exact hK.out _ _ ⟨hS, trivial, rfl⟩
            · intro L hL hcl v u hS hd K' hK
              simp only [waited, List.toList_toArray, Region.binds, rel, List.getD_cons_zero, List.getD_cons_succ, true_imp_iff, and_true] at hd
              simp only [rel, List.getD_cons_zero, List.getD_cons_succ, Act.put, List.setIfInBounds_toArray, List.set_cons_zero, List.set_cons_succ] at hK
              try simp only [hd] at hK
              have x0 := hS.1.cell
              go_simp
              exact hK.out _ _ ⟨hS, trivial, rfl⟩
            · intro L hL hcl v u hS hd K' hK
              simp only [waited, List.toList_toArray, Region.binds, rel, List.getD_cons_zero, List.getD_cons_succ, true_imp_iff, and_true] at hd
              simp only [rel, List.getD_cons_zero, List.getD_cons_succ, Act.put, List.setIfInBounds_toArray, List.set_cons_zero, List.set_cons_succ] at hK
              try simp only [hd] at hK
              go_simp
              exact hK.out _ _ ⟨hS, trivial, rfl⟩
            · intro L hL hcl v u hS hd K' hK
              simp only [waited, List.toList_toArray, Region.binds, rel, List.getD_cons_zero, List.getD_cons_succ, true_imp_iff, and_true] at hd
              simp only [rel, List.getD_cons_zero, List.getD_cons_succ, Act.put, List.setIfInBounds_toArray, List.set_cons_zero, List.set_cons_succ] at hK
              try simp only [hd] at hK
              go_simp
              exact hK.out _ _ ⟨hS, trivial, rfl⟩
            · intro L hL hcl v u hS hd K' hK
              simp only [waited, List.toList_toArray, Region.binds, rel, List.getD_cons_zero, List.getD_cons_succ, true_imp_iff, and_true] at hd
              simp only [rel, List.getD_cons_zero, List.getD_cons_succ, Act.put, List.setIfInBounds_toArray, List.set_cons_zero, List.set_cons_succ] at hK
              try simp only [hd] at hK
              go_simp
              exact hK.out _ _ ⟨hS, trivial, rfl⟩
            · intro L hL hcl v u hS hd K' hK
              simp only [waited, List.toList_toArray, Region.binds, rel, List.getD_cons_zero, List.getD_cons_succ, true_imp_iff, and_true] at hd
              simp only [rel, List.getD_cons_zero, List.getD_cons_succ, Act.put, List.setIfInBounds_toArray, List.set_cons_zero, List.set_cons_succ] at hK
              try simp only [hd] at hK
              have x0 := hS.1.cell
              go_simp
              exact hK.out _ _ ⟨hS, trivial, rfl⟩
            · intro L hL hcl v u hS hd K' hK
              simp only [waited, List.toList_toArray, Region.binds, rel, List.getD_cons_zero, List.getD_cons_succ, true_imp_iff, and_true] at hd
              simp only [rel, List.getD_cons_zero, List.getD_cons_succ, Act.put, List.setIfInBounds_toArray, List.set_cons_zero, List.set_cons_succ] at hK
              try simp only [hd] at hK
              go_simp
              exact hK.out _ _ ⟨hS, trivial, rfl⟩
            · intro L hL hcl v u hS hd K' hK
              simp only [waited, List.toList_toArray, Region.binds, rel, List.getD_cons_zero, List.getD_cons_succ, true_imp_iff, and_true] at hd
              simp only [rel, List.getD_cons_zero, List.getD_cons_succ, Act.put, List.setIfInBounds_toArray, List.set_cons_zero, List.set_cons_succ] at hK
              try simp only [hd] at hK
              go_simp
              exact hK.out _ _ ⟨hS, trivial, rfl⟩
            · intro L hL hcl v u hS hd K' hK
              simp only [waited, List.toList_toArray, Region.binds, rel, List.getD_cons_zero, List.getD_cons_succ, true_imp_iff, and_true] at hd
              simp only [rel, List.getD_cons_zero, List.getD_cons_succ, Act.put, List.setIfInBounds_toArray, List.set_cons_zero, List.set_cons_succ] at hK
              try simp only [hd] at hK
              have x0 := hS.1.cell
              go_simp
              exact hK.out _ _ ⟨hS, trivial, rfl⟩
            · intro L hL hcl v u hS hd K' hK
              simp only [waited, List.toList_toArray, Region.binds, rel, List.getD_cons_zero, List.getD_cons_succ, true_imp_iff, and_true] at hd
              simp only [rel, List.getD_cons_zero, List.getD_cons_succ, Act.put, List.setIfInBounds_toArray, List.set_cons_zero, List.set_cons_succ] at hK
              try simp only [hd] at hK
              go_simp
              exact hK.out _ _ ⟨hS, trivial, rfl⟩
            · intro L hL hcl v u hS hd K' hK
              simp only [waited, List.toList_toArray, Region.binds, rel, List.getD_cons_zero, List.getD_cons_succ, true_imp_iff, and_true] at hd
              simp only [rel, List.getD_cons_zero, List.getD_cons_succ, Act.put, List.setIfInBounds_toArray, List.set_cons_zero, List.set_cons_succ] at hK
              try simp only [hd] at hK
              go_simp
              exact hK.out _ _ ⟨hS, trivial, rfl⟩
            · intro L hL hcl v u hS hd K' hK
              simp only [waited, List.toList_toArray, Region.binds, rel, List.getD_cons_zero, List.getD_cons_succ, true_imp_iff, and_true] at hd
              simp only [rel, List.getD_cons_zero, List.getD_cons_succ, Act.put, List.setIfInBounds_toArray, List.set_cons_zero, List.set_cons_succ] at hK
              try simp only [hd] at hK
              go_simp
              exact hK.out _ _ ⟨hS, trivial, rfl⟩
            · intro L hL hcl v u hS hd K' hK
              simp only [waited, List.toList_toArray, Region.binds, rel, List.getD_cons_zero, List.getD_cons_succ, true_imp_iff, and_true] at hd
              simp only [rel, List.getD_cons_zero, List.getD_cons_succ, Act.put, List.setIfInBounds_toArray, List.set_cons_zero, List.set_cons_succ] at hK
              try simp only [hd] at hK
              have x0 := hS.1.cell
              go_simp
              exact hK.out _ _ ⟨hS, trivial, rfl⟩
            · intro L hL hcl v u hS hd K' hK
              simp only [waited, List.toList_toArray, Region.binds, rel, List.getD_cons_zero, List.getD_cons_succ, true_imp_iff, and_true] at hd
              simp only [rel, List.getD_cons_zero, List.getD_cons_succ, Act.put, List.setIfInBounds_toArray, List.set_cons_zero, List.set_cons_succ] at hK
              try simp only [hd] at hK
              go_simp
              exact hK.out _ _ ⟨hS, trivial, rfl⟩
            · intro L hL hcl v u hS hd K' hK
              simp only [waited, List.toList_toArray, Region.binds, rel, List.getD_cons_zero, List.getD_cons_succ, true_imp_iff, and_true] at hd
              simp only [rel, List.getD_cons_zero, List.getD_cons_succ, Act.put, List.setIfInBounds_toArray, List.set_cons_zero, List.set_cons_succ] at hK
              try simp only [hd] at hK
              have h1 := hS.2.1
              have x8 := h1.cell 8
              have x9 := h1.cell 9
              have f8 := h1.free 8
              have f9 := h1.free 9
              first | (obtain ⟨e0', _⟩ := hd) | (have e0' := hd)
              try simp only [e0'] at hK ⊢
              go_simp
              exact hK.out undef _ ⟨⟨((hS.1.far (p := ⟨(w.heap.size + 1), 8, none⟩) (by show G ≠ (w.heap.size + 1); omega) (.string s1)).far (p := ⟨(w.heap.size + 1), 9, none⟩) (by show G ≠ (w.heap.size + 1); omega) (.string s2)), ((hS.2.1.set 8 (.string s1)).set 9 (.string s2)), ((hS.2.2.1.far (p := ⟨(w.heap.size + 1), 8, none⟩) (by show w.heap.size ≠ (w.heap.size + 1); omega) (.string s1)).far (p := ⟨(w.heap.size + 1), 9, none⟩) (by show w.heap.size ≠ (w.heap.size + 1); omega) (.string s2)), ((hS.2.2.2.setCell (p := ⟨(w.heap.size + 1), 8, none⟩) (by show w.heap.size ≤ (w.heap.size + 1); omega) (.string s1)).setCell (p := ⟨(w.heap.size + 1), 9, none⟩) (by show w.heap.size ≤ (w.heap.size + 1); omega) (.string s2))⟩, trivial, trivial⟩
            · intro L hL hcl v u hS hd K' hK
              simp only [waited, List.toList_toArray, Region.binds, rel, List.getD_cons_zero, List.getD_cons_succ, true_imp_iff, and_true] at hd
              simp only [rel, List.getD_cons_zero, List.getD_cons_succ, Act.put, List.setIfInBounds_toArray, List.set_cons_zero, List.set_cons_succ] at hK
              try simp only [hd] at hK
              go_simp
              exact hK.out _ _ ⟨hS, trivial, rfl⟩
            · intro L hL hcl v u hS hd K' hK
              simp only [waited, List.toList_toArray, Region.binds, rel, List.getD_cons_zero, List.getD_cons_succ, true_imp_iff, and_true] at hd
              simp only [rel, List.getD_cons_zero, List.getD_cons_succ, Act.put, List.setIfInBounds_toArray, List.set_cons_zero, List.set_cons_succ] at hK
              try simp only [hd] at hK
              have h1 := hS.2.1
              have x10 := h1.cell 10
              have x11 := h1.cell 11
              have f10 := h1.free 10
              have f11 := h1.free 11
              first | (obtain ⟨e0', _⟩ := hd) | (have e0' := hd)
              try simp only [e0'] at hK ⊢
              go_simp
              exact hK.out undef _ ⟨⟨((hS.1.far (p := ⟨(w.heap.size + 1), 10, none⟩) (by show G ≠ (w.heap.size + 1); omega) (.string s3)).far (p := ⟨(w.heap.size + 1), 11, none⟩) (by show G ≠ (w.heap.size + 1); omega) (.string s4)), ((hS.2.1.set 10 (.string s3)).set 11 (.string s4)), ((hS.2.2.1.far (p := ⟨(w.heap.size + 1), 10, none⟩) (by show w.heap.size ≠ (w.heap.size + 1); omega) (.string s3)).far (p := ⟨(w.heap.size + 1), 11, none⟩) (by show w.heap.size ≠ (w.heap.size + 1); omega) (.string s4)), ((hS.2.2.2.setCell (p := ⟨(w.heap.size + 1), 10, none⟩) (by show w.heap.size ≤ (w.heap.size + 1); omega) (.string s3)).setCell (p := ⟨(w.heap.size + 1), 11, none⟩) (by show w.heap.size ≤ (w.heap.size + 1); omega) (.string s4))⟩, trivial, trivial⟩
            · intro L hL hcl v u hS hd K' hK
              simp only [waited, List.toList_toArray, Region.binds, rel, List.getD_cons_zero, List.getD_cons_succ, true_imp_iff, and_true] at hd
              simp only [rel, List.getD_cons_zero, List.getD_cons_succ, Act.put, List.setIfInBounds_toArray, List.set_cons_zero, List.set_cons_succ] at hK
              try simp only [hd] at hK
              go_simp
              exact hK.out _ _ ⟨hS, trivial, rfl⟩
            · intro L hL hcl v u hS hd K' hK
              simp only [waited, List.toList_toArray, Region.binds, rel, List.getD_cons_zero, List.getD_cons_succ, true_imp_iff, and_true] at hd
              simp only [rel, List.getD_cons_zero, List.getD_cons_succ, Act.put, List.setIfInBounds_toArray, List.set_cons_zero, List.set_cons_succ] at hK
              try simp only [hd] at hK
              have h1 := hS.2.1
              have x12 := h1.cell 12
              have x13 := h1.cell 13
              have f12 := h1.free 12
              have f13 := h1.free 13
              first | (obtain ⟨e0', _⟩ := hd) | (have e0' := hd)
              try simp only [e0'] at hK ⊢
              go_simp
              exact hK.out undef _ ⟨⟨((hS.1.far (p := ⟨(w.heap.size + 1), 12, none⟩) (by show G ≠ (w.heap.size + 1); omega) (.string s5)).far (p := ⟨(w.heap.size + 1), 13, none⟩) (by show G ≠ (w.heap.size + 1); omega) (.string s6)), ((hS.2.1.set 12 (.string s5)).set 13 (.string s6)), ((hS.2.2.1.far (p := ⟨(w.heap.size + 1), 12, none⟩) (by show w.heap.size ≠ (w.heap.size + 1); omega) (.string s5)).far (p := ⟨(w.heap.size + 1), 13, none⟩) (by show w.heap.size ≠ (w.heap.size + 1); omega) (.string s6)), ((hS.2.2.2.setCell (p := ⟨(w.heap.size + 1), 12, none⟩) (by show w.heap.size ≤ (w.heap.size + 1); omega) (.string s5)).setCell (p := ⟨(w.heap.size + 1), 13, none⟩) (by show w.heap.size ≤ (w.heap.size + 1); omega) (.string s6))⟩, trivial, trivial⟩
            · intro L hL hcl v u hS hd K' hK
              simp only [waited, List.toList_toArray, Region.binds, rel, List.getD_cons_zero, List.getD_cons_succ, true_imp_iff, and_true] at hd
              simp only [rel, List.getD_cons_zero, List.getD_cons_succ, Act.put, List.setIfInBounds_toArray, List.set_cons_zero, List.set_cons_succ] at hK
              try simp only [hd] at hK
              go_simp
              exact hK.out _ _ ⟨hS, trivial, rfl⟩
            · intro L hL hcl v u hS hd K' hK
              simp only [waited, List.toList_toArray, Region.binds, rel, List.getD_cons_zero, List.getD_cons_succ, true_imp_iff, and_true] at hd
              simp only [rel, List.getD_cons_zero, List.getD_cons_succ, Act.put, List.setIfInBounds_toArray, List.set_cons_zero, List.set_cons_succ] at hK
              try simp only [hd] at hK
              have h1 := hS.2.1
              have x14 := h1.cell 14
              have f14 := h1.free 14
              first | (obtain ⟨e0', _⟩ := hd) | (have e0' := hd)
              try simp only [e0'] at hK ⊢
              go_simp
              exact hK.out undef _ ⟨⟨(hS.1.far (p := ⟨(w.heap.size + 1), 14, none⟩) (by show G ≠ (w.heap.size + 1); omega) (.string s7)), (hS.2.1.set 14 (.string s7)), (hS.2.2.1.far (p := ⟨(w.heap.size + 1), 14, none⟩) (by show w.heap.size ≠ (w.heap.size + 1); omega) (.string s7)), (hS.2.2.2.setCell (p := ⟨(w.heap.size + 1), 14, none⟩) (by show w.heap.size ≤ (w.heap.size + 1); omega) (.string s7))⟩, trivial, trivial⟩
          · rintro v u hS hR
            simp only [holdAll, List.size_toArray, List.length_cons, List.length_nil, Nat.reduceAdd, rel, List.getD_cons_zero, List.getD_cons_succ] at hR
            clear hR
            obtain ⟨hG9, hA9, hR9, hb9⟩ := hS
            replace hA9 : Blk u (w.heap.size + 1) [.int .u8 (k.toNat : Int), .int .u64 0, .int .u8 0, .string ⟨#[]⟩, .string ⟨#[]⟩, .string ⟨#[]⟩, .string ⟨#[]⟩, .int .u64 0, .string s1, .string s2, .string s3, .string s4, .string s5, .string s6, .string s7] 30 := hA9
            clear hG9 q0 a0 r0 b0
            obtain ⟨w4, hw4⟩ := named u
            rw [← hw4.out] at hA9 hR9 hb9 ⊢
            clear hw4
            go_wp2
            go_meet
            case rel => exact ⟨_, _, rfl, HSMM, hA9, hR9, hb9⟩
    by_cases c6 : k = 6
    case pos =>
      have HSM := refAsk_6 (r := r) c6
      rw [decide_eq_false c2] at d2
      rw [decide_eq_false c3] at d3
      rw [decide_eq_false c4] at d4
      rw [decide_eq_false c5] at d5
      rw [decide_eq_true c6] at d6
      clear c2 c3 c4 c5 c6
      obtain ⟨N9, hN9⟩ := named (numL r)
      rw [← hN9.out] at HSM
      simp only [← hN9.out] at hN hnl
      clear hN9
      obtain ⟨n, q, on⟩ := N9
      simp only at hN hnl HSM
      have HSMM := hide HSM
      clear HSM
      have x9 := a0.cell 0
      go_wp2_with fail
      refine (hN _).mono ?_
      rintro e w2 ⟨rfl, hb2⟩
      have xA := (a0.below hb2).cell
      have fA := (a0.below hb2).free
      have aN := (a0.below hb2).set 7 (.int .u64 (n : Int))
      have rN := (r0.below hb2).far (p := ⟨(w.heap.size + 1), 7, none⟩) (by show w.heap.size ≠ (w.heap.size + 1); omega) (.int .u64 (n : Int))
      have bN := (bt b0 hb2).setCell (p := ⟨(w.heap.size + 1), 7, none⟩) (by show w.heap.size ≤ (w.heap.size + 1); omega) (.int .u64 (n : Int))
      clear hN a0 r0 b0 hb2
      go_upto_region 21 with fail
      obtain ⟨W2, hW2⟩ := named (w2.setCell ⟨(w.heap.size + 1), 7, none⟩ (.int .u64 (n : Int)))
      rw [← hW2.out] at aN rN bN ⊢
      clear hW2 xA fA
      have hmk := run_make_row' (P := Try.prog) 40 9 (.string ⟨#[]⟩) 16 Try.underlying40 Try.info9 rfl .i64 .i64 7 (by omega) (by omega)
      rw [show madeCells #[(.string ⟨#[]⟩ : Value)] 7 = #[.string ⟨#[]⟩, .string ⟨#[]⟩, .string ⟨#[]⟩, .string ⟨#[]⟩, .string ⟨#[]⟩, .string ⟨#[]⟩, .string ⟨#[]⟩] by kernel_rfl] at hmk
      have hmk' : ∀ w, (Instr.makeSlice 40 (.int .i64 7) (.int .i64 7)).run Try.prog w = .ok (.slice (some ⟨w.heap.size, 0, none⟩) 7 7) (w.alloc (.cells #[.string ⟨#[]⟩, .string ⟨#[]⟩, .string ⟨#[]⟩, .string ⟨#[]⟩, .string ⟨#[]⟩, .string ⟨#[]⟩, .string ⟨#[]⟩] 9)) := hmk
      clear hmk
      have a1 := aN.alloc (.cells #[.string ⟨#[]⟩, .string ⟨#[]⟩, .string ⟨#[]⟩, .string ⟨#[]⟩, .string ⟨#[]⟩, .string ⟨#[]⟩, .string ⟨#[]⟩] 9)
      have r1 := rN.alloc (.cells #[.string ⟨#[]⟩, .string ⟨#[]⟩, .string ⟨#[]⟩, .string ⟨#[]⟩, .string ⟨#[]⟩, .string ⟨#[]⟩, .string ⟨#[]⟩] 9)
      have b1 := bt bN (below_alloc _ (.cells #[.string ⟨#[]⟩, .string ⟨#[]⟩, .string ⟨#[]⟩, .string ⟨#[]⟩, .string ⟨#[]⟩, .string ⟨#[]⟩, .string ⟨#[]⟩] 9))
      have q1 := Blk.new W2 [.string ⟨#[]⟩, .string ⟨#[]⟩, .string ⟨#[]⟩, .string ⟨#[]⟩, .string ⟨#[]⟩, .string ⟨#[]⟩, .string ⟨#[]⟩] 9
      have hGA := aN.lt
      go_upto_region 23 with fail
      obtain ⟨G, hG⟩ := named W2.heap.size
      obtain ⟨W5, hW5⟩ := named (W2.alloc (.cells #[.string ⟨#[]⟩, .string ⟨#[]⟩, .string ⟨#[]⟩, .string ⟨#[]⟩, .string ⟨#[]⟩, .string ⟨#[]⟩, .string ⟨#[]⟩] 9))
      rw [← hG.out] at q1 hGA ⊢
      rw [← hW5.out] at a1 r1 b1 q1 ⊢
      clear hG hW5 hmk' aN rN bN
      go_loopw [76, 5, 6] (fun i s x wr => ∃ j : Nat, j ≤ 7 ∧ i = .int .i64 (j : Int) ∧ s = .string (str (takesL j q).2.1) ∧ x = .bool (on && (takesL j q).2.2) ∧ Blk wr G (strs ((takesL j q).1 ++ List.replicate (7 - j) e0)) 9 ∧ Blk wr (w.heap.size + 1) [.int .u8 (k.toNat : Int), .int .u64 0, .int .u8 0, .string ⟨#[]⟩, .string ⟨#[]⟩, .string ⟨#[]⟩, .string ⟨#[]⟩, .int .u64 (n : Int), .string ⟨#[]⟩, .string ⟨#[]⟩, .string ⟨#[]⟩, .string ⟨#[]⟩, .string ⟨#[]⟩, .string ⟨#[]⟩, .string ⟨#[]⟩] 30 ∧ Blk wr w.heap.size [.int .u8 0, .int .u64 0, .int .u8 0, .string ⟨#[]⟩, .string ⟨#[]⟩, .string ⟨#[]⟩, .string ⟨#[]⟩, .int .u64 0, .string ⟨#[]⟩, .string ⟨#[]⟩, .string ⟨#[]⟩, .string ⟨#[]⟩, .string ⟨#[]⟩, .string ⟨#[]⟩, .string ⟨#[]⟩] 30 ∧ Below w.heap.size w wr) (fun i _ _ _ => 7 - (intOf i).toNat)
      case atStart => exact ⟨0, by omega, rfl, rfl, by first | rfl | simp [takesL], q1, a1, r1, b1⟩
      case round =>
        clear a1 r1 b1 q1
        obtain ⟨j, hj7, rfl, rfl, rfl, q0, a0, r0, b0⟩ := hrel
        by_cases hj : j < 7
        · have hjl := takesL_length j q
          have hTj := hT q (by first | exact Nat.le_refl _ | exact hnl) j wr
          have e1 : takesL (j + 1) q = ((takesL j q).1 ++ [str (tkL (takesL j q).2.1).1], (tkL (takesL j q).2.1).2.1, (takesL j q).2.2 && (tkL (takesL j q).2.1).2.2) := rfl
          have E1 := hide e1
          clear e1 hT HSMM
          obtain ⟨P, hP⟩ := named (takesL j q)
          obtain ⟨pt, ps, po⟩ := P
          simp only [← hP.out] at hTj hjl q0 E1 ⊢
          clear hP
          obtain ⟨Y, hY⟩ := named (tkL ps)
          obtain ⟨y1, y2, y3⟩ := Y
          simp only [← hY.out] at hTj E1
          clear hY
          obtain ⟨t1, ht1⟩ := named (str y1)
          simp only [← ht1.out] at hTj E1
          clear ht1
          have hm : 7 - j = (7 - (j + 1)) + 1 := by omega
          have HJL := hide hjl
          clear hjl
          obtain ⟨xo, hxo⟩ := named (on && po)
          go_wp2_with fail
          refine hTj.mono ?_
          rintro e w2 ⟨rfl, hb2⟩
          replace q0 := q0.below hb2
          replace a0 := a0.below hb2
          replace r0 := r0.below hb2
          replace b0 := bt b0 hb2
          clear hb2 hTj
          have hlt : (j : Int) < 7 := by omega
          have hj0 : (0 : Int) ≤ (j : Int) := by omega
          have hcl : w2.cell? ⟨G, j, none⟩ = some (.string e0) := by
            rw [q0.cell]
            have e9 : (strs (pt ++ List.replicate (7 - j) e0))[j]? = some (.string e0) := by
              have hjl := HJL.out
              simp only [strs, List.getElem?_map]
              rw [List.getElem?_append_right (by omega), hjl, Nat.sub_self, hm]
              rfl
            exact e9
          have hfr := q0.free j
          have q1 := q0.set j (.string t1)
          have a1 := a0.far (p := ⟨G, j, none⟩) (by show (w.heap.size + 1) ≠ G; omega) (.string t1)
          have r1 := r0.far (p := ⟨G, j, none⟩) (by show w.heap.size ≠ G; omega) (.string t1)
          have b1 := b0.setCell (p := ⟨G, j, none⟩) (by show w.heap.size ≤ G; omega) (.string t1)
          have hset : (strs (pt ++ List.replicate (7 - j) e0)).set j (.string t1) = strs ((pt ++ [t1]) ++ List.replicate (7 - (j + 1)) e0) := by
            have hjl := HJL.out
            have := strs_fill [] pt (7 - (j + 1)) t1
            simp only [List.nil_append, List.length_nil, Nat.zero_add, hjl] at this
            rw [hm]
            exact this
          rw [hset] at q1
          clear hset a0 r0 b0 q0 hm
          go_upto_region 27 with fail
          obtain ⟨w3, hw3⟩ := named (w2.setCell ⟨G, j, none⟩ (.string t1))
          rw [← hw3.out] at q1 a1 r1 b1 ⊢
          clear hw3 hcl hfr
          first | rw [show (on && po) = xo from hxo.out.symm] | rw [show po = xo from hxo.out.symm]
          cases xo with
          | true =>
            go_wp2
            go_roundw
            case rel => exact ⟨j + 1, by omega, by first | rfl | go_num, by rw [E1.out], by rw [E1.out, ← Bool.and_assoc, ← hxo.out]; rfl, by rw [E1.out]; exact q1, a1, r1, b1⟩
            case measure => simp [intOf]; omega
          | false =>
            go_wp2
            go_roundw
            case rel => exact ⟨j + 1, by omega, by first | rfl | go_num, by rw [E1.out], by rw [E1.out, ← Bool.and_assoc, ← hxo.out]; rfl, by rw [E1.out]; exact q1, a1, r1, b1⟩
            case measure => simp [intOf]; omega
        · obtain rfl : j = 7 := by omega
          have h7 := takesL_length 7 q
          obtain ⟨P, hP⟩ := named (takesL 7 q)
          obtain ⟨pt, ps, po⟩ := P
          rw [← hP.out] at HSMM
          simp only [← hP.out] at h7 q0 ⊢
          clear hP hT hj hj7
          obtain ⟨s1, s2, s3, s4, s5, s6, s7, rfl⟩ := list7' pt h7
          clear h7
          replace q0 : Blk wr G [.string s1, .string s2, .string s3, .string s4, .string s5, .string s6, .string s7] 9 := q0
          rw [show ((7 : Nat) : Int) = 7 from rfl]
          go_wp2_with fail
          refine region_flatS _ (fun L u => Blk u G [.string s1, .string s2, .string s3, .string s4, .string s5, .string s6, .string s7] 9 ∧ Blk u (w.heap.size + 1) [.int .u8 (k.toNat : Int), .int .u64 0, .int .u8 0, .string ⟨#[]⟩, .string ⟨#[]⟩, .string ⟨#[]⟩, .string ⟨#[]⟩, .int .u64 (n : Int), cond (L 25) (.string s1) (.string ⟨#[]⟩), cond (L 25) (.string s2) (.string ⟨#[]⟩), cond (L 27) (.string s3) (.string ⟨#[]⟩), cond (L 27) (.string s4) (.string ⟨#[]⟩), cond (L 29) (.string s5) (.string ⟨#[]⟩), cond (L 29) (.string s6) (.string ⟨#[]⟩), cond (L 31) (.string s7) (.string ⟨#[]⟩)] 30 ∧ Blk u w.heap.size [.int .u8 0, .int .u64 0, .int .u8 0, .string ⟨#[]⟩, .string ⟨#[]⟩, .string ⟨#[]⟩, .string ⟨#[]⟩, .int .u64 0, .string ⟨#[]⟩, .string ⟨#[]⟩, .string ⟨#[]⟩, .string ⟨#[]⟩, .string ⟨#[]⟩, .string ⟨#[]⟩, .string ⟨#[]⟩] 30 ∧ Below w.heap.size w u) (fun _ _ _ => True)
            (fun _ => rel [fun v _ => v = .slice (some ⟨G, 0, none⟩) 7 7,
              fun v _ => v = .pointer (some ⟨G, 0, none⟩),
              fun v _ => v = .string s1,
              fun v _ => v = .slice (some ⟨G, 0, none⟩) 7 7,
              fun v _ => v = .pointer (some ⟨G, 1, none⟩),
              fun v _ => v = .string s2,
              fun v _ => v = .agg #[.string s1, .string s2],
              fun v _ => v = .slice (some ⟨G, 0, none⟩) 7 7,
              fun v _ => v = .pointer (some ⟨G, 2, none⟩),
              fun v _ => v = .string s3,
              fun v _ => v = .slice (some ⟨G, 0, none⟩) 7 7,
              fun v _ => v = .pointer (some ⟨G, 3, none⟩),
              fun v _ => v = .string s4,
              fun v _ => v = .agg #[.string s3, .string s4],
              fun v _ => v = .slice (some ⟨G, 0, none⟩) 7 7,
              fun v _ => v = .pointer (some ⟨G, 4, none⟩),
              fun v _ => v = .string s5,
              fun v _ => v = .slice (some ⟨G, 0, none⟩) 7 7,
              fun v _ => v = .pointer (some ⟨G, 5, none⟩),
              fun v _ => v = .string s6,
              fun v _ => v = .agg #[.string s5, .string s6],
              fun v _ => v = .slice (some ⟨G, 0, none⟩) 7 7,
              fun v _ => v = .pointer (some ⟨G, 6, none⟩),
              fun v _ => v = .string s7,
              fun v _ => v = .pointer (some ⟨(w.heap.size + 1), 8, none⟩),
              fun _ _ => True,
              fun v _ => v = .pointer (some ⟨(w.heap.size + 1), 10, none⟩),
              fun _ _ => True,
              fun v _ => v = .pointer (some ⟨(w.heap.size + 1), 12, none⟩),
              fun _ _ => True,
              fun v _ => v = .pointer (some ⟨(w.heap.size + 1), 14, none⟩),
              fun _ _ => True])
            (by kernel_rfl) (by kernel_rfl) (fun v => by simp only [putsV, Act.put, List.toList_toArray, List.setIfInBounds_toArray, List.set_cons_zero, List.set_cons_succ, Nat.reduceAdd, Nat.zero_add]; rfl) ?_ (fun _ _ _ _ _ h => h) ⟨q0, a0, r0, b0.drew⟩ ?_ (fun _ _ _ _ _ _ h => h) (fun L L' u hL h => by rw [← hL 25 (by decide)]; rw [← hL 27 (by decide)]; rw [← hL 29 (by decide)]; rw [← hL 31 (by decide)]; exact h) ?_
          · intro i L j x u u' _ _ hG h
            match j with
            | 0 => exact h
            | 1 => exact h
            | 2 => exact h
            | 3 => exact h
            | 4 => exact h
            | 5 => exact h
            | 6 => exact h
            | 7 => exact h
            | 8 => exact h
            | 9 => exact h
            | 10 => exact h
            | 11 => exact h
            | 12 => exact h
            | 13 => exact h
            | 14 => exact h
            | 15 => exact h
            | 16 => exact h
            | 17 => exact h
            | 18 => exact h
            | 19 => exact h
            | 20 => exact h
            | 21 => exact h
            | 22 => exact h
            | 23 => exact h
            | 24 => exact h
            | 25 => exact h
            | 26 => exact h
            | 27 => exact h
            | 28 => exact h
            | 29 => exact h
            | 30 => exact h
            | 31 => exact h
            | _ + 32 => trivial
          · refine ⟨?_, ?_, ?_, ?_, ?_, ?_, ?_, ?_, ?_, ?_, ?_, ?_, ?_, ?_, ?_, ?_, ?_, ?_, ?_, ?_, ?_, ?_, ?_, ?_, ?_, ?_, ?_, ?_, ?_, ?_, ?_, ?_, trivial⟩
            · intro L hL hcl v u hS hd K' hK
              simp only [waited, List.toList_toArray, Region.binds, rel, List.getD_cons_zero, List.getD_cons_succ, true_imp_iff, and_true] at hd
              simp only [rel, List.getD_cons_zero, List.getD_cons_succ, Act.put, List.setIfInBounds_toArray, List.set_cons_zero, List.set_cons_succ] at hK
              try simp only [hd] at hK
              go_simp
              exact hK.out _ _ ⟨hS, trivial, rfl⟩
            · intro L hL hcl v u hS hd K' hK
              simp only [waited, List.toList_toArray, Region.binds, rel, List.getD_cons_zero, List.getD_cons_succ, true_imp_iff, and_true] at hd
              simp only [rel, List.getD_cons_zero, List.getD_cons_succ, Act.put, List.setIfInBounds_toArray, List.set_cons_zero, List.set_cons_succ] at hK
              try simp only [hd] at hK
              go_simp
              exact hK.out _ _ ⟨hS, trivial, rfl⟩
            · intro L hL hcl v u hS hd K' hK
              simp only [waited, List.toList_toArray, Region.binds, rel, List.getD_cons_zero, List.getD_cons_succ, true_imp_iff, and_true] at hd
              simp only [rel, List.getD_cons_zero, List.getD_cons_succ, Act.put, List.setIfInBounds_toArray, List.set_cons_zero, List.set_cons_succ] at hK
              try simp only [hd] at hK
              have x0 := hS.1.cell
              go_simp
              exact hK.out _ _ ⟨hS, trivial, rfl⟩
            · intro L hL hcl v u hS hd K' hK
              simp only [waited, List.toList_toArray, Region.binds, rel, List.getD_cons_zero, List.getD_cons_succ, true_imp_iff, and_true] at hd
              simp only [rel, List.getD_cons_zero, List.getD_cons_succ, Act.put, List.setIfInBounds_toArray, List.set_cons_zero, List.set_cons_succ] at hK
              try simp only [hd] at hK
              go_simp
              exact hK.out _ _ ⟨hS, trivial, rfl⟩
            · intro L hL hcl v u hS hd K' hK
              simp only [waited, List.toList_toArray, Region.binds, rel, List.getD_cons_zero, List.getD_cons_succ, true_imp_iff, and_true] at hd
              simp only [rel, List.getD_cons_zero, List.getD_cons_succ, Act.put, List.setIfInBounds_toArray, List.set_cons_zero, List.set_cons_succ] at hK
              try simp only [hd] at hK
              go_simp
              exact hK.out _ _ ⟨hS, trivial, rfl⟩
            · intro L hL hcl v u hS hd K' hK
              simp only [waited, List.toList_toArray, Region.binds, rel, List.getD_cons_zero, List.getD_cons_succ, true_imp_iff, and_true] at hd
              simp only [rel, List.getD_cons_zero, List.getD_cons_succ, Act.put, List.setIfInBounds_toArray, List.set_cons_zero, List.set_cons_succ] at hK
              try simp only [hd] at hK
              have x0 := hS.1.cell
              go_simp
              exact hK.out _ _ ⟨hS, trivial, rfl⟩
            · intro L hL hcl v u hS hd K' hK
              simp only [waited, List.toList_toArray, Region.binds, rel, List.getD_cons_zero, List.getD_cons_succ, true_imp_iff, and_true] at hd
              simp only [rel, List.getD_cons_zero, List.getD_cons_succ, Act.put, List.setIfInBounds_toArray, List.set_cons_zero, List.set_cons_succ] at hK
              try simp only [hd] at hK
              go_simp
              exact hK.out _ _ ⟨hS, trivial, rfl⟩
            · intro L hL hcl v u hS hd K' hK
              simp only [waited, List.toList_toArray, Region.binds, rel, List.getD_cons_zero, List.getD_cons_succ, true_imp_iff, and_true] at hd
              simp only [rel, List.getD_cons_zero, List.getD_cons_succ, Act.put, List.setIfInBounds_toArray, List.set_cons_zero, List.set_cons_succ] at hK
              try simp only [hd] at hK
              go_simp
              exact hK.out _ _ ⟨hS, trivial, rfl⟩
            · intro L hL hcl v u hS hd K' hK
              simp only [waited, List.toList_toArray, Region.binds, rel, List.getD_cons_zero, List.getD_cons_succ, true_imp_iff, and_true] at hd
              simp only [rel, List.getD_cons_zero, List.getD_cons_succ, Act.put, List.setIfInBounds_toArray, List.set_cons_zero, List.set_cons_succ] at hK
              try simp only [hd] at hK
              go_simp
              exact hK.out _ _ ⟨hS, trivial, rfl⟩
            · intro L hL hcl v u hS hd K' hK
              simp only [waited, List.toList_toArray, Region.binds, rel, List.getD_cons_zero, List.getD_cons_succ, true_imp_iff, and_true] at hd
              simp only [rel, List.getD_cons_zero, List.getD_cons_succ, Act.put, List.setIfInBounds_toArray, List.set_cons_zero, List.set_cons_succ] at hK
              try simp only [hd] at hK
              have x0 := hS.1.cell
              go_simp
              exact hK.out _ _ ⟨hS, trivial, rfl⟩
            · intro L hL hcl v u hS hd K' hK
              simp only [waited, List.toList_toArray, Region.binds, rel, List.getD_cons_zero, List.getD_cons_succ, true_imp_iff, and_true] at hd
              simp only [rel, List.getD_cons_zero, List.getD_cons_succ, Act.put, List.setIfInBounds_toArray, List.set_cons_zero, List.set_cons_succ] at hK
              try simp only [hd] at hK
              go_simp
              exact hK.out _ _ ⟨hS, trivial, rfl⟩
            · intro L hL hcl v u hS hd K' hK
              simp only [waited, List.toList_toArray, Region.binds, rel, List.getD_cons_zero, List.getD_cons_succ, true_imp_iff, and_true] at hd
              simp only [rel, List.getD_cons_zero, List.getD_cons_succ, Act.put, List.setIfInBounds_toArray, List.set_cons_zero, List.set_cons_succ] at hK
              try simp only [hd] at hK
              go_simp
              exact hK.out _ _ ⟨hS, trivial, rfl⟩
            · intro L hL hcl v u hS hd K' hK
              simp only [waited, List.toList_toArray, Region.binds, rel, List.getD_cons_zero, List.getD_cons_succ, true_imp_iff, and_true] at hd
              simp only [rel, List.getD_cons_zero, List.getD_cons_succ, Act.put, List.setIfInBounds_toArray, List.set_cons_zero, List.set_cons_succ] at hK
              try simp only [hd] at hK
              have x0 := hS.1.cell
              go_simp
              exact hK.out _ _ ⟨hS, trivial, rfl⟩
            · intro L hL hcl v u hS hd K' hK
              simp only [waited, List.toList_toArray, Region.binds, rel, List.getD_cons_zero, List.getD_cons_succ, true_imp_iff, and_true] at hd
              simp only [rel, List.getD_cons_zero, List.getD_cons_succ, Act.put, List.setIfInBounds_toArray, List.set_cons_zero, List.set_cons_succ] at hK
              try simp only [hd] at hK
              go_simp
              exact hK.out _ _ ⟨hS, trivial, rfl⟩
            · intro L hL hcl v u hS hd K' hK
              simp only [waited, List.toList_toArray, Region.binds, rel, List.getD_cons_zero, List.getD_cons_succ, true_imp_iff, and_true] at hd
              simp only [rel, List.getD_cons_zero, List.getD_cons_succ, Act.put, List.setIfInBounds_toArray, List.set_cons_zero, List.set_cons_succ] at hK
              try simp only [hd] at hK
              go_simp
              exact hK.out _ _ ⟨hS, trivial, rfl⟩
            · intro L hL hcl v u hS hd K' hK
              simp only [waited, List.toList_toArray, Region.binds, rel, List.getD_cons_zero, List.getD_cons_succ, true_imp_iff, and_true] at hd
              simp only [rel, List.getD_cons_zero, List.getD_cons_succ, Act.put, List.setIfInBounds_toArray, List.set_cons_zero, List.set_cons_succ] at hK
              try simp only [hd] at hK
              go_simp
              exact hK.out _ _ ⟨hS, trivial, rfl⟩
            · intro L hL hcl v u hS hd K' hK
              simp only [waited, List.toList_toArray, Region.binds, rel, List.getD_cons_zero, List.getD_cons_succ, true_imp_iff, and_true] at hd
              simp only [rel, List.getD_cons_zero, List.getD_cons_succ, Act.put, List.setIfInBounds_toArray, List.set_cons_zero, List.set_cons_succ] at hK
              try simp only [hd] at hK
              have x0 := hS.1.cell
              go_simp
              exact hK.out _ _ ⟨hS, trivial, rfl⟩
            · intro L hL hcl v u hS hd K' hK
              simp only [waited, List.toList_toArray, Region.binds, rel, List.getD_cons_zero, List.getD_cons_succ, true_imp_iff, and_true] at hd
              simp only [rel, List.getD_cons_zero, List.getD_cons_succ, Act.put, List.setIfInBounds_toArray, List.set_cons_zero, List.set_cons_succ] at hK
              try simp only [hd] at hK
              go_simp
              exact hK.out _ _ ⟨hS, trivial, rfl⟩
            · intro L hL hcl v u hS hd K' hK
              simp only [waited, List.toList_toArray, Region.binds, rel, List.getD_cons_zero, List.getD_cons_succ, true_imp_iff, and_true] at hd
              simp only [rel, List.getD_cons_zero, List.getD_cons_succ, Act.put, List.setIfInBounds_toArray, List.set_cons_zero, List.set_cons_succ] at hK
              try simp only [hd] at hK
              go_simp
              exact hK.out _ _ ⟨hS, trivial, rfl⟩
            · intro L hL hcl v u hS hd K' hK
              simp only [waited, List.toList_toArray, Region.binds, rel, List.getD_cons_zero, List.getD_cons_succ, true_imp_iff, and_true] at hd
              simp only [rel, List.getD_cons_zero, List.getD_cons_succ, Act.put, List.setIfInBounds_toArray, List.set_cons_zero, List.set_cons_succ] at hK
              try simp only [hd] at hK
              have x0 := hS.1.cell
              go_simp
              exact hK.out _ _ ⟨hS, trivial, rfl⟩
            · intro L hL hcl v u hS hd K' hK
              simp only [waited, List.toList_toArray, Region.binds, rel, List.getD_cons_zero, List.getD_cons_succ, true_imp_iff, and_true] at hd
              simp only [rel, List.getD_cons_zero, List.getD_cons_succ, Act.put, List.setIfInBounds_toArray, List.set_cons_zero, List.set_cons_succ] at hK
              try simp only [hd] at hK
              go_simp
              exact hK.out _ _ ⟨hS, trivial, rfl⟩
            · intro L hL hcl v u hS hd K' hK
              simp only [waited, List.toList_toArray, Region.binds, rel, List.getD_cons_zero, List.getD_cons_succ, true_imp_iff, and_true] at hd
              simp only [rel, List.getD_cons_zero, List.getD_cons_succ, Act.put, List.setIfInBounds_toArray, List.set_cons_zero, List.set_cons_succ] at hK
              try simp only [hd] at hK
              go_simp
              exact hK.out _ _ ⟨hS, trivial, rfl⟩
            · intro L hL hcl v u hS hd K' hK
              simp only [waited, List.toList_toArray, Region.binds, rel, List.getD_cons_zero, List.getD_cons_succ, true_imp_iff, and_true] at hd
              simp only [rel, List.getD_cons_zero, List.getD_cons_succ, Act.put, List.setIfInBounds_toArray, List.set_cons_zero, List.set_cons_succ] at hK
              try simp only [hd] at hK
              go_simp
              exact hK.out _ _ ⟨hS, trivial, rfl⟩
            · intro L hL hcl v u hS hd K' hK
              simp only [waited, List.toList_toArray, Region.binds, rel, List.getD_cons_zero, List.getD_cons_succ, true_imp_iff, and_true] at hd
              simp only [rel, List.getD_cons_zero, List.getD_cons_succ, Act.put, List.setIfInBounds_toArray, List.set_cons_zero, List.set_cons_succ] at hK
              try simp only [hd] at hK
              have x0 := hS.1.cell
              go_simp
              exact hK.out _ _ ⟨hS, trivial, rfl⟩
            · intro L hL hcl v u hS hd K' hK
              simp only [waited, List.toList_toArray, Region.binds, rel, List.getD_cons_zero, List.getD_cons_succ, true_imp_iff, and_true] at hd
              simp only [rel, List.getD_cons_zero, List.getD_cons_succ, Act.put, List.setIfInBounds_toArray, List.set_cons_zero, List.set_cons_succ] at hK
              try simp only [hd] at hK
              go_simp
              exact hK.out _ _ ⟨hS, trivial, rfl⟩
            · intro L hL hcl v u hS hd K' hK
              simp only [waited, List.toList_toArray, Region.binds, rel, List.getD_cons_zero, List.getD_cons_succ, true_imp_iff, and_true] at hd
              simp only [rel, List.getD_cons_zero, List.getD_cons_succ, Act.put, List.setIfInBounds_toArray, List.set_cons_zero, List.set_cons_succ] at hK
              try simp only [hd] at hK
              have h1 := hS.2.1
              have x8 := h1.cell 8
              have x9 := h1.cell 9
              have f8 := h1.free 8
              have f9 := h1.free 9
              first | (obtain ⟨e0', _⟩ := hd) | (have e0' := hd)
              try simp only [e0'] at hK ⊢
              go_simp
              exact hK.out undef _ ⟨⟨((hS.1.far (p := ⟨(w.heap.size + 1), 8, none⟩) (by show G ≠ (w.heap.size + 1); omega) (.string s1)).far (p := ⟨(w.heap.size + 1), 9, none⟩) (by show G ≠ (w.heap.size + 1); omega) (.string s2)), ((hS.2.1.set 8 (.string s1)).set 9 (.string s2)), ((hS.2.2.1.far (p := ⟨(w.heap.size + 1), 8, none⟩) (by show w.heap.size ≠ (w.heap.size + 1); omega) (.string s1)).far (p := ⟨(w.heap.size + 1), 9, none⟩) (by show w.heap.size ≠ (w.heap.size + 1); omega) (.string s2)), ((hS.2.2.2.setCell (p := ⟨(w.heap.size + 1), 8, none⟩) (by show w.heap.size ≤ (w.heap.size + 1); omega) (.string s1)).setCell (p := ⟨(w.heap.size + 1), 9, none⟩) (by show w.heap.size ≤ (w.heap.size + 1); omega) (.string s2))⟩, trivial, trivial⟩
            · intro L hL hcl v u hS hd K' hK
              simp only [waited, List.toList_toArray, Region.binds, rel, List.getD_cons_zero, List.getD_cons_succ, true_imp_iff, and_true] at hd
              simp only [rel, List.getD_cons_zero, List.getD_cons_succ, Act.put, List.setIfInBounds_toArray, List.set_cons_zero, List.set_cons_succ] at hK
              try simp only [hd] at hK
              go_simp
              exact hK.out _ _ ⟨hS, trivial, rfl⟩
            · intro L hL hcl v u hS hd K' hK
              simp only [waited, List.toList_toArray, Region.binds, rel, List.getD_cons_zero, List.getD_cons_succ, true_imp_iff, and_true] at hd
              simp only [rel, List.getD_cons_zero, List.getD_cons_succ, Act.put, List.setIfInBounds_toArray, List.set_cons_zero, List.set_cons_succ] at hK
              try simp only [hd] at hK
              have h1 := hS.2.1
              have x10 := h1.cell 10
              have x11 := h1.cell 11
              have f10 := h1.free 10
              have f11 := h1.free 11
              first | (obtain ⟨e0', _⟩ := hd) | (have e0' := hd)
              try simp only [e0'] at hK ⊢
              go_simp
              exact hK.out undef _ ⟨⟨((hS.1.far (p := ⟨(w.heap.size + 1), 10, none⟩) (by show G ≠ (w.heap.size + 1); omega) (.string s3)).far (p := ⟨(w.heap.size + 1), 11, none⟩) (by show G ≠ (w.heap.size + 1); omega) (.string s4)), ((hS.2.1.set 10 (.string s3)).set 11 (.string s4)), ((hS.2.2.1.far (p := ⟨(w.heap.size + 1), 10, none⟩) (by show w.heap.size ≠ (w.heap.size + 1); omega) (.string s3)).far (p := ⟨(w.heap.size + 1), 11, none⟩) (by show w.heap.size ≠ (w.heap.size + 1); omega) (.string s4)), ((hS.2.2.2.setCell (p := ⟨(w.heap.size + 1), 10, none⟩) (by show w.heap.size ≤ (w.heap.size + 1); omega) (.string s3)).setCell (p := ⟨(w.heap.size + 1), 11, none⟩) (by show w.heap.size ≤ (w.heap.size + 1); omega) (.string s4))⟩, trivial, trivial⟩
            · intro L hL hcl v u hS hd K' hK
              simp only [waited, List.toList_toArray, Region.binds, rel, List.getD_cons_zero, List.getD_cons_succ, true_imp_iff, and_true] at hd
              simp only [rel, List.getD_cons_zero, List.getD_cons_succ, Act.put, List.setIfInBounds_toArray, List.set_cons_zero, List.set_cons_succ] at hK
              try simp only [hd] at hK
              go_simp
              exact hK.out _ _ ⟨hS, trivial, rfl⟩
            · intro L hL hcl v u hS hd K' hK
              simp only [waited, List.toList_toArray, Region.binds, rel, List.getD_cons_zero, List.getD_cons_succ, true_imp_iff, and_true] at hd
              simp only [rel, List.getD_cons_zero, List.getD_cons_succ, Act.put, List.setIfInBounds_toArray, List.set_cons_zero, List.set_cons_succ] at hK
              try simp only [hd] at hK
              have h1 := hS.2.1
              have x12 := h1.cell 12
              have x13 := h1.cell 13
              have f12 := h1.free 12
              have f13 := h1.free 13
              first | (obtain ⟨e0', _⟩ := hd) | (have e0' := hd)
              try simp only [e0'] at hK ⊢
              go_simp
              exact hK.out undef _ ⟨⟨((hS.1.far (p := ⟨(w.heap.size + 1), 12, none⟩) (by show G ≠ (w.heap.size + 1); omega) (.string s5)).far (p := ⟨(w.heap.size + 1), 13, none⟩) (by show G ≠ (w.heap.size + 1); omega) (.string s6)), ((hS.2.1.set 12 (.string s5)).set 13 (.string s6)), ((hS.2.2.1.far (p := ⟨(w.heap.size + 1), 12, none⟩) (by show w.heap.size ≠ (w.heap.size + 1); omega) (.string s5)).far (p := ⟨(w.heap.size + 1), 13, none⟩) (by show w.heap.size ≠ (w.heap.size + 1); omega) (.string s6)), ((hS.2.2.2.setCell (p := ⟨(w.heap.size + 1), 12, none⟩) (by show w.heap.size ≤ (w.heap.size + 1); omega) (.string s5)).setCell (p := ⟨(w.heap.size + 1), 13, none⟩) (by show w.heap.size ≤ (w.heap.size + 1); omega) (.string s6))⟩, trivial, trivial⟩
            · intro L hL hcl v u hS hd K' hK
              simp only [waited, List.toList_toArray, Region.binds, rel, List.getD_cons_zero, List.getD_cons_succ, true_imp_iff, and_true] at hd
              simp only [rel, List.getD_cons_zero, List.getD_cons_succ, Act.put, List.setIfInBounds_toArray, List.set_cons_zero, List.set_cons_succ] at hK
              try simp only [hd] at hK
              go_simp
              exact hK.out _ _ ⟨hS, trivial, rfl⟩
            · intro L hL hcl v u hS hd K' hK
              simp only [waited, List.toList_toArray, Region.binds, rel, List.getD_cons_zero, List.getD_cons_succ, true_imp_iff, and_true] at hd
              simp only [rel, List.getD_cons_zero, List.getD_cons_succ, Act.put, List.setIfInBounds_toArray, List.set_cons_zero, List.set_cons_succ] at hK
              try simp only [hd] at hK
              have h1 := hS.2.1
              have x14 := h1.cell 14
              have f14 := h1.free 14
              first | (obtain ⟨e0', _⟩ := hd) | (have e0' := hd)
              try simp only [e0'] at hK ⊢
              go_simp
              exact hK.out undef _ ⟨⟨(hS.1.far (p := ⟨(w.heap.size + 1), 14, none⟩) (by show G ≠ (w.heap.size + 1); omega) (.string s7)), (hS.2.1.set 14 (.string s7)), (hS.2.2.1.far (p := ⟨(w.heap.size + 1), 14, none⟩) (by show w.heap.size ≠ (w.heap.size + 1); omega) (.string s7)), (hS.2.2.2.setCell (p := ⟨(w.heap.size + 1), 14, none⟩) (by show w.heap.size ≤ (w.heap.size + 1); omega) (.string s7))⟩, trivial, trivial⟩
          · rintro v u hS hR
            simp only [holdAll, List.size_toArray, List.length_cons, List.length_nil, Nat.reduceAdd, rel, List.getD_cons_zero, List.getD_cons_succ] at hR
            clear hR
            obtain ⟨hG9, hA9, hR9, hb9⟩ := hS
            replace hA9 : Blk u (w.heap.size + 1) [.int .u8 (k.toNat : Int), .int .u64 0, .int .u8 0, .string ⟨#[]⟩, .string ⟨#[]⟩, .string ⟨#[]⟩, .string ⟨#[]⟩, .int .u64 (n : Int), .string s1, .string s2, .string s3, .string s4, .string s5, .string s6, .string s7] 30 := hA9
            clear hG9 q0 a0 r0 b0
            obtain ⟨w4, hw4⟩ := named u
            rw [← hw4.out] at hA9 hR9 hb9 ⊢
            clear hw4
            go_wp2
            go_meet
            case rel => exact ⟨_, _, rfl, HSMM, hA9, hR9, hb9⟩
    rw [decide_eq_false c2] at d2
    rw [decide_eq_false c3] at d3
    rw [decide_eq_false c4] at d4
    rw [decide_eq_false c5] at d5
    rw [decide_eq_false c6] at d6
    have HSM := hide (refAsk_no (r := r) c2 (by simp [c3, c4]) c5 c6)
    clear c2 c3 c4 c5 c6 hN hT hnl
    go_wp2
    go_meet
    case rel => exact ⟨_, true, rfl, HSM, a0, r0, b0⟩
  case rest =>
    clear d2 d3 d4 d5 d6 hN hU hT hnl a0 r0 b0
    obtain ⟨a, q, rfl, hst, hA, hR, hb⟩ := hcut
    obtain ⟨t1, t2, t3, -⟩ := refAsk_ok hst.out
    have hw := fun W => refWriteAsk_w a W t1 t2 t3
    have hfin := HF1.out a q hst.out
    have HFIN := hide hfin
    clear hfin hst HF0 HF1 t2 t3
    have hSl : S.toList = k :: r := by rw [hS.out, str_toList]
    have HSL := hide hSl
    clear hSl hS
    obtain ⟨Y, hY⟩ := named (writeA a)
    rw [← hY.out] at HFIN
    simp only [← hY.out] at hw
    clear hY
    obtain ⟨p, E⟩ := Y
    obtain ⟨ak, an, ⟨ac, ai, ax, au, aw⟩, av, ts⟩ := a
    obtain ⟨s1, s2, s3, s4, s5, s6, s7, rfl⟩ := list7' ts t1
    clear t1
    replace hA : Blk wc (w.heap.size + 1) [.int .u8 (ak.toNat : Int), .int .u64 (an : Int), .int .u8 (ac.toNat : Int), .string ai, .string ax, .string au, .string aw, .int .u64 (av : Int), .string s1, .string s2, .string s3, .string s4, .string s5, .string s6, .string s7] 30 := hA
    replace hw : ∀ W, Calls Try.prog 10 #[.agg #[.int .u8 (ak.toNat : Int), .int .u64 (an : Int), .int .u8 (ac.toNat : Int), .string ai, .string ax, .string au, .string aw, .int .u64 (av : Int), .string s1, .string s2, .string s3, .string s4, .string s5, .string s6, .string s7]] W fun e w' => e = .returned (.tuple #[.string (str p), .int .i64 E]) ∧ Below W.heap.size W w' := hw
    have hpl := str_toList p
    have HPL := hide hpl
    obtain ⟨X, hX⟩ := named (str p)
    simp only [← hX.out] at hw
    rw [← hX.out] at HPL
    clear hX hpl
    go_wp2_with (refine wpList_load_row rfl 30 _ rfl _ rfl 30 #[.int .u8 (ak.toNat : Int), .int .u64 (an : Int), .int .u8 (ac.toNat : Int), .string ai, .string ax, .string au, .string aw, .int .u64 (av : Int), .string s1, .string s2, .string s3, .string s4, .string s5, .string s6, .string s7] (0, 0) _ hA Try.underlying30 rfl kASK ?_)
    refine (hw _).mono ?_
    rintro e w3 ⟨rfl, hb3⟩
    replace hA := hA.below hb3
    replace hR := hR.below hb3
    replace hb := bt hb hb3
    clear hw hb3
    generalize (Value.agg #[.int .u8 (ak.toNat : Int), .int .u64 (an : Int), .int .u8 (ac.toNat : Int), .string ai, .string ax, .string au, .string aw, .int .u64 (av : Int), .string s1, .string s2, .string s3, .string s4, .string s5, .string s6, .string s7] : Value) = V1
    cases q with
    | false =>
      have hfin := HFIN.out
      rw [if_neg (by rintro ⟨h, _⟩; cases h)] at hfin
      clear HFIN HPL HSL hA
      have k6 := hR.row [.int .u8 0, .int .u64 0, .int .u8 0, .string ⟨#[]⟩, .string ⟨#[]⟩, .string ⟨#[]⟩, .string ⟨#[]⟩, .int .u64 0, .string ⟨#[]⟩, .string ⟨#[]⟩, .string ⟨#[]⟩, .string ⟨#[]⟩, .string ⟨#[]⟩, .string ⟨#[]⟩, .string ⟨#[]⟩]
      have hb6 := below_setRow hb (Nat.le_refl _) #[.int .u8 0, .int .u64 0, .int .u8 0, .string ⟨#[]⟩, .string ⟨#[]⟩, .string ⟨#[]⟩, .string ⟨#[]⟩, .int .u64 0, .string ⟨#[]⟩, .string ⟨#[]⟩, .string ⟨#[]⟩, .string ⟨#[]⟩, .string ⟨#[]⟩, .string ⟨#[]⟩, .string ⟨#[]⟩]
      go_wp2_with (refine wpList_store_row rfl 30 _ _ rfl _ #[.int .u8 0, .int .u64 0, .int .u8 0, .string ⟨#[]⟩, .string ⟨#[]⟩, .string ⟨#[]⟩, .string ⟨#[]⟩, .int .u64 0, .string ⟨#[]⟩, .string ⟨#[]⟩, .string ⟨#[]⟩, .string ⟨#[]⟩, .string ⟨#[]⟩, .string ⟨#[]⟩, .string ⟨#[]⟩] rfl rfl 30 #[.int .u8 0, .int .u64 0, .int .u8 0, .string ⟨#[]⟩, .string ⟨#[]⟩, .string ⟨#[]⟩, .string ⟨#[]⟩, .int .u64 0, .string ⟨#[]⟩, .string ⟨#[]⟩, .string ⟨#[]⟩, .string ⟨#[]⟩, .string ⟨#[]⟩, .string ⟨#[]⟩, .string ⟨#[]⟩] hR kASK rfl (by simp [Value.oneCell']) ?_)
      obtain ⟨w6, hw6⟩ := named (w3.setRow w.heap.size #[.int .u8 0, .int .u64 0, .int .u8 0, .string ⟨#[]⟩, .string ⟨#[]⟩, .string ⟨#[]⟩, .string ⟨#[]⟩, .int .u64 0, .string ⟨#[]⟩, .string ⟨#[]⟩, .string ⟨#[]⟩, .string ⟨#[]⟩, .string ⟨#[]⟩, .string ⟨#[]⟩, .string ⟨#[]⟩])
      rw [show (w3.setRow w.heap.size [.int .u8 0, .int .u64 0, .int .u8 0, .string ⟨#[]⟩, .string ⟨#[]⟩, .string ⟨#[]⟩, .string ⟨#[]⟩, .int .u64 0, .string ⟨#[]⟩, .string ⟨#[]⟩, .string ⟨#[]⟩, .string ⟨#[]⟩, .string ⟨#[]⟩, .string ⟨#[]⟩, .string ⟨#[]⟩].toArray) = w6 from hw6.out.symm] at k6
      rw [← hw6.out] at hb6 ⊢
      clear hw6 hR hb
      have hld : (loadVar 30 ⟨w.heap.size, 0, none⟩).run Try.prog w6 = .ok (.agg #[.int .u8 0, .int .u64 0, .int .u8 0, .string ⟨#[]⟩, .string ⟨#[]⟩, .string ⟨#[]⟩, .string ⟨#[]⟩, .int .u64 0, .string ⟨#[]⟩, .string ⟨#[]⟩, .string ⟨#[]⟩, .string ⟨#[]⟩, .string ⟨#[]⟩, .string ⟨#[]⟩, .string ⟨#[]⟩]) w6 := run_loadVar_row w6 w.heap.size 30 30 #[.int .u8 0, .int .u64 0, .int .u8 0, .string ⟨#[]⟩, .string ⟨#[]⟩, .string ⟨#[]⟩, .string ⟨#[]⟩, .int .u64 0, .string ⟨#[]⟩, .string ⟨#[]⟩, .string ⟨#[]⟩, .string ⟨#[]⟩, .string ⟨#[]⟩, .string ⟨#[]⟩, .string ⟨#[]⟩] (0, 0) _ k6 Try.underlying30 rfl kASK
      refine bodyPost_ret (v := .tuple #[.agg #[.int .u8 0, .int .u64 0, .int .u8 0, .string ⟨#[]⟩, .string ⟨#[]⟩, .string ⟨#[]⟩, .string ⟨#[]⟩, .int .u64 0, .string ⟨#[]⟩, .string ⟨#[]⟩, .string ⟨#[]⟩, .string ⟨#[]⟩, .string ⟨#[]⟩, .string ⟨#[]⟩, .string ⟨#[]⟩], .int .i64 14]) (row_ret rfl _ _ _ _ _ rfl hld rfl) rfl ?_
      exact ⟨by first | rfl | (rw [hfin]; rfl), hb6⟩
    | true =>
    by_cases hE : E = 0
    case neg =>
      have hfin := HFIN.out
      rw [if_neg (by rintro ⟨_, h⟩; exact hE (congrArg Prod.snd h))] at hfin
      have u1 : (E != 0) = true := by simp [hE]
      have u2 : (E == 0) = false := by simp [hE]
      clear HFIN HPL HSL hA hE
      have k6 := hR.row [.int .u8 0, .int .u64 0, .int .u8 0, .string ⟨#[]⟩, .string ⟨#[]⟩, .string ⟨#[]⟩, .string ⟨#[]⟩, .int .u64 0, .string ⟨#[]⟩, .string ⟨#[]⟩, .string ⟨#[]⟩, .string ⟨#[]⟩, .string ⟨#[]⟩, .string ⟨#[]⟩, .string ⟨#[]⟩]
      have hb6 := below_setRow hb (Nat.le_refl _) #[.int .u8 0, .int .u64 0, .int .u8 0, .string ⟨#[]⟩, .string ⟨#[]⟩, .string ⟨#[]⟩, .string ⟨#[]⟩, .int .u64 0, .string ⟨#[]⟩, .string ⟨#[]⟩, .string ⟨#[]⟩, .string ⟨#[]⟩, .string ⟨#[]⟩, .string ⟨#[]⟩, .string ⟨#[]⟩]
      go_wp2_with (refine wpList_store_row rfl 30 _ _ rfl _ #[.int .u8 0, .int .u64 0, .int .u8 0, .string ⟨#[]⟩, .string ⟨#[]⟩, .string ⟨#[]⟩, .string ⟨#[]⟩, .int .u64 0, .string ⟨#[]⟩, .string ⟨#[]⟩, .string ⟨#[]⟩, .string ⟨#[]⟩, .string ⟨#[]⟩, .string ⟨#[]⟩, .string ⟨#[]⟩] rfl rfl 30 #[.int .u8 0, .int .u64 0, .int .u8 0, .string ⟨#[]⟩, .string ⟨#[]⟩, .string ⟨#[]⟩, .string ⟨#[]⟩, .int .u64 0, .string ⟨#[]⟩, .string ⟨#[]⟩, .string ⟨#[]⟩, .string ⟨#[]⟩, .string ⟨#[]⟩, .string ⟨#[]⟩, .string ⟨#[]⟩] hR kASK rfl (by simp [Value.oneCell']) ?_)
      obtain ⟨w6, hw6⟩ := named (w3.setRow w.heap.size #[.int .u8 0, .int .u64 0, .int .u8 0, .string ⟨#[]⟩, .string ⟨#[]⟩, .string ⟨#[]⟩, .string ⟨#[]⟩, .int .u64 0, .string ⟨#[]⟩, .string ⟨#[]⟩, .string ⟨#[]⟩, .string ⟨#[]⟩, .string ⟨#[]⟩, .string ⟨#[]⟩, .string ⟨#[]⟩])
      rw [show (w3.setRow w.heap.size [.int .u8 0, .int .u64 0, .int .u8 0, .string ⟨#[]⟩, .string ⟨#[]⟩, .string ⟨#[]⟩, .string ⟨#[]⟩, .int .u64 0, .string ⟨#[]⟩, .string ⟨#[]⟩, .string ⟨#[]⟩, .string ⟨#[]⟩, .string ⟨#[]⟩, .string ⟨#[]⟩, .string ⟨#[]⟩].toArray) = w6 from hw6.out.symm] at k6
      rw [← hw6.out] at hb6 ⊢
      clear hw6 hR hb
      have hld : (loadVar 30 ⟨w.heap.size, 0, none⟩).run Try.prog w6 = .ok (.agg #[.int .u8 0, .int .u64 0, .int .u8 0, .string ⟨#[]⟩, .string ⟨#[]⟩, .string ⟨#[]⟩, .string ⟨#[]⟩, .int .u64 0, .string ⟨#[]⟩, .string ⟨#[]⟩, .string ⟨#[]⟩, .string ⟨#[]⟩, .string ⟨#[]⟩, .string ⟨#[]⟩, .string ⟨#[]⟩]) w6 := run_loadVar_row w6 w.heap.size 30 30 #[.int .u8 0, .int .u64 0, .int .u8 0, .string ⟨#[]⟩, .string ⟨#[]⟩, .string ⟨#[]⟩, .string ⟨#[]⟩, .int .u64 0, .string ⟨#[]⟩, .string ⟨#[]⟩, .string ⟨#[]⟩, .string ⟨#[]⟩, .string ⟨#[]⟩, .string ⟨#[]⟩, .string ⟨#[]⟩] (0, 0) _ k6 Try.underlying30 rfl kASK
      refine bodyPost_ret (v := .tuple #[.agg #[.int .u8 0, .int .u64 0, .int .u8 0, .string ⟨#[]⟩, .string ⟨#[]⟩, .string ⟨#[]⟩, .string ⟨#[]⟩, .int .u64 0, .string ⟨#[]⟩, .string ⟨#[]⟩, .string ⟨#[]⟩, .string ⟨#[]⟩, .string ⟨#[]⟩, .string ⟨#[]⟩, .string ⟨#[]⟩], .int .i64 14]) (row_ret rfl _ _ _ _ _ rfl hld rfl) rfl ?_
      exact ⟨by first | rfl | (rw [hfin]; rfl), hb6⟩
    subst hE
    by_cases hp : p = k :: r
    case neg =>
      have hfin := HFIN.out
      rw [if_neg (by rintro ⟨_, h⟩; exact hp (congrArg Prod.fst h))] at hfin
      have u1 : (X.toList == S.toList) = false := by
        rw [HPL.out, HSL.out]
        simpa using hp
      clear HFIN HPL HSL hA hp
      have k6 := hR.row [.int .u8 0, .int .u64 0, .int .u8 0, .string ⟨#[]⟩, .string ⟨#[]⟩, .string ⟨#[]⟩, .string ⟨#[]⟩, .int .u64 0, .string ⟨#[]⟩, .string ⟨#[]⟩, .string ⟨#[]⟩, .string ⟨#[]⟩, .string ⟨#[]⟩, .string ⟨#[]⟩, .string ⟨#[]⟩]
      have hb6 := below_setRow hb (Nat.le_refl _) #[.int .u8 0, .int .u64 0, .int .u8 0, .string ⟨#[]⟩, .string ⟨#[]⟩, .string ⟨#[]⟩, .string ⟨#[]⟩, .int .u64 0, .string ⟨#[]⟩, .string ⟨#[]⟩, .string ⟨#[]⟩, .string ⟨#[]⟩, .string ⟨#[]⟩, .string ⟨#[]⟩, .string ⟨#[]⟩]
      go_wp2_with (refine wpList_store_row rfl 30 _ _ rfl _ #[.int .u8 0, .int .u64 0, .int .u8 0, .string ⟨#[]⟩, .string ⟨#[]⟩, .string ⟨#[]⟩, .string ⟨#[]⟩, .int .u64 0, .string ⟨#[]⟩, .string ⟨#[]⟩, .string ⟨#[]⟩, .string ⟨#[]⟩, .string ⟨#[]⟩, .string ⟨#[]⟩, .string ⟨#[]⟩] rfl rfl 30 #[.int .u8 0, .int .u64 0, .int .u8 0, .string ⟨#[]⟩, .string ⟨#[]⟩, .string ⟨#[]⟩, .string ⟨#[]⟩, .int .u64 0, .string ⟨#[]⟩, .string ⟨#[]⟩, .string ⟨#[]⟩, .string ⟨#[]⟩, .string ⟨#[]⟩, .string ⟨#[]⟩, .string ⟨#[]⟩] hR kASK rfl (by simp [Value.oneCell']) ?_)
      obtain ⟨w6, hw6⟩ := named (w3.setRow w.heap.size #[.int .u8 0, .int .u64 0, .int .u8 0, .string ⟨#[]⟩, .string ⟨#[]⟩, .string ⟨#[]⟩, .string ⟨#[]⟩, .int .u64 0, .string ⟨#[]⟩, .string ⟨#[]⟩, .string ⟨#[]⟩, .string ⟨#[]⟩, .string ⟨#[]⟩, .string ⟨#[]⟩, .string ⟨#[]⟩])
      rw [show (w3.setRow w.heap.size [.int .u8 0, .int .u64 0, .int .u8 0, .string ⟨#[]⟩, .string ⟨#[]⟩, .string ⟨#[]⟩, .string ⟨#[]⟩, .int .u64 0, .string ⟨#[]⟩, .string ⟨#[]⟩, .string ⟨#[]⟩, .string ⟨#[]⟩, .string ⟨#[]⟩, .string ⟨#[]⟩, .string ⟨#[]⟩].toArray) = w6 from hw6.out.symm] at k6
      rw [← hw6.out] at hb6 ⊢
      clear hw6 hR hb
      have hld : (loadVar 30 ⟨w.heap.size, 0, none⟩).run Try.prog w6 = .ok (.agg #[.int .u8 0, .int .u64 0, .int .u8 0, .string ⟨#[]⟩, .string ⟨#[]⟩, .string ⟨#[]⟩, .string ⟨#[]⟩, .int .u64 0, .string ⟨#[]⟩, .string ⟨#[]⟩, .string ⟨#[]⟩, .string ⟨#[]⟩, .string ⟨#[]⟩, .string ⟨#[]⟩, .string ⟨#[]⟩]) w6 := run_loadVar_row w6 w.heap.size 30 30 #[.int .u8 0, .int .u64 0, .int .u8 0, .string ⟨#[]⟩, .string ⟨#[]⟩, .string ⟨#[]⟩, .string ⟨#[]⟩, .int .u64 0, .string ⟨#[]⟩, .string ⟨#[]⟩, .string ⟨#[]⟩, .string ⟨#[]⟩, .string ⟨#[]⟩, .string ⟨#[]⟩, .string ⟨#[]⟩] (0, 0) _ k6 Try.underlying30 rfl kASK
      refine bodyPost_ret (v := .tuple #[.agg #[.int .u8 0, .int .u64 0, .int .u8 0, .string ⟨#[]⟩, .string ⟨#[]⟩, .string ⟨#[]⟩, .string ⟨#[]⟩, .int .u64 0, .string ⟨#[]⟩, .string ⟨#[]⟩, .string ⟨#[]⟩, .string ⟨#[]⟩, .string ⟨#[]⟩, .string ⟨#[]⟩, .string ⟨#[]⟩], .int .i64 14]) (row_ret rfl _ _ _ _ _ rfl hld rfl) rfl ?_
      exact ⟨by first | rfl | (rw [hfin]; rfl), hb6⟩
    have hfin := HFIN.out
    rw [if_pos ⟨rfl, by rw [hp]⟩] at hfin
    have u1 : (X.toList == S.toList) = true := by
      rw [HPL.out, HSL.out, hp]
      simp
    clear HFIN HPL HSL hp
    have k6 := hR.row [.int .u8 (ak.toNat : Int), .int .u64 (an : Int), .int .u8 (ac.toNat : Int), .string ai, .string ax, .string au, .string aw, .int .u64 (av : Int), .string s1, .string s2, .string s3, .string s4, .string s5, .string s6, .string s7]
    have hb6 := below_setRow hb (Nat.le_refl _) #[.int .u8 (ak.toNat : Int), .int .u64 (an : Int), .int .u8 (ac.toNat : Int), .string ai, .string ax, .string au, .string aw, .int .u64 (av : Int), .string s1, .string s2, .string s3, .string s4, .string s5, .string s6, .string s7]
    go_wp2_with (first | (refine wpList_load_row rfl 30 _ rfl _ rfl 30 #[.int .u8 (ak.toNat : Int), .int .u64 (an : Int), .int .u8 (ac.toNat : Int), .string ai, .string ax, .string au, .string aw, .int .u64 (av : Int), .string s1, .string s2, .string s3, .string s4, .string s5, .string s6, .string s7] (0, 0) _ hA Try.underlying30 rfl kASK ?_) | (refine wpList_store_row rfl 30 _ _ rfl _ #[.int .u8 (ak.toNat : Int), .int .u64 (an : Int), .int .u8 (ac.toNat : Int), .string ai, .string ax, .string au, .string aw, .int .u64 (av : Int), .string s1, .string s2, .string s3, .string s4, .string s5, .string s6, .string s7] rfl rfl 30 #[.int .u8 0, .int .u64 0, .int .u8 0, .string ⟨#[]⟩, .string ⟨#[]⟩, .string ⟨#[]⟩, .string ⟨#[]⟩, .int .u64 0, .string ⟨#[]⟩, .string ⟨#[]⟩, .string ⟨#[]⟩, .string ⟨#[]⟩, .string ⟨#[]⟩, .string ⟨#[]⟩, .string ⟨#[]⟩] hR kASK rfl (by simp [Value.oneCell']) ?_))
    obtain ⟨w6, hw6⟩ := named (w3.setRow w.heap.size #[.int .u8 (ak.toNat : Int), .int .u64 (an : Int), .int .u8 (ac.toNat : Int), .string ai, .string ax, .string au, .string aw, .int .u64 (av : Int), .string s1, .string s2, .string s3, .string s4, .string s5, .string s6, .string s7])
    rw [show (w3.setRow w.heap.size [.int .u8 (ak.toNat : Int), .int .u64 (an : Int), .int .u8 (ac.toNat : Int), .string ai, .string ax, .string au, .string aw, .int .u64 (av : Int), .string s1, .string s2, .string s3, .string s4, .string s5, .string s6, .string s7].toArray) = w6 from hw6.out.symm] at k6
    rw [← hw6.out] at hb6 ⊢
    clear hw6 hR hb
    have hld : (loadVar 30 ⟨w.heap.size, 0, none⟩).run Try.prog w6 = .ok (.agg #[.int .u8 (ak.toNat : Int), .int .u64 (an : Int), .int .u8 (ac.toNat : Int), .string ai, .string ax, .string au, .string aw, .int .u64 (av : Int), .string s1, .string s2, .string s3, .string s4, .string s5, .string s6, .string s7]) w6 := run_loadVar_row w6 w.heap.size 30 30 #[.int .u8 (ak.toNat : Int), .int .u64 (an : Int), .int .u8 (ac.toNat : Int), .string ai, .string ax, .string au, .string aw, .int .u64 (av : Int), .string s1, .string s2, .string s3, .string s4, .string s5, .string s6, .string s7] (0, 0) _ k6 Try.underlying30 rfl kASK
    refine bodyPost_ret (v := .tuple #[.agg #[.int .u8 (ak.toNat : Int), .int .u64 (an : Int), .int .u8 (ac.toNat : Int), .string ai, .string ax, .string au, .string aw, .int .u64 (av : Int), .string s1, .string s2, .string s3, .string s4, .string s5, .string s6, .string s7], .int .i64 0]) (row_ret rfl _ _ _ _ _ rfl hld rfl) rfl ?_
    exact ⟨by first | rfl | (rw [hfin]; rfl), hb6⟩
theorem refReadAsk_w (l : List UInt8) (w : World) (hl : l.length ≤ 140737488351232) :
    Calls Try.prog 12 #[.string (str l)] w fun e w' => e = .returned (readV (refA l)) ∧ Below w.heap.size w w' := by
  match l with
  | [] => exact refRead_0 w
  | k :: r => exact refRead_k k r w (by simp at hl; omega)
end Go.Proofs.Ytiodfbbgbnbdpaa
