/- The document's Check. -/
import Derived.Test.YtpfbmmeipojodaaSecWalks
namespace Go.Proofs.Ytpfbmmeipojodaa
open Go.RowKit
set_option maxRecDepth 100000 in
set_option maxHeartbeats 2000000 in
theorem refCheck_size (A1 A2 : Option Addr) (c1 c2 : Nat) (d : Dk) (w : World) (hs : d.secs.length < 1 ∨ 1 ≤ d.secs.length ∧ 1024 < d.secs.length ∨ 1 ≤ d.secs.length ∧ d.secs.length ≤ 1024 ∧ 4096 < d.pend.length) :
    Calls Try.prog 67 #[.agg #[.slice A1 d.secs.length c1, .slice A2 d.pend.length c2, .bool d.off, .int .i64 d.fuse]] w fun e w' => e = .returned (.int .i64 13) ∧ Below w.heap.size w w' := by
  rcases hs with h | ⟨h, h'⟩ | ⟨h, h', h''⟩
  all_goals
    go_enter Try.func67, Try.ntmps67
    go_wp2
    go_ret
    exact ⟨rfl, below_alloc _ _⟩
set_option maxRecDepth 100000 in
set_option maxHeartbeats 4000000 in
theorem refCheck_in (A1 A2 : Option Addr) (c1 c2 : Nat) (d : Dk) (w : World) (h1 : Texts w A1 d.secs) (h2 : Writes w A2 d.pend) (hs1 : 1 ≤ d.secs.length) (hs2 : d.secs.length ≤ 1024) (hs3 : d.pend.length ≤ 4096) :
    Calls Try.prog 67 #[.agg #[.slice A1 d.secs.length c1, .slice A2 d.pend.length c2, .bool d.off, .int .i64 d.fuse]] w fun e w' => e = .returned (.int .i64 (if d.secs.any odd || d.pend.any (wrongW d.secs) then 13 else 0)) ∧ Below w.heap.size w w' := by
  have k1 := Blk.new w [.slice A1 d.secs.length c1, .slice A2 d.pend.length c2, .bool d.off, .int .i64 d.fuse] 28
  have b0 := below_alloc w (.cells #[.slice A1 d.secs.length c1, .slice A2 d.pend.length c2, .bool d.off, .int .i64 d.fuse] 28)
  have t1 := h1.below b0
  have t2 := h2.below b0
  obtain ⟨R, HR⟩ := named (if d.secs.any odd || d.pend.any (wrongW d.secs) then (13 : Int) else 0)
  rw [← HR.out]
  obtain ⟨W, HW⟩ := named (w.alloc (.cells #[.slice A1 d.secs.length c1, .slice A2 d.pend.length c2, .bool d.off, .int .i64 d.fuse] 28))
  go_enter Try.func67, Try.ntmps67
  go_wp2
  rw [← HW.out] at k1 b0 t1 t2 ⊢
  clear HW
  go_loop [26] (fun i => ∃ k : Nat, k ≤ d.secs.length ∧ i = .int .i64 k ∧ Hid ((d.secs.take k).any odd = false)) (fun i => d.secs.length - (intOf i).toNat)
  case atStart => exact ⟨0, by omega, rfl, rfl⟩
  case round =>
    obtain ⟨k, hk, rfl, Hno⟩ := hrel
    by_cases hlt : k < d.secs.length
    · obtain ⟨b, o, rfl, hc⟩ := t1.at_ hlt
      by_cases hp : d.secs[k].size = 64
      · go_wp2
        go_round
        case rel => exact ⟨k + 1, by omega, by go_num, by show _ = _; rw [any_take_succ _ _ _ hlt, Hno.out]; simp [odd, hp]⟩
        case measure => simp [intOf]; omega
      · go_wp2
        go_ret
        refine ⟨ret_int ?_, b0⟩
        rw [HR.out, any_of_hit odd d.secs k hlt (by simp [odd, hp])]
        rfl
    · have hk' : k = d.secs.length := by omega
      subst hk'
      have Ha := Hno
      rw [List.take_length] at Ha
      clear Hno
      have x0 := k1.cell 0
      have x1 := k1.cell 1
      go_wp2
      clear x0 x1
      go_loopw [37] (fun i wr => ∃ k : Nat, k ≤ d.pend.length ∧ i = .int .i64 k ∧ Hid ((d.pend.take k).any (wrongW d.secs) = false) ∧ Below W.heap.size W wr) (fun i _ => d.pend.length - (intOf i).toNat)
      case atStart => exact ⟨0, by omega, rfl, rfl, Below.refl _ _⟩
      case round =>
        obtain ⟨k, hk, rfl, Hno, hb⟩ := hrel
        have hbw : Below w.heap.size w wr := bt b0 hb
        by_cases hlt : k < d.pend.length
        · obtain ⟨b, o, rfl, hc1, hc2⟩ := (t2.below hb).at_ hlt
          have hba := hbw.alloc hbw.size (.cells #[.int .i64 d.pend[k].sec, .string d.pend[k].data] 66)
          have x0 := ((k1.below hb).alloc (.cells #[.int .i64 d.pend[k].sec, .string d.pend[k].data] 66)).cell 0
          have hany := any_take_succ (wrongW d.secs) d.pend k hlt
          have Hany := hide hany
          have Hhit := hide (any_of_hit (wrongW d.secs) d.pend k hlt)
          clear hany
          by_cases ha : d.pend[k].sec < 0
          · go_wp2
            go_ret
            refine ⟨ret_int ?_, hba⟩
            rw [HR.out, Hhit.out (by simp [wrongW, there]; omega)]
            simp
          · by_cases hl : d.pend[k].sec < d.secs.length
            · by_cases hz : d.pend[k].data.size = 64
              · have ha' : 0 ≤ d.pend[k].sec := by omega
                go_wp2
                go_roundw
                case rel => exact ⟨k + 1, by omega, by go_num, by show _ = _; rw [Hany.out, Hno.out]; simp [wrongW, there, odd, hz, hl, ha'], hb.alloc hb.size _⟩
                case measure => simp [intOf]; omega
              · have ha' : 0 ≤ d.pend[k].sec := by omega
                have hz' : ((d.pend[k].data.size : Int) != 64) = true := by simp; omega
                go_wp2
                go_ret
                refine ⟨ret_int ?_, hba⟩
                rw [HR.out, Hhit.out (by simp [wrongW, odd, hz])]
                simp
            · have ha' : 0 ≤ d.pend[k].sec := by omega
              have hl' : (d.secs.length : Int) ≤ d.pend[k].sec := by omega
              go_wp2
              go_ret
              refine ⟨ret_int ?_, hba⟩
              rw [HR.out, Hhit.out (by simp [wrongW, there]; omega)]
              simp
        · have hk' : k = d.pend.length := by omega
          subst hk'
          rw [List.take_length] at Hno
          go_wp2
          go_ret
          refine ⟨ret_int ?_, hbw⟩
          rw [HR.out, Ha.out, Hno.out]
          rfl
/-- The document's Check, whatever the disk is. -/
theorem refCheck_w (v : Value) (d : Dk) (w : World) (hv : DkIs w v d) : Calls Try.prog 67 #[v] w fun e w' => e = .returned (.int .i64 (checkE d)) ∧ Below w.heap.size w w' := by
  obtain ⟨A1, c1, A2, c2, rfl, h1, h2, hl1, hl2, _, _⟩ := hv
  by_cases hs : 1 ≤ d.secs.length ∧ d.secs.length ≤ 1024 ∧ d.pend.length ≤ 4096
  · obtain ⟨hs1, hs2, hs3⟩ := hs
    have e : checkE d = if d.secs.any odd || d.pend.any (wrongW d.secs) then 13 else 0 := by
      unfold checkE right sizeOk
      cases d.secs.any odd <;> cases d.pend.any (wrongW d.secs) <;> simp [hs1, hs2, hs3]
    rw [e]
    exact refCheck_in A1 A2 c1 c2 d w h1 h2 hs1 hs2 hs3
  · have e : checkE d = 13 := by
      unfold checkE right sizeOk
      rw [if_neg]
      simp only [Bool.and_eq_true, decide_eq_true_eq]
      omega
    rw [e]
    exact refCheck_size A1 A2 c1 c2 d w (by omega)
end Go.Proofs.Ytpfbmmeipojodaa
