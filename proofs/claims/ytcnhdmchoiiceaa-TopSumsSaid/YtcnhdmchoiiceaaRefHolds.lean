/- The document's Holds. -/
import Derived.Test.YtcnhdmchoiiceaaSecWalks
namespace Go.Proofs.Ytcnhdmchoiiceaa
open Go.RowKit
def holdF (n : Int) (l : List Wr) (s : ByteArray) : ByteArray := l.foldl (fun s x => if x.sec = n then x.data else s) s
theorem holdF_snoc (n : Int) (l : List Wr) (x : Wr) (s : ByteArray) : holdF n (l ++ [x]) s = if x.sec = n then x.data else holdF n l s := by simp [holdF]
theorem holdF_rev (n : Int) (m : List Wr) (s : ByteArray) : (match m.find? (fun x => x.sec == n) with | some x => x.data | none => s) = holdF n m.reverse s := by
  induction m with
  | nil => rfl
  | cons x m ih =>
    rw [List.reverse_cons, holdF_snoc, List.find?_cons]
    by_cases h : x.sec = n
    · simp [h]
    · simp only [show (x.sec == n) = false by simp [h], if_neg h]
      exact ih
theorem holdF_of (n : Int) (l : List Wr) (s : ByteArray) : (match l.reverse.find? (fun x => x.sec == n) with | some x => x.data | none => s) = holdF n l s := by
  rw [holdF_rev, List.reverse_reverse]
theorem holdsOf_eq (d : Dk) (n : Int) : holdsOf d n = holdF n d.pend (d.secs.getD n.toNat ⟨#[]⟩) := holdF_of n d.pend _
set_option maxRecDepth 100000 in
set_option maxHeartbeats 1000000 in
theorem refHolds_w (A1 A2 : Option Addr) (c1 c2 : Nat) (d : Dk) (n : Int) (w : World) (h1 : Texts w A1 d.secs) (h2 : Writes w A2 d.pend) (hl2 : d.pend.length ≤ 140737488351232) (ht : there d.secs n = true) :
    Calls Try.prog 42 #[.agg #[.slice A1 d.secs.length c1, .slice A2 d.pend.length c2, .bool d.off, .int .i64 d.fuse], .int .i64 n] w fun e w' => e = .returned (.string (holdsOf d n)) ∧ Below w.heap.size w w' := by
  have hn : 0 ≤ n ∧ n < d.secs.length := by simp [there] at ht; exact ht
  obtain ⟨m, rfl⟩ : ∃ m : Nat, n = (m : Int) := ⟨n.toNat, by omega⟩
  have hm : m < d.secs.length := by omega
  clear ht hn
  obtain ⟨b, o, rfl, hc⟩ := (h1.below (below_alloc w (.cells #[.slice A1 d.secs.length c1, .slice A2 d.pend.length c2, .bool d.off, .int .i64 d.fuse] 25))).at_ hm
  have hi0 : (0 : Int) ≤ (m : Int) := by omega
  have hi1 : (m : Int) < (d.secs.length : Int) := by omega
  rw [holdsOf_eq, show d.secs.getD (m : Int).toNat ⟨#[]⟩ = d.secs[m] by simp [List.getD, hm]]
  go_enter Try.func42, Try.ntmps42
  go_wp2
  go_loopw [5, 16] (fun v i wr => ∃ k : Nat, k ≤ d.pend.length ∧ i = .int .i64 k ∧ v = .string (holdF m (d.pend.take k) d.secs[m]) ∧ Below w.heap.size w wr) (fun _ i _ => d.pend.length - (intOf i).toNat)
  case atStart => exact ⟨0, by omega, rfl, rfl, below_alloc _ _⟩
  case round =>
    obtain ⟨k, hk, rfl, rfl, hb⟩ := hrel
    by_cases hlt : k < d.pend.length
    · obtain ⟨b2, o2, rfl, hc1, hc2⟩ := (h2.below hb).at_ hlt
      have hs := holdF_snoc m (d.pend.take k) d.pend[k] d.secs[m]
      rw [← List.take_succ_eq_append_getElem hlt] at hs
      obtain ⟨T, HT⟩ := named (holdF m (d.pend.take (k + 1)) d.secs[m])
      rw [← HT.out] at hs
      by_cases he : d.pend[k].sec = m
      · rw [if_pos he] at hs
        have Hs := hide hs
        clear hs
        go_wp2
        all_goals go_roundw
        case rel => exact ⟨k + 1, by omega, by go_num, by rw [← HT.out, Hs.out], hb.alloc hb.size _⟩
        case measure => simp [intOf]; omega
      · rw [if_neg he] at hs
        have Hs := hide hs
        clear hs
        go_wp2
        all_goals go_roundw
        case rel => exact ⟨k + 1, by omega, by go_num, by rw [← HT.out, Hs.out], hb.alloc hb.size _⟩
        case measure => simp [intOf]; omega
    · have hk' : k = d.pend.length := by omega
      subst hk'
      rw [List.take_length]
      go_wp2
      go_ret
      exact ⟨rfl, hb⟩
end Go.Proofs.Ytcnhdmchoiiceaa
