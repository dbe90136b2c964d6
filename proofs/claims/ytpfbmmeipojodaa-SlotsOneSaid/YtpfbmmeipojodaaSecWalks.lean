/- The walks of package sector: Check, and what it calls. -/
import Derived.Test.YtpfbmmeipojodaaGA
import Derived.Test.YtpfbmmeipojodaaShelf
namespace Go.Proofs.Ytpfbmmeipojodaa
open Go.RowKit
set_option maxHeartbeats 400000 in
theorem odd_w (s : ByteArray) (w : World) :
    Calls Try.prog 52 #[.string s] w fun e w' => e = .returned (.bool (odd s)) ∧ w = w' := by
  go_enter Try.func52, Try.ntmps52
  go_wp2
  go_ret
  exact ⟨ret_bool (by simp only [odd]; first | rfl | (rw [Bool.eq_iff_iff]; simp; omega)), rfl⟩
theorem there_lt {secs : List ByteArray} {n : Int} (h : n < 0) : there secs n = false := by simp [there]; omega
theorem there_ge {secs : List ByteArray} {n : Int} (h : 0 ≤ n) : there secs n = decide (n < secs.length) := by simp [there, h]
set_option maxHeartbeats 400000 in
theorem there_w (A1 A2 : Option Addr) (c1 n2 c2 : Nat) (secs : List ByteArray) (off : Bool) (fuse n : Int) (w : World) :
    Calls Try.prog 38 #[.agg #[.slice A1 secs.length c1, .slice A2 n2 c2, .bool off, .int .i64 fuse], .int .i64 n] w fun e w' => e = .returned (.bool (there secs n)) ∧ Below w.heap.size w w' := by
  by_cases h : n < 0
  · rw [there_lt h]
    go_enter Try.func38, Try.ntmps38
    go_wp2
    go_ret
    exact ⟨rfl, below_alloc _ _⟩
  · have h' : 0 ≤ n := by omega
    rw [there_ge h']
    go_enter Try.func38, Try.ntmps38
    go_wp2
    go_ret
    exact ⟨rfl, below_alloc _ _⟩
/-- An index is told, from 0 on just if b. -/
def SomeIdx (b : Bool) (w : World) (e : Ending) (w' : World) : Prop := ∃ i : Int, e = .returned (.int .i64 i) ∧ decide (0 ≤ i) = b ∧ Below w.heap.size w w'
theorem any_take_succ {α : Type} (p : α → Bool) (l : List α) (k : Nat) (h : k < l.length) : (l.take (k + 1)).any p = ((l.take k).any p || p l[k]) := by
  rw [List.take_succ_eq_append_getElem h, List.any_append]; simp
theorem any_of_hit {α : Type} (p : α → Bool) (l : List α) (k : Nat) (h : k < l.length) (hp : p l[k] = true) : l.any p = true := by
  rw [List.any_eq_true]; exact ⟨l[k], List.getElem_mem h, hp⟩
set_option maxHeartbeats 400000 in
theorem indexOdd_w (A : Option Addr) (c : Nat) (l : List ByteArray) (w : World) (hl : Texts w A l) (hn : l.length ≤ 140737488351232) :
    Calls Try.prog 87 #[.slice A l.length c, .func (.func 52) #[] #[]] w (SomeIdx (l.any odd) w) := by
  go_enter Try.func87, Try.ntmps87
  go_wp2
  go_loop [8] (fun i => ∃ k : Nat, k ≤ l.length ∧ i = .int .i64 k ∧ (l.take k).any odd = false) (fun i => l.length - (intOf i).toNat)
  case atStart => exact ⟨0, by omega, rfl, rfl⟩
  case round =>
    obtain ⟨k, hk, rfl, hno⟩ := hrel
    have Hno := hide hno
    clear hno
    by_cases hlt : k < l.length
    · obtain ⟨b, o, rfl, hc⟩ := hl.at_ hlt
      cases hp : odd l[k]
      · have Hp := hide hp
        go_wp2_with (go_at_call 52; refine (odd_w _ _).mono ?_; rintro e w' ⟨rfl, rfl⟩)
        go_round
        case rel => exact ⟨k + 1, by omega, by go_num, by rw [any_take_succ _ _ _ hlt, Hno.out, Hp.out]; rfl⟩
        case measure => simp [intOf]; omega
      · have Hp := hide hp
        go_wp2_with (go_at_call 52; refine (odd_w _ _).mono ?_; rintro e w' ⟨rfl, rfl⟩)
        go_ret
        exact ⟨k, rfl, by rw [any_of_hit odd l k hlt Hp.out]; simp, Below.refl _ _⟩
    · go_wp2
      go_ret
      exact ⟨-1, rfl, by have := Hno.out; rw [List.take_of_length_le (by omega)] at this; rw [this]; rfl, Below.refl _ _⟩
set_option maxHeartbeats 400000 in
theorem anyOdd_w (A : Option Addr) (c : Nat) (l : List ByteArray) (w : World) (hl : Texts w A l) (hn : l.length ≤ 140737488351232) :
    Calls Try.prog 54 #[.slice A l.length c, .func (.func 52) #[] #[]] w fun e w' => e = .returned (.bool (l.any odd)) ∧ Below w.heap.size w w' := by
  go_enter Try.func54, Try.ntmps54
  go_wp2_with (go_at_call 87; refine (indexOdd_w A c l _ hl hn).mono ?_; rintro e w' ⟨i, rfl, hi, hb⟩)
  go_ret
  exact ⟨by simp, hb⟩
/-! ### The writes that wait -/
/-- A disk's struct, as cells. -/
def dkCells (A1 : Option Addr) (n1 c1 : Nat) (A2 : Option Addr) (n2 c2 : Nat) (off : Bool) (fuse : Int) : List Value := [.slice A1 n1 c1, .slice A2 n2 c2, .bool off, .int .i64 fuse]
set_option maxHeartbeats 400000 in
theorem wrong_w (B B' : Nat) (A1 A2 : Option Addr) (c1 n2 c2 : Nat) (secs : List ByteArray) (off : Bool) (fuse : Int) (x : Wr) (w : World)
    (hd : Holds w B (dkCells A1 secs.length c1 A2 n2 c2 off fuse)) (hf : Holds w B' [.func (.func 52) #[] #[]]) :
    Calls Try.prog 53 #[.agg #[.int .i64 x.sec, .string x.data], .pointer (some ⟨B, 0, none⟩), .pointer (some ⟨B', 0, none⟩)] w fun e w' => e = .returned (.bool (wrongW secs x)) ∧ Below w.heap.size w w' := by
  have hd1 := hd.alloc (.cells #[.int .i64 x.sec, .string x.data] 66)
  have hf1 := hf.alloc (.cells #[.int .i64 x.sec, .string x.data] 66)
  have c0 := hd1 0 _ rfl
  have c1 := hd1 1 _ rfl
  have c2 := hd1 2 _ rfl
  have c3 := hd1 3 _ rfl
  have f0 := hf1 0 _ rfl
  have hx := Holds.new w [.int .i64 x.sec, .string x.data] 66 (0, 0)
  cases ht : there secs x.sec
  · have hw : wrongW secs x = true := by simp [wrongW, ht]
    rw [hw]
    go_enter Try.func53, Try.ntmps53
    go_wp2_with fail
    refine (there_w A1 A2 _ _ _ secs off fuse x.sec _).mono ?_
    rintro e w1 ⟨rfl, hb⟩
    rw [ht]
    go_wp2
    go_ret
    exact ⟨rfl, bt (below_alloc _ _) hb⟩
  · have hw : wrongW secs x = odd x.data := by simp [wrongW, ht]
    rw [hw]
    go_enter Try.func53, Try.ntmps53
    go_wp2_with fail
    refine (there_w A1 A2 _ _ _ secs off fuse x.sec _).mono ?_
    rintro e w1 ⟨rfl, hb⟩
    rw [ht]
    have f1 := hf1.below hb 0 _ rfl
    have x1 := hx.below hb 1 _ rfl
    clear hd hf hd1 hf1 hx c0 c1 c2 c3 f0
    go_wp2_with (go_at_call 52; refine (odd_w _ _).mono ?_; rintro e w' ⟨rfl, rfl⟩)
    go_ret
    exact ⟨rfl, bt (below_alloc _ _) hb⟩
set_option maxHeartbeats 400000 in
theorem indexWrong_w (B B' : Nat) (A1 A2 : Option Addr) (c1 n2 c2 : Nat) (secs : List ByteArray) (off : Bool) (fuse : Int) (A : Option Addr) (c : Nat) (l : List Wr) (w : World)
    (hd : Holds w B (dkCells A1 secs.length c1 A2 n2 c2 off fuse)) (hf : Holds w B' [.func (.func 52) #[] #[]]) (hl : Writes w A l) (hn : l.length ≤ 140737488351232) :
    Calls Try.prog 88 #[.slice A l.length c, .func (.func 53) #[] #[.pointer (some ⟨B, 0, none⟩), .pointer (some ⟨B', 0, none⟩)]] w (SomeIdx (l.any (wrongW secs)) w) := by
  go_enter Try.func88, Try.ntmps88
  go_wp2
  go_loopw [8] (fun i wr => ∃ k : Nat, k ≤ l.length ∧ i = .int .i64 k ∧ (l.take k).any (wrongW secs) = false ∧ Below w.heap.size w wr) (fun i _ => l.length - (intOf i).toNat)
  case atStart => exact ⟨0, by omega, rfl, rfl, Below.refl _ _⟩
  case round =>
    obtain ⟨k, hk, rfl, hno, hb⟩ := hrel
    have Hno := hide hno
    clear hno
    have hd' := hd.below hb
    have hf' := hf.below hb
    by_cases hlt : k < l.length
    · obtain ⟨b, o, rfl, hc1, hc2⟩ := (hl.below hb).at_ hlt
      cases hp : wrongW secs l[k]
      · have Hp := hide hp
        go_wp2_with (go_at_call 53; refine (wrong_w B B' A1 A2 c1 n2 c2 secs off fuse l[k] _ hd' hf').mono ?_; rintro e w1 ⟨rfl, hb1⟩)
        go_roundw
        case rel => exact ⟨k + 1, by omega, by go_num, by rw [any_take_succ _ _ _ hlt, Hno.out, Hp.out]; rfl, bt hb hb1⟩
        case measure => simp [intOf]; omega
      · have Hp := hide hp
        go_wp2_with (go_at_call 53; refine (wrong_w B B' A1 A2 c1 n2 c2 secs off fuse l[k] _ hd' hf').mono ?_; rintro e w1 ⟨rfl, hb1⟩)
        go_ret
        exact ⟨k, rfl, by rw [any_of_hit _ l k hlt Hp.out]; simp, bt hb hb1⟩
    · go_wp2
      go_ret
      exact ⟨-1, rfl, by have := Hno.out; rw [List.take_of_length_le (by omega)] at this; rw [this]; rfl, hb⟩
set_option maxHeartbeats 400000 in
theorem anyWrong_w (B B' : Nat) (A1 A2 : Option Addr) (c1 n2 c2 : Nat) (secs : List ByteArray) (off : Bool) (fuse : Int) (A : Option Addr) (c : Nat) (l : List Wr) (w : World)
    (hd : Holds w B (dkCells A1 secs.length c1 A2 n2 c2 off fuse)) (hf : Holds w B' [.func (.func 52) #[] #[]]) (hl : Writes w A l) (hn : l.length ≤ 140737488351232) :
    Calls Try.prog 55 #[.slice A l.length c, .func (.func 53) #[] #[.pointer (some ⟨B, 0, none⟩), .pointer (some ⟨B', 0, none⟩)]] w fun e w' => e = .returned (.bool (l.any (wrongW secs))) ∧ Below w.heap.size w w' := by
  go_enter Try.func55, Try.ntmps55
  go_wp2_with (go_at_call 88; refine (indexWrong_w B B' A1 A2 c1 n2 c2 secs off fuse A c l _ hd hf hl hn).mono ?_; rintro e w' ⟨i, rfl, hi, hb⟩)
  go_ret
  exact ⟨by simp, hb⟩
end Go.Proofs.Ytpfbmmeipojodaa
