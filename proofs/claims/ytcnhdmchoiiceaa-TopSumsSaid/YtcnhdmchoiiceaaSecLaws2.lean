/- The plain laws of chapter 02: what a put and a sync come to, read; a fuse that burns. -/
import Derived.Test.YtcnhdmchoiiceaaSecLaws
namespace Go.Proofs.Ytcnhdmchoiiceaa
open Go.RowKit
/-- A right disk that is on, read. -/
theorem read_of {S : List ByteArray} {P : List Wr} {f : Int} {m : Nat} (hr : right ⟨S, P, false, f⟩ = true) (hm : m < S.length) : readE ⟨S, P, false, f⟩ m = 0 ∧ readS ⟨S, P, false, f⟩ m = holdF m P (S.getD m ⟨#[]⟩) := by
  have h1 : readE ⟨S, P, false, f⟩ m = 0 := by
    unfold readE
    rw [if_neg (by simp [hr])]
    simp [there_of hm]
  refine ⟨h1, ?_⟩
  simp only [readS, h1, if_true]
  exact holdsOf_eq _ _
theorem readE_same {S : List ByteArray} {P Q : List Wr} {f g : Int} {n : Int} (h1 : right ⟨S, P, false, f⟩ = true) (h2 : right ⟨S, Q, false, g⟩ = true) : readE ⟨S, P, false, f⟩ n = readE ⟨S, Q, false, g⟩ n := by
  simp only [readE, h1, h2]
theorem right_more {S : List ByteArray} {P : List Wr} {f g : Int} {m : Nat} {x : ByteArray} (hr : right ⟨S, P, false, f⟩ = true) (hm : m < S.length) (hx : x.size = 64) (hP : P.length < 4096) : right ⟨S, P ++ [⟨m, x⟩], false, g⟩ = true := by
  have h := right_iff.1 hr
  rw [right_iff]
  refine ⟨h.1, by simp only [List.length_append, List.length_cons, List.length_nil]; omega, h.2.2.1, fun y hy => ?_⟩
  rcases List.mem_append.1 hy with h' | h'
  · exact h.2.2.2 y h'
  · simp only [List.mem_singleton] at h'
    subst h'
    exact ⟨by simp, by simpa using hm, hx⟩
def fuse1 (f : Int) : Int := if 0 < f then f - 1 else f
/-- What a put comes to. -/
theorem put_cases (d : Dk) (n : Int) (data : ByteArray) :
    putE d n data = 15 ∨ (putE d n data = 13 ∧ putD d n data = dk0) ∨ ((putE d n data = 1 ∨ putE d n data = 2 ∨ putE d n data = 3) ∧ putD d n data = d) ∨
    (putE d n data = 0 ∧ right d = true ∧ d.off = false ∧ ∃ m : Nat, n = (m : Int) ∧ m < d.secs.length ∧ data.size = 64 ∧ putD d n data = ⟨d.secs, d.pend ++ [⟨m, data⟩], false, fuse1 d.fuse⟩ ∧ right (putD d n data) = true) := by
  obtain ⟨S, P, off, f⟩ := d
  cases hr : right ⟨S, P, off, f⟩
  · exact .inr (.inl (by simp [putE, putD, hr]))
  cases off
  · by_cases href : refE ⟨S, P, false, f⟩ n data = 0
    · have hth : there S n = true ∧ data.size = 64 ∧ P.length < 4096 := by
        unfold refE at href
        by_cases h1 : there S n = false
        · simp [h1] at href
        · by_cases h2 : data.size ≠ 64
          · simp [h1, h2] at href
          · by_cases h3 : 4096 ≤ P.length
            · simp [h1, h2, h3] at href
            · exact ⟨by simpa using h1, by simpa using h2, by omega⟩
      obtain ⟨m, rfl, hm⟩ := there_nat hth.1
      by_cases h0 : f = 0
      · subst h0
        exact .inl (by simp [putE, hr, href, workE])
      · refine .inr (.inr (.inr ⟨by simp [putE, hr, href, workE, h0], rfl, rfl, m, rfl, hm, hth.2.1, ?_, ?_⟩))
        · simp [putD, hr, href, workD, h0, burn, fuse1]
        · have : putD ⟨S, P, false, f⟩ m data = ⟨S, P ++ [⟨m, data⟩], false, fuse1 f⟩ := by simp [putD, hr, href, workD, h0, burn, fuse1]
          rw [this]
          exact right_more hr hm hth.2.1 hth.2.2
    · refine .inr (.inr (.inl ⟨?_, by simp [putD, hr, workD, href]⟩))
      have : putE ⟨S, P, false, f⟩ n data = refE ⟨S, P, false, f⟩ n data := by simp [putE, hr, workE, href]
      rw [this]
      unfold refE at href ⊢
      split
      · simp
      · split
        · simp
        · split
          · simp
          · simp_all
  · exact .inl (by simp [putE, hr, workE])
/-- What was put last is read. -/
theorem read_put {S : List ByteArray} {P : List Wr} {f : Int} {m : Nat} {x : ByteArray} (hr : right ⟨S, P ++ [⟨m, x⟩], false, f⟩ = true) (hm : m < S.length) : readE ⟨S, P ++ [⟨m, x⟩], false, f⟩ m = 0 ∧ readS ⟨S, P ++ [⟨m, x⟩], false, f⟩ m = x := by
  obtain ⟨h1, h2⟩ := read_of hr hm
  refine ⟨h1, ?_⟩
  rw [h2, holdF_snoc, if_pos rfl]
theorem read_other {S : List ByteArray} {P : List Wr} {f g : Int} {m : Nat} {n : Int} {x : ByteArray} (h1 : right ⟨S, P, false, f⟩ = true) (h2 : right ⟨S, P ++ [⟨m, x⟩], false, g⟩ = true) (hn : n ≠ m) : readS ⟨S, P, false, f⟩ n = readS ⟨S, P ++ [⟨m, x⟩], false, g⟩ n := by
  have he := readE_same (n := n) h1 h2
  unfold readS
  rw [he]
  split
  · rw [holdsOf_eq, holdsOf_eq, holdF_snoc, if_neg (by simpa using Ne.symm hn)]
  · rfl
/-- A sync of a right disk that is on. -/
theorem sync_cases {S : List ByteArray} {P : List Wr} {f : Int} (hr : right ⟨S, P, false, f⟩ = true) :
    (syncE ⟨S, P, false, f⟩ = 15 ∧ (syncD ⟨S, P, false, f⟩).off = true) ∨
    (syncE ⟨S, P, false, f⟩ = 0 ∧ syncD ⟨S, P, false, f⟩ = ⟨stl (fun _ => true) 0 P S, [], false, fuse1 f⟩ ∧ right (syncD ⟨S, P, false, f⟩) = true) := by
  by_cases h0 : f = 0
  · subst h0
    exact .inl (by simp [syncE, syncD, hr, workE, workD])
  · have e : syncD ⟨S, P, false, f⟩ = ⟨stl (fun _ => true) 0 P S, [], false, fuse1 f⟩ := by simp [syncD, hr, workD, h0, burn, settled, fuse1]
    refine .inr ⟨by simp [syncE, hr, workE, h0], e, ?_⟩
    rw [e]
    have h := right_iff.1 hr
    rw [right_iff]
    simp only [stl_length, List.length_nil, Nat.zero_le, true_and]
    exact ⟨h.1, stl_sizes _ _ _ _ h.2.2.1 (fun x hx => (h.2.2.2 x hx).2.2), by simp⟩
/-- Synced, it is there behind any crash. -/
theorem crash_synced {S : List ByteArray} {P : List Wr} {f g : Int} {m : Nat} {x : ByteArray} {keep : List Bool} (hr : right ⟨S, P ++ [⟨m, x⟩], false, f⟩ = true) (h2 : right ⟨stl (fun _ => true) 0 (P ++ [⟨m, x⟩]) S, [], false, g⟩ = true) (hm : m < S.length) :
    readE (crashD ⟨stl (fun _ => true) 0 (P ++ [⟨m, x⟩]) S, [], false, g⟩ keep) m = 0 ∧ readS (crashD ⟨stl (fun _ => true) 0 (P ++ [⟨m, x⟩]) S, [], false, g⟩ keep) m = x := by
  obtain ⟨e1, e2⟩ := read_crash (keep := keep) (m := m) h2 (by rw [stl_length]; exact hm)
  refine ⟨e1, ?_⟩
  rw [e2]
  show (stl _ 0 [] (stl (fun _ => true) 0 (P ++ [⟨m, x⟩]) S)).getD m ⟨#[]⟩ = x
  rw [show stl (mayOf keep) 0 [] (stl (fun _ => true) 0 (P ++ [⟨m, x⟩]) S) = stl (fun _ => true) 0 (P ++ [⟨m, x⟩]) S from rfl,
    stl_all _ _ _ _ _ hm (fun y hy => ((right_iff.1 hr).2.2.2 y hy).1) (fun _ _ _ => rfl), holdF_snoc, if_pos rfl]
/-! ### A fuse -/
def fuseAt (f : Nat) (x : ByteArray) (k : Nat) : Dk := if k ≤ f then ⟨[zero64], List.replicate k ⟨0, x⟩, false, (f : Int) - k⟩ else ⟨[zero64], List.replicate (f + 1) ⟨0, x⟩, true, 0⟩
theorem right_rep {x : ByteArray} {k : Nat} {off : Bool} {f : Int} (hx : x.size = 64) (hk : k ≤ 4096) : right ⟨[zero64], List.replicate k ⟨0, x⟩, off, f⟩ = true := by
  rw [right_iff]
  refine ⟨by simp, by simpa using hk, by simp [zero64, str_size], fun y hy => ?_⟩
  have := List.eq_of_mem_replicate hy
  subst this
  exact ⟨by simp, by simp, hx⟩
theorem fuse_right {f k : Nat} {x : ByteArray} (hx : x.size = 64) (hf : f < 256) (_hk : k ≤ 300) : right (fuseAt f x k) = true := by
  unfold fuseAt
  split
  · exact right_rep hx (by omega)
  · exact right_rep hx (by omega)
theorem fuse_put {f k : Nat} {x : ByteArray} (hx : x.size = 64) (hf : f < 256) (hk : k < 300) :
    putD (fuseAt f x k) 0 x = fuseAt f x (k + 1) ∧ putE (fuseAt f x k) 0 x = (if k < f then 0 else 15) ∧ (f ≤ k → (fuseAt f x (k + 1)).off = true) := by
  have hr := fuse_right (k := k) hx hf (by omega)
  unfold fuseAt at hr ⊢
  by_cases h1 : k ≤ f
  · rw [if_pos h1] at hr ⊢
    have href : refE ⟨[zero64], List.replicate k ⟨0, x⟩, false, (f : Int) - k⟩ 0 x = 0 := by
      have : ¬ 4096 ≤ k := by omega
      simp [refE, there, hx, this]
    by_cases h2 : k < f
    · rw [if_pos (by omega : k + 1 ≤ f), if_pos h2]
      have h3 : ¬ ((f : Int) - k = 0) := by omega
      have h4 : (0 : Int) < (f : Int) - k := by omega
      refine ⟨?_, ?_, by omega⟩
      · simp only [putD, hr, if_true, href, workD, h3, burn, h4, id]
        simp [List.replicate_succ']
        omega
      · simp [putE, hr, href, workE, h3]
    · have h3 : k = f := by omega
      subst h3
      rw [if_neg (by omega : ¬ k + 1 ≤ k), if_neg h2]
      refine ⟨?_, ?_, fun _ => rfl⟩
      · simp only [putD, hr, if_true, href, workD]
        simp [List.replicate_succ']
      · rw [putE, if_pos hr, href, workE]
        simp
  · rw [if_neg h1] at hr ⊢
    rw [if_neg (by omega : ¬ k + 1 ≤ f), if_neg (by omega : ¬ k < f)]
    refine ⟨by simp [putD, hr, workD], by simp [putE, hr, workE], fun _ => rfl⟩
theorem fuse_crash {f k : Nat} {x : ByteArray} (hx : x.size = 64) (hf : f < 256) (hk : k ≤ 300) : checkE (fuseAt f x k) = 0 ∧ (crashD (fuseAt f x k) []).pend = [] ∧ (crashD (fuseAt f x k) []).off = false ∧ (crashD (fuseAt f x k) []).fuse = -1 := by
  have hr := fuse_right hx hf hk
  simp [checkE, crashD, hr]
end Go.Proofs.Ytcnhdmchoiiceaa
