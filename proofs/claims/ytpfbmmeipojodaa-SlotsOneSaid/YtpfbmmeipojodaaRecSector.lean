/- record.sector: texts one behind the other, zero bytes behind them. -/
import Derived.Test.YtpfbmmeipojodaaBuilder
import Derived.Test.YtpfbmmeipojodaaGD
import Derived.Test.YtpfbmmeipojodaaShelf
namespace Go.Proofs.Ytpfbmmeipojodaa
open Go.RowKit
def catL (l : List ByteArray) : List UInt8 := l.flatMap fun s => s.data.toList
theorem catL_snoc (l : List ByteArray) (s : ByteArray) : catL (l ++ [s]) = catL l ++ s.data.toList := by simp [catL]
theorem bc_app (a b : List UInt8) : Lib.byteCells (a ++ b) = Lib.byteCells a ++ Lib.byteCells b := by simp [Lib.byteCells]
theorem bc_str (a : List UInt8) (s : ByteArray) : Lib.byteCells a ++ Lib.strCells s = Lib.byteCells (a ++ s.data.toList) := by rw [bc_app]; rfl
theorem bc_zero (a : List UInt8) : Lib.byteCells a ++ [Value.int .u8 0] = Lib.byteCells (a ++ [0]) := by rw [bc_app]; rfl
theorem bc_length (a : List UInt8) : (Lib.byteCells a).length = a.length := by simp [Lib.byteCells]
/-- How many bytes a builder holds, read off its cell. -/
def lenAt (b : Nat) (w : World) : Nat := match w.cell? ⟨b, 1, none⟩ with | some (.slice _ n _) => n | _ => 0
theorem lenAt_b {B b : Nat} {bs : List Value} {w : World} (h : Lib.IsBuilder 124 5 B b bs w) : lenAt b w = bs.length := by
  obtain ⟨p, _, v, hb, hown, _⟩ : ∃ p, Lib.BuilderAt 124 5 B b p bs w := by
    rcases h with h | h
    · exact ⟨_, h⟩
    · exact ⟨_, h⟩
  obtain ⟨A, c, rfl, _⟩ := Lies.of_own hown
  have : w.cell? ⟨b, 1, none⟩ = some (.slice A bs.length c) := by rw [Lib.cell_of_heap hb]; rfl
  unfold lenAt
  rw [this]
theorem new_builder (w : World) : Lib.IsBuilder 124 5 w.heap.size w.heap.size (Lib.byteCells []) (w.alloc (.cells #[.pointer none, .slice none 0 0] 124)) :=
  .inl ⟨Nat.le_refl _, .slice none 0 0, heap_alloc_new w _, World.ownsRow_nil _ _ _ _, by simp [Value.ownBlock]⟩
theorem fillL_step {l : List UInt8} (h : l.length < 64) : fillL 64 (l ++ [0]) = fillL 64 l := by
  unfold fillL
  rw [List.append_assoc, show 64 - l.length = (64 - (l ++ [0]).length) + 1 by simp; omega, List.replicate_succ]
  rfl
theorem fillL_full {l : List UInt8} (h : 64 ≤ l.length) : fillL 64 l = l := by
  unfold fillL
  rw [show 64 - l.length = 0 by omega]
  simp
theorem catL_take_le (l : List ByteArray) (k : Nat) : (catL (l.take k)).length ≤ (catL l).length := by
  have : l = l.take k ++ l.drop k := (List.take_append_drop k l).symm
  conv => rhs; rw [this]
  simp only [catL, List.flatMap_append, List.length_append]
  omega
theorem catL_get_le (l : List ByteArray) (k : Nat) (h : k < l.length) : (catL (l.take k)).length + l[k].size ≤ (catL l).length := by
  have h1 := catL_take_le l (k + 1)
  rw [List.take_succ_eq_append_getElem h, catL_snoc, List.length_append] at h1
  have : l[k].data.toList.length = l[k].size := Array.length_toList
  omega
set_option maxHeartbeats 2000000 in
set_option maxRecDepth 100000 in
theorem sector_w (A : Option Addr) (c : Nat) (l : List ByteArray) (w : World) (ht : Texts w A l) (hn : l.length ≤ 1000) (hz : (catL l).length ≤ 100000) :
    Calls Try.prog 45 #[.slice A l.length c] w fun e w' => e = .returned (.string (str (fillL 64 (catL l)))) ∧ Below w.heap.size w w' := by
  obtain ⟨T, HT⟩ := named (fillL 64 (catL l))
  rw [← HT.out]
  have hB0 := new_builder w
  have hb0 := below_alloc w (.cells #[.pointer none, .slice none 0 0] 124)
  obtain ⟨W, HW⟩ := named (w.alloc (.cells #[.pointer none, .slice none 0 0] 124))
  go_enter Try.func45, Try.ntmps45
  go_wp2
  rw [← HW.out] at hB0 hb0 ⊢
  clear HW
  go_loopw [8] (fun i wr => ∃ k : Nat, k ≤ l.length ∧ i = .int .i64 k ∧ Lib.IsBuilder 124 5 w.heap.size w.heap.size (Lib.byteCells (catL (l.take k))) wr ∧ Below w.heap.size w wr) (fun i _ => l.length - (intOf i).toNat)
  case atStart => exact ⟨0, by omega, rfl, hB0, hb0⟩
  case round =>
    obtain ⟨k, hk, rfl, hB, hb⟩ := hrel
    clear hB0 hb0
    by_cases hlt : k < l.length
    · obtain ⟨b, o, rfl, hc⟩ := Texts.at_ (Lies.below ht hb) hlt
      have hle := catL_get_le l k hlt
      go_wp2_with fail
      refine (writeString_b w.heap.size w.heap.size _ l[k] _ hB (by rw [bc_length]; omega) hb.size).mono ?_
      rw [bc_str, ← catL_snoc, ← List.take_succ_eq_append_getElem hlt]
      rintro e w2 ⟨rfl, hB2, hb2⟩
      clear hc
      go_wp2
      go_roundw
      case rel => exact ⟨k + 1, by omega, by go_num, hB2, hb.trans hb2⟩
      case measure => simp [intOf]; omega
    · have hke : k = l.length := by omega
      subst hke
      rw [List.take_length] at hB
      have HB : ∃ l', l'.length ≤ 100000 ∧ Hid (T = fillL 64 l') ∧ Lib.IsBuilder 124 5 w.heap.size w.heap.size (Lib.byteCells l') wr := ⟨catL l, hz, HT, hB⟩
      go_wp2
      go_loopw [15] (fun _ wr => ∃ l' : List UInt8, l'.length ≤ 100000 ∧ Hid (T = fillL 64 l') ∧ Lib.IsBuilder 124 5 w.heap.size w.heap.size (Lib.byteCells l') wr ∧ Below w.heap.size w wr) (fun _ wr => 64 - lenAt w.heap.size wr)
      case atStart => exact ⟨catL l, hz, HT, hB, hb⟩
      case round =>
        obtain ⟨l', hl', HT', hB', hb'⟩ := hrel
        clear hB hb HB
        have hm := lenAt_b hB'
        rw [bc_length] at hm
        go_wp2_with fail
        refine (Try.Builder_Len w.heap.size w.heap.size _ _ hB').mono ?_
        rw [bc_length]
        rintro e w2 ⟨rfl, rfl⟩
        by_cases hlt : l'.length < 64
        · have hlt' : (l'.length : Int) < 64 := by omega
          have Hm := hide hm
          clear hm
          go_wp2_with fail
          refine (writeByte_b w.heap.size w.heap.size _ 0 _ hB' (by rw [bc_length]; omega) hb'.size).mono ?_
          rw [bc_zero]
          rintro e w3 ⟨rfl, hB3, hb3⟩
          go_wp2
          have hm3 := lenAt_b hB3
          rw [bc_length, List.length_append] at hm3
          go_roundw
          case rel => exact ⟨l' ++ [0], by simp; omega, HT'.out.trans (fillL_step hlt).symm, hB3, hb'.trans hb3⟩
          case measure => rw [hm3, Hm.out]; simp; omega
        · have hge : (64 : Int) ≤ (l'.length : Int) := by omega
          clear hm
          go_wp2_with fail
          refine (Try.Builder_String_any w.heap.size w.heap.size l' _ hB' hb'.size).mono ?_
          rintro e w3 ⟨rfl, hb3⟩
          go_wp2
          go_ret
          refine ⟨?_, hb'.trans hb3⟩
          rw [HT'.out, fillL_full (by omega)]
          rfl
end Go.Proofs.Ytpfbmmeipojodaa
