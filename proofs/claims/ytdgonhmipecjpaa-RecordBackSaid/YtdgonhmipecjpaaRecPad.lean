/- The document's padded of chapter 03. -/
import Derived.Test.YtdgonhmipecjpaaRecRef
import Derived.Test.YtdgonhmipecjpaaRecSector
namespace Go.Proofs.Ytdgonhmipecjpaa
open Go.RowKit
theorem made_zeros (n : Nat) : madeCells #[Value.int .u8 0] n = (cellsOf (List.replicate n 0)).toArray := by rw [made_rep]; simp [cellsOf]
set_option maxHeartbeats 1000000 in
set_option maxRecDepth 100000 in
theorem padded_w (s : ByteArray) (w : World) (h : s.size ≤ 64) :
    Calls Try.prog 75 #[.string s] w fun e w' => e = .returned (.string (str (fillL 64 s.data.toList))) ∧ Below w.heap.size w w' := by
  obtain ⟨n, hn⟩ := named (64 - s.size)
  have hsub : (64 : Int) - (s.size : Int) = (n : Int) := by rw [hn.out]; omega
  have hn64 : n ≤ 64 := by rw [hn.out]; omega
  have hmk := run_make_row' (P := Try.prog) 81 5 (.int .u8 0) 1 Try.underlying81 Try.info5 rfl .i64 .i64 n (by omega) (by omega)
  rw [made_zeros] at hmk
  have hcv := fun w => back_cells (P := Try.prog) w 81 9 5 5 (List.replicate n 0) n (by simp) Try.underlying81 Try.underlying5 Try.underlying9 n
  obtain ⟨cs, hcs⟩ := named (cellsOf (List.replicate n 0)).toArray
  obtain ⟨Z, HZ⟩ := named (str (List.replicate n 0))
  rw [← hcs.out] at hmk hcv
  rw [← HZ.out] at hcv
  have hcv' : ∀ (w : World) (g : Nat), g = w.heap.size → (convert 81 9 (.slice (some ⟨g, 0, none⟩) n n)).run Try.prog (w.alloc (.cells cs 5)) = .ok (.string Z) (w.alloc (.cells cs 5)) := fun w g hg => by subst hg; exact hcv w
  have hZ : Z.size ≤ 64 := by rw [HZ.out, str_size, List.length_replicate]; exact hn64
  have hadd : ∀ w', (Op.stringOp .add s Z).run Try.prog w' = .ok (.string (s ++ Z)) w' := fun w' => run_string_add_sum w' s Z (by omega)
  have Hfin : Hid (s ++ Z = str (fillL 64 s.data.toList)) := by
    show _ = _
    rw [HZ.out, fillL, show 64 - s.data.toList.length = n by rw [hn.out]; rfl, ← str_append, str_of]
  obtain ⟨R, HR⟩ := named (str (fillL 64 s.data.toList))
  rw [← HR.out]
  clear hcv
  go_enter Try.func75, Try.ntmps75
  go_wp2
  go_ret
  refine ⟨?_, below_alloc _ _⟩
  rw [HR.out, ← Hfin.out]
  rfl
end Go.Proofs.Ytdgonhmipecjpaa
