/- Several small texts of this proof, one behind the other. -/
import Derived.Test.YtpfbmmeipojodaaGA
import Derived.Test.YtpfbmmeipojodaaSecWalks
import Derived.Deep.OwnRows
import Derived.Laws.CopyOwn
import Derived.Maps.AppendAt
import Derived.Deep.AppendLies
import Derived.RegionTactic
section
/- The walks of package sector: New. -/
namespace Go.Proofs.Ytpfbmmeipojodaa
open Go.RowKit
theorem mul_one_w (n : Nat) (w : World) (hn : n < 18446744073709551616) :
    Calls Try.prog 41 #[.int .u64 1, .int .u64 (n : Int)] w fun e w' => e = .returned (.tuple #[.int .u64 0, .int .u64 (n : Int)]) ∧ w = w' := by
  refine (Try.bits_Mul 1 n (by decide) hn w).mono ?_
  rintro e w' ⟨rfl, rfl⟩
  refine ⟨?_, rfl⟩
  rw [Nat.one_mul, Nat.div_eq_of_lt hn, Nat.mod_eq_of_lt hn]
  rfl
/-- A row whose first k texts are s, the others empty. -/
def half (s : ByteArray) (n k : Nat) : List Value := List.replicate k (.string s) ++ List.replicate (n - k) (.string ⟨#[]⟩)
theorem half_length (s : ByteArray) (n k : Nat) (h : k ≤ n) : (half s n k).length = n := by simp [half]; omega
theorem half_full (s : ByteArray) (n : Nat) : half s n n = strs (List.replicate n s) := by simp [half, strs]
theorem half_get (s : ByteArray) (n k j : Nat) (v : Value) (h : (List.replicate k (Value.string s))[j]? = some v) : (half s n k)[j]? = some v := by
  have : j < k := by
    rcases Nat.lt_or_ge j k with h' | h'
    · exact h'
    · simp [h'] at h
  rw [half, List.getElem?_append_left (by simpa using this)]; exact h
theorem half_more (s : ByteArray) (n k m : Nat) : (half s n k).take k ++ List.replicate m (Value.string s) ++ (half s n k).drop (k + m) = half s n (k + m) := by
  rw [half, List.take_left' (by simp), List.drop_append, half]
  simp [List.replicate_append_replicate]
  omega
theorem Try.isize9 : (Try.prog.info? 9).map (·.size) = some 1 := by kernel_rfl
theorem made_half (s : ByteArray) (n : Nat) : madeCells #[Value.string ⟨#[]⟩] n = (half s n 0).toArray := by
  rw [made_rep]; simp [half]
set_option maxRecDepth 100000 in
set_option maxHeartbeats 400000 in
theorem repeat_w (b : Nat) (s : ByteArray) (n : Nat) (w : World) (hn : 1 ≤ n) (hn' : n ≤ 1024) (hc : w.cell? ⟨b, 0, none⟩ = some (.string s)) :
    Calls Try.prog 24 #[.slice (some ⟨b, 0, none⟩) 1 1, .int .i64 (n : Int)] w fun e w' => ∃ v, e = .returned v ∧ w'.ownsRow w.heap.size 9 1 v n (strs (List.replicate n s)) ∧ Below w.heap.size w w' := by
  have hmk := run_make_row' (P := Try.prog) 22 9 (.string ⟨#[]⟩) 16 Try.underlying22 Try.info9 rfl .i64 .i64 n (by omega) (by omega)
  rw [made_half s n] at hmk
  have hcp0 := run_copy_row (P := Try.prog) (w.alloc (.cells (half s n 0).toArray 9)) 22 22 3 9 w.heap.size 0 n n ⟨b, 0, none⟩ 1 1 (half s n 0).toArray 9 [.string s] Try.underlying22 Try.isize9 (heap_alloc_new w _)
    (by show (1 : Nat) = min 1 n; omega) (fun j v hj => by
      match j, hj with
      | 0, hj =>
        simp at hj; subst hj
        have hlt := World.block_lt_of_cell? w _ hc
        simpa [Addr.add] using (World.cell?_alloc_lt w (.cells (half s n 0).toArray 9) ⟨b, 0, none⟩ hlt).trans hc) (by simp [half]; omega) (by intro v hv; simp at hv; subst hv; rfl)
  have e1 : ((half s n 0).toArray.toList.take 0 ++ [Value.string s] ++ (half s n 0).toArray.toList.drop (0 + [Value.string s].length)).toArray = (half s n 1).toArray := by
    have := half_more s n 0 1
    simpa using this
  rw [e1] at hcp0
  clear e1
  obtain ⟨W1, hW1⟩ := named ((w.alloc (.cells (half s n 0).toArray 9)).setRow w.heap.size (half s n 1).toArray)
  rw [← hW1.out] at hcp0
  have hg1 : W1.heap[w.heap.size]? = some (.cells (half s n 1).toArray 9 (0, 0)) := by rw [hW1.out]; exact setRow_heap _ _ _ _ _ _ (heap_alloc_new w _)
  have hb1 : Below w.heap.size w W1 := by
    rw [hW1.out]
    exact below_setRow (below_alloc w _) (Nat.le_refl _) _
  have Hg1 := hide hg1
  clear hg1
  go_enter Try.func24, Try.ntmps24
  go_wp2_with fail
  refine (mul_one_w n _ (by omega)).mono ?_
  rintro e w1 ⟨rfl, rfl⟩
  go_wp2
  clear hmk hcp0
  go_loopw [8] (fun i wr => ∃ k : Nat, 1 ≤ k ∧ k ≤ n ∧ i = .int .i64 k ∧ wr.heap[w.heap.size]? = some (.cells (half s n k).toArray 9 (0, 0)) ∧ Below w.heap.size w wr) (fun i _ => n - (intOf i).toNat)
  case atStart => exact ⟨1, by omega, by omega, rfl, Hg1.out, hb1⟩
  case round =>
    obtain ⟨k, hk1, hk, rfl, hg, hb⟩ := hrel
    have Hg := hide hg
    by_cases hlt : k < n
    · have hcp := run_copy_row (P := Try.prog) wr.drew 22 22 3 9 w.heap.size k (n - k) (n - k) ⟨w.heap.size, 0, none⟩ k n (half s n k).toArray 9 (List.replicate (min k (n - k)) (.string s)) Try.underlying22 Try.isize9 hg
        (by simp) (fun j v hj => by
          rw [addr_add]
          have hj' : (half s n k)[j]? = some v := half_get s n k j v (by
            have hjk : j < k := by
              rcases Nat.lt_or_ge j (min k (n - k)) with h' | h'
              · omega
              · rw [List.getElem?_eq_none (by simpa using h')] at hj; cases hj
            rw [List.getElem?_replicate] at hj ⊢
            rw [if_pos hjk]
            split at hj
            · exact hj
            · cases hj)
          have := cell_of_row wr w.heap.size (0 + j) (half s n k).toArray 9 (0, 0) hg
          exact this.trans (by simpa using hj')) (by rw [List.length_replicate, List.size_toArray, half_length s n k hk]; omega) (by intro v hv; simp at hv; rw [hv.2]; rfl)
      have e1 : ((half s n k).toArray.toList.take k ++ List.replicate (min k (n - k)) (Value.string s) ++ (half s n k).toArray.toList.drop (k + (List.replicate (min k (n - k)) (Value.string s)).length)).toArray = (half s n (k + min k (n - k))).toArray := by
        have := half_more s n k (min k (n - k))
        simpa using this
      rw [e1, List.length_replicate] at hcp
      clear e1 hg
      have hnk : ¬ n = k := by omega
      obtain ⟨m, hm⟩ := named (min k (n - k))
      have hm1 : 1 ≤ m ∧ k + m ≤ n := by rw [hm.out]; omega
      rw [← hm.out] at hcp
      go_wp2
      go_region
      go_wp2
      go_roundw
      case rel => exact ⟨k + m, by omega, by omega, by go_num, setRow_heap _ _ _ _ _ _ (show wr.drew.heap[w.heap.size]? = _ from Hg.out), below_setRow (hb.drew) (Nat.le_refl _) _⟩
      case measure => simp [intOf]; omega
    · obtain rfl : k = n := by omega
      go_wp2
      go_ret
      refine ⟨_, rfl, ⟨by rw [strs_length]; simp, .inr ⟨w.heap.size, k, _, rfl, Nat.le_refl _, Hg.out, Nat.le_refl _, by unfold maxLen; omega, by simp [half_length], ?_⟩⟩, hb⟩
      rw [half_full, Nat.mul_one, List.take_of_length_le (by simp [strs_length])]
theorem made_zero : madeCells #[Value.int .u8 0] 64 = (cellsOf (List.replicate 64 0)).toArray := by rw [made_rep]; simp [cellsOf]
set_option maxRecDepth 100000 in
set_option maxHeartbeats 400000 in
theorem new_yes (n : Nat) (w : World) (h1 : 1 ≤ n) (h2 : n ≤ 1024) :
    Calls Try.prog 10 #[.int .i64 (n : Int)] w (DkRet ⟨List.replicate n zero64, [], false, -1⟩ 0 w) := by
  have hmk := run_make_row' (P := Try.prog) 56 5 (.int .u8 0) 1 Try.underlying56 Try.info5 rfl .i64 .i64 64 (by omega) (by omega)
  rw [made_zero] at hmk
  have hcv := fun w => back_cells (P := Try.prog) w 56 9 5 5 (List.replicate 64 0) 64 (by simp) Try.underlying56 Try.underlying5 Try.underlying9 64
  obtain ⟨cs, hcs⟩ := named (cellsOf (List.replicate 64 0)).toArray
  rw [← hcs.out] at hmk hcv
  have hmk' : ∀ w, (Instr.makeSlice 56 (.int .i64 64) (.int .i64 64)).run Try.prog w = .ok (.slice (some ⟨w.heap.size, 0, none⟩) 64 64) (w.alloc (.cells cs 5)) := hmk
  have hcv' : ∀ (w : World) (g : Nat), g = w.heap.size → (convert 56 9 (.slice (some ⟨g, 0, none⟩) 64 64)).run Try.prog (w.alloc (.cells cs 5)) = .ok (.string zero64) (w.alloc (.cells cs 5)) := fun w g hg => by subst hg; exact hcv w
  clear hmk hcv hcs
  go_enter Try.func10, Try.ntmps10
  go_wp2_with fail
  refine (repeat_w _ zero64 n _ h1 h2 (by rw [World.cell?_alloc_at _ _ _ _ (by simp)]; rfl)).mono ?_
  rintro e w1 ⟨v, rfl, hown, hb⟩
  obtain ⟨A, c, rfl, hnc, hcm, hl, hA⟩ := Lies.of_own hown
  have hblk : w1.heap[w.heap.size]? = some (.cells [.slice none 0 0, .slice none 0 0, .bool false, .int .i64 0].toArray 28 (0, 0)) := by
    rw [hb.block _ (by simp; omega)]
    exact (Below.heap_alloc _ _ _ (by simp; omega)).trans ((Below.heap_alloc _ _ _ (by simp)).trans (blk_new w _ _))
  have hc := blk_cell hblk
  have hf := blk_free hblk
  have hsz : w.heap.size < w1.heap.size := by have := hb.size; simp at this; omega
  have hbw : Below w.heap.size w w1 := bt (bt (bt (below_alloc _ _) (below_alloc _ _)) (below_alloc _ _)) hb
  have hA' := hide (fun a (h : A = some a) => show a.block ≠ w.heap.size by have := hA a h; simp at this; omega)
  clear hown hmk' hcv' hb hblk hA
  go_wp2
  refine bodyPost_ret (v := .tuple #[.agg #[.slice A n c, .slice none 0 0, .bool false, .int .i64 (-1)], .int .i64 0]) (by simp [results, Try.results10, go_sem, hc]) rfl ?_
  refine ⟨_, rfl, ⟨A, c, none, 0, by simp, ?_, Lies.nil _ _ _, by simp; omega, by simp, by simp, by simp⟩, ?_⟩
  · have := (((hl.far (p := ⟨w.heap.size, 0, none⟩) hA'.out (.slice A n c)).far (p := ⟨w.heap.size, 1, none⟩) hA'.out (.slice none 0 0)).far (p := ⟨w.heap.size, 2, none⟩) hA'.out (.bool false)).far (p := ⟨w.heap.size, 3, none⟩) hA'.out (.int .i64 (-1))
    simpa [Texts] using this
  · exact (((hbw.setCell (p := ⟨w.heap.size, 0, none⟩) (Nat.le_refl _) _).setCell (p := ⟨w.heap.size, 1, none⟩) (Nat.le_refl _) _).setCell (p := ⟨w.heap.size, 2, none⟩) (Nat.le_refl _) _).setCell (p := ⟨w.heap.size, 3, none⟩) (Nat.le_refl _) _
set_option maxHeartbeats 400000 in
theorem new_no (n : Int) (w : World) (hn : -9223372036854775808 ≤ n ∧ n ≤ 9223372036854775807) (h : ¬ (1 ≤ n ∧ n ≤ 1024)) :
    Calls Try.prog 10 #[.int .i64 n] w (DkRet dk0 1 w) := by
  obtain ⟨h1, h2⟩ := hn
  have h' : n < 1 ∨ 1024 < n := by omega
  clear h
  rcases h' with h' | h'
  all_goals
    go_enter Try.func10, Try.ntmps10
    go_wp2
    refine bodyPost_ret (v := .tuple #[.agg #[.slice none 0 0, .slice none 0 0, .bool false, .int .i64 0], .int .i64 1]) (by simp [results, Try.results10, go_sem]) rfl ?_
    exact ⟨_, rfl, DkIs.zero _, below_alloc _ _⟩
end Go.Proofs.Ytpfbmmeipojodaa
end
section
/- The walk of sector.Check. -/
namespace Go.Proofs.Ytpfbmmeipojodaa
open Go.RowKit
theorem new_w (n : Int) (w : World) (hn : -9223372036854775808 ≤ n ∧ n ≤ 9223372036854775807) :
    Calls Try.prog 10 #[.int .i64 n] w (DkRet (newD n) (newE n) w) := by
  by_cases h : 1 ≤ n ∧ n ≤ 1024
  · obtain ⟨k, rfl⟩ := Int.eq_ofNat_of_zero_le (show 0 ≤ n by omega)
    have := new_yes k w (by omega) (by omega)
    simpa [newD, newE, h] using this
  · simpa [newD, newE, h] using new_no n w hn h
set_option maxHeartbeats 800000 in
theorem check_w (A1 A2 : Option Addr) (c1 c2 : Nat) (d : Dk) (w : World) (h1 : Texts w A1 d.secs) (h2 : Writes w A2 d.pend) (hl1 : d.secs.length ≤ 140737488351232) (hl2 : d.pend.length ≤ 140737488351232) :
    Calls Try.prog 29 #[.agg #[.slice A1 d.secs.length c1, .slice A2 d.pend.length c2, .bool d.off, .int .i64 d.fuse]] w fun e w' => e = .returned (.int .i64 (checkE d)) ∧ Below w.heap.size w w' := by
  obtain ⟨hno1, hno2⟩ := new_of d.secs.length
  cases hs : sizeOk d.secs.length
  · have hE : checkE d = 13 := by simp [checkE, right, hs]
    have HN := hide (hno2 hs).2
    rw [hE]
    clear hno1 hno2 hE
    have hmf : ∀ (fn : Fn) (first cap : Array Value) (w : World), (Instr.makeFunc fn first cap).run Try.prog w = .ok (.func fn first cap) w := fun _ _ _ _ => rfl
    go_enter Try.func29, Try.ntmps29
    go_wp2_with fail
    refine (new_w _ _ (by omega)).mono ?_
    rw [HN.out]
    rintro e w1 ⟨v, rfl, ⟨B1, k1, B2, k2, rfl, -⟩, hb⟩
    go_wp2
    go_ret
    exact ⟨rfl, bt (bt (bt (below_alloc _ _) (below_alloc _ _)) hb) (below_alloc _ _)⟩
  · have HN := hide (hno1 hs).2
    have hmf : ∀ (fn : Fn) (first cap : Array Value) (w : World), (Instr.makeFunc fn first cap).run Try.prog w = .ok (.func fn first cap) w := fun _ _ _ _ => rfl
    have hr : right d = (decide (d.pend.length ≤ 4096) && !d.secs.any odd && !d.pend.any (wrongW d.secs)) := by simp [right, hs]
    have Hr := hide hr
    clear hno1 hno2 hr
    have hd0 := Holds.alloc (Holds.new w (dkCells A1 d.secs.length c1 A2 d.pend.length c2 d.off d.fuse) 28 (0, 0)) (.cells #[.func (.func 52) #[] #[]] 99)
    have hf0 := Holds.new (w.alloc (.cells (dkCells A1 d.secs.length c1 A2 d.pend.length c2 d.off d.fuse).toArray 28)) [.func (.func 52) #[] #[]] 99 (0, 0)
    go_enter Try.func29, Try.ntmps29
    go_wp2_with fail
    refine (new_w _ _ (by omega)).mono ?_
    rw [HN.out]
    rintro e w1 ⟨v, rfl, ⟨B1, k1, B2, k2, rfl, -⟩, hb⟩
    have hd := hd0.below hb
    have hf := hf0.below hb
    have hbw := bt (bt (below_alloc _ _) (below_alloc _ _)) hb
    have hsz : w.heap.size + 1 < w1.heap.size := by have := hb.size; simp at this; omega
    have hsz0 : w.heap.size < w1.heap.size := by omega
    rw [World.size_alloc] at hf
    have g1 := h1.below hbw
    have g2 := h2.below hbw
    have q0 := hd 0 _ rfl
    have q1 := hd 1 _ rfl
    have r0 := hf 0 _ rfl
    clear hd0 hf0 hb
    by_cases hp : d.pend.length ≤ 4096
    · go_wp2_with fail
      refine (anyOdd_w A1 c1 d.secs _ (g1.below (below_alloc _ _)) hl1).mono ?_
      rintro e w2 ⟨rfl, hb2⟩
      have hb3 := bt (below_alloc _ _) hb2
      cases ho : d.secs.any odd
      · have s1 := hd.below hb3 1 _ rfl
        have hd2 := hd.below hb3
        have hf2 := hf.below hb3
        have g3 := g2.below hb3
        clear q0 q1 r0 hd hf g1 g2
        go_wp2_with fail
        refine (anyWrong_w _ _ A1 A2 c1 d.pend.length c2 d.secs d.off d.fuse A2 c2 d.pend _ hd2 hf2 g3 hl2).mono ?_
        rintro e w3 ⟨rfl, hb4⟩
        cases hg : d.pend.any (wrongW d.secs)
        · have hE : checkE d = 0 := by simp only [checkE, Hr.out, ho, hg]; simp; omega
          have HE := hide hE
          clear hE
          go_wp2
          go_ret
          exact ⟨ret_int HE.out.symm, bt (bt hbw hb3) hb4⟩
        · have hE : checkE d = 13 := by simp only [checkE, Hr.out, ho, hg]; simp
          have HE := hide hE
          clear hE
          go_wp2
          go_ret
          exact ⟨ret_int HE.out.symm, bt (bt hbw hb3) hb4⟩
      · have hE : checkE d = 13 := by simp only [checkE, Hr.out, ho]; simp
        have HE := hide hE
        clear hE
        go_wp2
        go_ret
        exact ⟨ret_int HE.out.symm, bt hbw hb3⟩
    · have hE : checkE d = 13 := by simp [checkE, Hr.out, hp]
      have HE := hide hE
      clear hE
      go_wp2
      go_ret
      exact ⟨ret_int HE.out.symm, bt hbw (below_alloc _ _)⟩
end Go.Proofs.Ytpfbmmeipojodaa
end
section
/- Append onto a row of the call's own: the source nil, empty or not. -/
namespace Go.Proofs.Ytpfbmmeipojodaa
open Go.RowKit
theorem addr_add_at (b o j : Nat) : (⟨b, o, none⟩ : Addr).add j = ⟨b, o + j, none⟩ := by unfold Addr.add; split <;> simp_all
theorem nil_of_none {w : World} {n size : Nat} {xs : List Value} (h : Lies w none n size xs) (hs : 0 < size) : n = 0 ∧ xs = [] := by
  have : xs = [] := by
    rcases Classical.em (xs = []) with e | e
    · exact e
    · obtain ⟨b, o, e', _⟩ := h.2 e; cases e'
  subst this
  have h1 := h.1
  refine ⟨?_, rfl⟩
  simp only [List.length_nil] at h1
  rcases Nat.mul_eq_zero.1 h1.symm with h1 | h1 <;> omega
section
variable {P : Program} (w : World)
theorem run_append_of_nil (base : Nat) (t ty e : TypeId) (i : TypeInfo) (size : Nat) (ht : P.underlying t = some (.slice e)) (hi : P.info? e = some i)
    (v : Value) (n : Nat) (xs : List Value) (hown : w.ownsRow base e size v n xs) (c : Nat) : (Builtin.append_ #[t, t] ty #[v, .slice none 0 c]).run P w = .ok v w := by
  rcases hown.2 with ⟨rfl, rfl⟩ | ⟨g, cap, cur, rfl, _, _, hnc, _⟩
  · simp [Builtin.append_, run_underlying ht, sizeOf, typeInfo, hi, Builtin.lenOf, Builtin.firstCells]
  · simp [Builtin.append_, run_underlying ht, sizeOf, typeInfo, hi, Builtin.lenOf, Builtin.firstCells, hnc, storeCells]

theorem run_append_any (base : Nat) (t ty e : TypeId) (i : TypeInfo) (z : Value) (size bytes : Nat) (ht : P.underlying t = some (.slice e)) (hi : P.info? e = some i) (hz : i.zero = some z)
    (hsize : i.size = size) (hby : i.bytes = bytes) (hzs : z.cells.size = size) (hsz : 0 < size)
    (v : Value) (n : Nat) (xs : List Value) (hown : w.ownsRow base e size v n xs)
    (A : Option Addr) (m c : Nat) (news : List Value) (hr : Lies w A m size news) (h1 : ∀ u ∈ news, u.oneCell' = true)
    (h63 : n + m ≤ maxLen) (hbytes : (n + m) * bytes ≤ 140737488355328) (hbase : base ≤ w.heap.size) :
    ∃ v' w', (Builtin.append_ #[t, t] ty #[v, .slice A m c]).run P w = .ok v' w' ∧ w'.ownsRow base e size v' (n + m) (xs ++ news) ∧ w.grownBy w' v.ownBlock ∧
      (v'.ownBlock = v.ownBlock ∨ v'.ownBlock = some w.heap.size) := by
  rcases A with _ | ad
  · obtain ⟨hm, hn⟩ := nil_of_none hr hsz
    subst hm
    subst hn
    exact ⟨v, w, run_append_of_nil w base t ty e i size ht hi v n xs hown c, by simpa using hown, World.grownBy.refl w _, .inl rfl⟩
  · have hcells : ∀ j u, news[j]? = some u → w.cell? (ad.add j) = some u := by
      intro j u hu
      obtain ⟨b, o, h, hc⟩ := hr.2 (fun e => by rw [e] at hu; simp at hu)
      injection h with h
      subst h
      rw [addr_add_at]
      exact hc j u hu
    obtain ⟨v', w', hrun, h2, h3, _, h5⟩ := run_append_own_at (P := P) w base t ty e i z size bytes ht hi hz hsize hby hzs hsz v n xs hown ad m c news hr.1 hcells h1 h63 hbytes hbase
    exact ⟨v', w', hrun, h2, h3, h5⟩

theorem wp_append_any {o : Oper} {a : Act} {K : Act → World → Prop} {Q : Exit → Act → World → Prop} (s x : Operand) (t : TypeId)
    (ho : o.op = .call { callee := .builtin .append, args := #[s, x], argTypes := #[t, t] })
    (base : Nat) (e : TypeId) (i : TypeInfo) (z : Value) (size bytes : Nat) (ht : P.underlying t = some (.slice e)) (hi : P.info? e = some i) (hz : i.zero = some z)
    (hsize : i.size = size) (hby : i.bytes = bytes) (hzs : z.cells.size = size) (hsz : 0 < size)
    (v : Value) (n : Nat) (xs : List Value) (hs : a.eval s = v) (hown : w.ownsRow base e size v n xs)
    (A : Option Addr) (m c : Nat) (news : List Value) (hx : a.eval x = .slice A m c) (hr : Lies w A m size news) (h1 : ∀ u ∈ news, u.oneCell' = true)
    (h63 : n + m ≤ maxLen) (hbytes : (n + m) * bytes ≤ 140737488355328) (hbase : base ≤ w.heap.size)
    (h : ∀ v' w', w'.ownsRow base e size v' (n + m) (xs ++ news) → w.grownBy w' v.ownBlock → (v'.ownBlock = v.ownBlock ∨ v'.ownBlock = some w.heap.size) → K (a.put o.dst v') w') : o.wp P a w K Q := by
  obtain ⟨v', w', hrun, h2, h3, h4⟩ := run_append_any (P := P) w base t o.type e i z size bytes ht hi hz hsize hby hzs hsz v n xs hown A m c news hr h1 h63 hbytes hbase
  unfold Oper.wp execOp
  simp only [ho, resolve, invoke, builtin, Sem.run_bind, Sem.run_pure, Result.andThen_ok, List.map_toArray, List.map_cons, List.map_nil, hs, hx, hrun]
  exact h v' w' h2 h3 h4

theorem wpList_append_any {ops : Array Oper} {rest : List Oper} {o : Oper} {a : Act} {Q : Exit → Act → World → Prop} (hgd : o.guard = none) (s x : Operand) (t : TypeId)
    (ho : o.op = .call { callee := .builtin .append, args := #[s, x], argTypes := #[t, t] })
    (base : Nat) (e : TypeId) (i : TypeInfo) (z : Value) (size bytes : Nat) (ht : P.underlying t = some (.slice e)) (hi : P.info? e = some i) (hz : i.zero = some z)
    (hsize : i.size = size) (hby : i.bytes = bytes) (hzs : z.cells.size = size) (hsz : 0 < size)
    (v : Value) (n : Nat) (xs : List Value) (hs : a.eval s = v) (hown : w.ownsRow base e size v n xs)
    (A : Option Addr) (m c : Nat) (news : List Value) (hx : a.eval x = .slice A m c) (hr : Lies w A m size news) (h1 : ∀ u ∈ news, u.oneCell' = true)
    (h63 : n + m ≤ maxLen) (hbytes : (n + m) * bytes ≤ 140737488355328) (hbase : base ≤ w.heap.size)
    (h : ∀ v' w', w'.ownsRow base e size v' (n + m) (xs ++ news) → w.grownBy w' v.ownBlock → (v'.ownBlock = v.ownBlock ∨ v'.ownBlock = some w.heap.size) → wpList P ops Q rest (a.put o.dst v') w') : wpList P ops Q (o :: rest) a w :=
  wpList_plain hgd fun _ hK => wp_append_any w s x t ho base e i z size bytes ht hi hz hsize hby hzs hsz v n xs hs hown A m c news hx hr h1 h63 hbytes hbase fun v' w' h2 h3 h4 => hK _ _ (h v' w' h2 h3 h4)

theorem step_append_any {ops : Array Oper} {o : Oper} {a : Act} {K : Act → World → Prop} {Q : Exit → Act → World → Prop} {E : Prop} (hgd : o.guard = none) (s x : Operand) (t : TypeId)
    (ho : o.op = .call { callee := .builtin .append, args := #[s, x], argTypes := #[t, t] })
    (base : Nat) (e : TypeId) (i : TypeInfo) (z : Value) (size bytes : Nat) (ht : P.underlying t = some (.slice e)) (hi : P.info? e = some i) (hz : i.zero = some z)
    (hsize : i.size = size) (hby : i.bytes = bytes) (hzs : z.cells.size = size) (hsz : 0 < size)
    (v : Value) (n : Nat) (xs : List Value) (hs : a.eval s = v) (hown : w.ownsRow base e size v n xs)
    (A : Option Addr) (m c : Nat) (news : List Value) (hx : a.eval x = .slice A m c) (hr : Lies w A m size news) (h1 : ∀ u ∈ news, u.oneCell' = true)
    (h63 : n + m ≤ maxLen) (hbytes : (n + m) * bytes ≤ 140737488355328) (hbase : base ≤ w.heap.size)
    (h : ∀ v' w', w'.ownsRow base e size v' (n + m) (xs ++ news) → w.grownBy w' v.ownBlock → (v'.ownBlock = v.ownBlock ∨ v'.ownBlock = some w.heap.size) → K (a.put o.dst v') w') :
    if Region.wanted o (yielded ops a.tmps) = true then Oper.wp P o a w K Q else E := by
  have hw : Region.wanted o (yielded ops a.tmps) = true := by simp [Region.wanted, hgd]
  rw [if_pos hw]
  exact wp_append_any w s x t ho base e i z size bytes ht hi hz hsize hby hzs hsz v n xs hs hown A m c news hx hr h1 h63 hbytes hbase h
end
end Go.Proofs.Ytpfbmmeipojodaa
end
section
/- The walks of slices.Clone at texts and at writes. -/
namespace Go.Proofs.Ytpfbmmeipojodaa
open Go.RowKit
theorem own_empty (w : World) (t : TypeId) (size : Nat) : (w.alloc (.cells #[] t)).ownsRow w.heap.size t size (.slice (some ⟨w.heap.size, 0, none⟩) 0 0) 0 [] :=
  ⟨by simp, .inr ⟨w.heap.size, 0, #[], rfl, Nat.le_refl _, heap_alloc_new w _, Nat.le_refl _, by decide, by simp, by simp⟩⟩
/-- A call's answer: a slice of its own. -/
def OwnRet (E size n : Nat) (xs : List Value) (w : World) (e : Ending) (w' : World) : Prop := ∃ v, e = .returned v ∧ w'.ownsRow w.heap.size E size v n xs ∧ Below w.heap.size w w'
theorem cloneS_w (A : Option Addr) (c : Nat) (l : List ByteArray) (w : World) (hl : Texts w A l) (hn : l.length * 16 ≤ 140737488351232) :
    Calls Try.prog 27 #[.slice A l.length c] w (OwnRet 9 1 l.length (strs l) w) := by
  rcases A with _ | ad
  · obtain ⟨h0, hx⟩ := nil_of_none hl (by decide)
    rw [hx, h0]
    refine (Try.slices_Clone_string_nil 0 c w).mono ?_
    rintro e w' ⟨rfl, rfl⟩
    exact ⟨_, rfl, World.ownsRow_nil _ _ _ _, Below.refl _ _⟩
  · rcases Classical.em (strs l = []) with hx | hx
    · have h0 : l.length = 0 := by rw [← strs_length, hx]; rfl
      rw [hx, h0]
      refine (Try.slices_Clone_string_zero ad c w).mono ?_
      rintro e w' ⟨v, rfl, ho, _, hb⟩
      exact ⟨_, rfl, ho, hb⟩
    · obtain ⟨b, o, e, hc⟩ := hl.2 hx
      cases e
      refine (Try.slices_Clone_string b o l.length c l w (Nat.le_refl _) (by omega) (fun j hj => ?_)).mono ?_
      · have := hc j (.string l[j]) (by simp [strs, hj])
        rw [this, List.getD_eq_getElem?_getD, List.getElem?_eq_getElem hj]
        rfl
      · rintro e w' ⟨v, rfl, ho, _, hb⟩
        rw [List.take_length] at ho
        exact ⟨_, rfl, ho, hb⟩
theorem Try.info66 : (Try.prog.info? 66).map (fun i => (i.zero, i.size, i.bytes)) = some (some (.agg #[.int .i64 0, .string ⟨#[]⟩]), 2, 24) := by kernel_rfl
set_option maxRecDepth 100000 in
set_option maxHeartbeats 400000 in
theorem cloneW_w (A : Option Addr) (c : Nat) (l : List Wr) (w : World) (hl : Writes w A l) (hn : l.length * 24 ≤ 140737488351232) :
    Calls Try.prog 28 #[.slice A l.length c] w (OwnRet 66 2 l.length (wrs l) w) := by
  obtain ⟨i0, hi, hz0, hz1, hz2⟩ := info_parts Try.info66
  rcases A with _ | ad
  · obtain ⟨h0, hx⟩ := nil_of_none hl (by decide)
    rw [hx, h0]
    have hq := fun (w : World) (a : Option Addr) (n c : Nat) => Lib.run_eql_slice_nil (P := Try.prog) w 26 66 a n c 0 0 Try.underlying26
    go_enter Try.func28, Try.ntmps28
    go_wp2
    go_ret
    exact ⟨_, rfl, World.ownsRow_nil _ _ _ _, Below.refl _ _⟩
  · have hq := fun (w : World) (a : Option Addr) (n c : Nat) => Lib.run_eql_slice_nil (P := Try.prog) w 26 66 a n c 0 0 Try.underlying26
    go_enter Try.func28, Try.ntmps28
    have hown0 : (w.alloc (.cells #[] 66)).ownsRow w.heap.size 66 2 (.slice (some ⟨w.heap.size, 0, none⟩) 0 0) 0 [] := own_empty w _ _
    go_wp2_with (first
      | (at_builtin
         refine wpList_append_any _ rfl (.tmp 5) (.tmp 6) _ rfl w.heap.size 66 i0 _ 2 24 Try.underlying26 hi hz0 hz1 hz2 rfl (by omega) (.slice (some ⟨w.heap.size, 0, none⟩) 0 0) 0 [] rfl
           hown0 (some ad) l.length c (wrs l) rfl (Lies.alloc hl _) (wrs_one l) (by simp only [maxLen]; omega) (by omega) (by simp) ?_
         intro v1 w1 hown1 hg1 hat1
         have hbw1 : Below w.heap.size w w1 := ((Below.refl _ _).alloc (Nat.le_refl _) _).grown hg1 (by simp) (by simp [Value.ownBlock])))
    go_ret
    exact ⟨v1, rfl, by simpa using hown1, hbw1⟩
end Go.Proofs.Ytpfbmmeipojodaa
end
section
/- The document's Holds. -/
namespace Go.Proofs.Ytpfbmmeipojodaa
open Go.RowKit
def holdF (n : Int) (l : List Wr) (s : ByteArray) : ByteArray := l.foldl (fun s x => if x.sec = n then x.data else s) s
theorem holdF_snoc (n : Int) (l : List Wr) (x : Wr) (s : ByteArray) : holdF n (l ++ [x]) s = if x.sec = n then x.data else holdF n l s := by simp [holdF]
theorem holdF_rev (n : Int) (m : List Wr) (s : ByteArray) : (match m.find? (fun x => x.sec == n) with | some x => x.data | none => s) = holdF n m.reverse s := by
  induction m with
  | nil => rfl
  | cons x m ih =>
    rw [List.reverse_cons, holdF_snoc, List.find?_cons]
    by_cases h : x.sec = n
    · simp [h]
    · simp only [show (x.sec == n) = false by simp [h], if_neg h]
      exact ih
theorem holdF_of (n : Int) (l : List Wr) (s : ByteArray) : (match l.reverse.find? (fun x => x.sec == n) with | some x => x.data | none => s) = holdF n l s := by
  rw [holdF_rev, List.reverse_reverse]
theorem holdsOf_eq (d : Dk) (n : Int) : holdsOf d n = holdF n d.pend (d.secs.getD n.toNat ⟨#[]⟩) := holdF_of n d.pend _
set_option maxRecDepth 100000 in
set_option maxHeartbeats 1000000 in
theorem refHolds_w (A1 A2 : Option Addr) (c1 c2 : Nat) (d : Dk) (n : Int) (w : World) (h1 : Texts w A1 d.secs) (h2 : Writes w A2 d.pend) (hl2 : d.pend.length ≤ 140737488351232) (ht : there d.secs n = true) :
    Calls Try.prog 93 #[.agg #[.slice A1 d.secs.length c1, .slice A2 d.pend.length c2, .bool d.off, .int .i64 d.fuse], .int .i64 n] w fun e w' => e = .returned (.string (holdsOf d n)) ∧ Below w.heap.size w w' := by
  have hn : 0 ≤ n ∧ n < d.secs.length := by simp [there] at ht; exact ht
  obtain ⟨m, rfl⟩ : ∃ m : Nat, n = (m : Int) := ⟨n.toNat, by omega⟩
  have hm : m < d.secs.length := by omega
  clear ht hn
  obtain ⟨b, o, rfl, hc⟩ := (h1.below (below_alloc w (.cells #[.slice A1 d.secs.length c1, .slice A2 d.pend.length c2, .bool d.off, .int .i64 d.fuse] 28))).at_ hm
  have hi0 : (0 : Int) ≤ (m : Int) := by omega
  have hi1 : (m : Int) < (d.secs.length : Int) := by omega
  rw [holdsOf_eq, show d.secs.getD (m : Int).toNat ⟨#[]⟩ = d.secs[m] by simp [List.getD, hm]]
  go_enter Try.func93, Try.ntmps93
  go_wp2
  go_loopw [5, 16] (fun v i wr => ∃ k : Nat, k ≤ d.pend.length ∧ i = .int .i64 k ∧ v = .string (holdF m (d.pend.take k) d.secs[m]) ∧ Below w.heap.size w wr) (fun _ i _ => d.pend.length - (intOf i).toNat)
  case atStart => exact ⟨0, by omega, rfl, rfl, below_alloc _ _⟩
  case round =>
    obtain ⟨k, hk, rfl, rfl, hb⟩ := hrel
    by_cases hlt : k < d.pend.length
    · obtain ⟨b2, o2, rfl, hc1, hc2⟩ := (h2.below hb).at_ hlt
      have hs := holdF_snoc m (d.pend.take k) d.pend[k] d.secs[m]
      rw [← List.take_succ_eq_append_getElem hlt] at hs
      obtain ⟨T, HT⟩ := named (holdF m (d.pend.take (k + 1)) d.secs[m])
      rw [← HT.out] at hs
      by_cases he : d.pend[k].sec = m
      · rw [if_pos he] at hs
        have Hs := hide hs
        clear hs
        go_wp2
        all_goals go_roundw
        case rel => exact ⟨k + 1, by omega, by go_num, by rw [← HT.out, Hs.out], hb.alloc hb.size _⟩
        case measure => simp [intOf]; omega
      · rw [if_neg he] at hs
        have Hs := hide hs
        clear hs
        go_wp2
        all_goals go_roundw
        case rel => exact ⟨k + 1, by omega, by go_num, by rw [← HT.out, Hs.out], hb.alloc hb.size _⟩
        case measure => simp [intOf]; omega
    · have hk' : k = d.pend.length := by omega
      subst hk'
      rw [List.take_length]
      go_wp2
      go_ret
      exact ⟨rfl, hb⟩
end Go.Proofs.Ytpfbmmeipojodaa
end
