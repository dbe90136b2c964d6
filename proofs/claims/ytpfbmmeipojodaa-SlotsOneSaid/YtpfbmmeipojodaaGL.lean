/- Several small texts of this proof, one behind the other. -/
import Derived.Test.YtpfbmmeipojodaaSecWalks
import Derived.Test.YtpfbmmeipojodaaGA
import Derived.Lib.SmallJoins
import Derived.Deep.Slices
import Derived.Deep.Fields
import Derived.ChangeSame
import Derived.Test.YtpfbmmeipojodaaGI
import Derived.Test.YtpfbmmeipojodaaGC
import Derived.SliceStrings
section
/- The document's Same, of two disks that are one. -/
namespace Go.Proofs.Ytpfbmmeipojodaa
open Go.RowKit
set_option maxRecDepth 100000 in
set_option maxHeartbeats 4000000 in
theorem refSame_w (va vb : Value) (d : Dk) (w : World) (ha : DkIs w va d) (hb : DkIs w vb d) :
    Calls Try.prog 18 #[va, vb] w fun e w' => e = .returned (.bool true) ∧ Below w.heap.size w w' := by
  obtain ⟨A1, c1, A2, c2, rfl, h1, h2, hl1, hl2, _, _⟩ := ha
  obtain ⟨B1, e1, B2, e2, rfl, g1, g2, _, _, _, _⟩ := hb
  obtain ⟨b0, k1, k2⟩ : Below w.heap.size w ((w.alloc (.cells #[.slice A1 d.secs.length c1, .slice A2 d.pend.length c2, .bool d.off, .int .i64 d.fuse] 28)).alloc (.cells #[.slice B1 d.secs.length e1, .slice B2 d.pend.length e2, .bool d.off, .int .i64 d.fuse] 28)) ∧
    Blk ((w.alloc (.cells #[.slice A1 d.secs.length c1, .slice A2 d.pend.length c2, .bool d.off, .int .i64 d.fuse] 28)).alloc (.cells #[.slice B1 d.secs.length e1, .slice B2 d.pend.length e2, .bool d.off, .int .i64 d.fuse] 28)) w.heap.size [.slice A1 d.secs.length c1, .slice A2 d.pend.length c2, .bool d.off, .int .i64 d.fuse] 28 ∧
    Blk ((w.alloc (.cells #[.slice A1 d.secs.length c1, .slice A2 d.pend.length c2, .bool d.off, .int .i64 d.fuse] 28)).alloc (.cells #[.slice B1 d.secs.length e1, .slice B2 d.pend.length e2, .bool d.off, .int .i64 d.fuse] 28)) (w.heap.size + 1) [.slice B1 d.secs.length e1, .slice B2 d.pend.length e2, .bool d.off, .int .i64 d.fuse] 28 := by
    refine ⟨bt (below_alloc _ _) (below_alloc _ _), (Blk.new w _ _).alloc _, ?_⟩
    have := Blk.new (w.alloc (.cells #[.slice A1 d.secs.length c1, .slice A2 d.pend.length c2, .bool d.off, .int .i64 d.fuse] 28)) [.slice B1 d.secs.length e1, .slice B2 d.pend.length e2, .bool d.off, .int .i64 d.fuse] 28
    rw [show (w.alloc (.cells #[.slice A1 d.secs.length c1, .slice A2 d.pend.length c2, .bool d.off, .int .i64 d.fuse] 28)).heap.size = w.heap.size + 1 by simp] at this
    exact this
  obtain ⟨W, HW⟩ := named ((w.alloc (.cells #[.slice A1 d.secs.length c1, .slice A2 d.pend.length c2, .bool d.off, .int .i64 d.fuse] 28)).alloc (.cells #[.slice B1 d.secs.length e1, .slice B2 d.pend.length e2, .bool d.off, .int .i64 d.fuse] 28))
  obtain ⟨S, P, off, fuse⟩ := d
  simp only at h1 h2 g1 g2 hl1 hl2 b0 k1 k2 HW ⊢
  have t1 := h1.below b0
  have t2 := h2.below b0
  have s1 := g1.below b0
  have s2 := g2.below b0
  go_enter Try.func18, Try.ntmps18
  go_wp2
  rw [← HW.out] at k1 k2 b0 t1 t2 s1 s2 ⊢
  clear HW h1 h2 g1 g2
  have x0 := k1.cell 0
  have x1 := k1.cell 1
  have y0 := k2.cell 0
  have y1 := k2.cell 1
  go_loopw [40] (fun i wr => ∃ k : Nat, k ≤ S.length ∧ i = .int .i64 k ∧ ∃ m, wr = W.drewN m) (fun i _ => S.length - (intOf i).toNat)
  case atStart => exact ⟨0, by omega, rfl, 0, rfl⟩
  case round =>
    obtain ⟨k, hk, rfl, m, rfl⟩ := hrel
    by_cases hlt : k < S.length
    · obtain ⟨b, o, rfl, hc⟩ := t1.at_ hlt
      obtain ⟨b2, o2, rfl, hc2⟩ := s1.at_ hlt
      have hi0 : (0 : Int) ≤ (k : Int) := by omega
      have hi1 : (k : Int) < (S.length : Int) := by omega
      go_wp2_with (go_quiet (fail))
      go_roundw
      case rel => exact ⟨k + 1, by omega, by go_num, _, rfl⟩
      case measure => simp [intOf]; omega
    · have hk' : k = S.length := by omega
      subst hk'
      go_wp2
      go_loopw [58] (fun i wr => ∃ k : Nat, k ≤ P.length ∧ i = .int .i64 k ∧ ∃ m, wr = W.drewN m) (fun i _ => P.length - (intOf i).toNat)
      case atStart => exact ⟨0, by omega, rfl, m, rfl⟩
      case round =>
        obtain ⟨k, hk, rfl, m, rfl⟩ := hrel
        by_cases hlt : k < P.length
        · obtain ⟨b, o, rfl, hc, hd⟩ := t2.at_ hlt
          obtain ⟨b2, o2, rfl, hc2, hd2⟩ := s2.at_ hlt
          have hi0 : (0 : Int) ≤ (k : Int) := by omega
          have hi1 : (k : Int) < (P.length : Int) := by omega
          go_wp2_with (go_quiet (fail))
          go_roundw
          case rel => exact ⟨k + 1, by omega, by go_num, _, rfl⟩
          case measure => simp [intOf]; omega
        · go_wp2
          go_ret
          exact ⟨rfl, below_drewN b0 m⟩
end Go.Proofs.Ytpfbmmeipojodaa
end
section
/- A region that came in as an argument, opened. -/
namespace Go.Proofs.Ytpfbmmeipojodaa
open Go.Joins Go.ChangeShapes Go.WideShapes Go.RowKit Go.Deep
section
variable {H : Type} {enc : TypeId × Value → H} {w : World} {n : Nat} {v : Value}
set_option maxRecDepth 100000 in
theorem open_region {b0 : Nat} {d : DataW H} {p : List MemPlace} (hv : Value.okWide Try.prog w .any b0 33 v) (h : DataW.Trod enc Try.prog w 0 (fun _ => true) true 33 v d p) :
    ∃ f s : Int, v = .agg #[.int .i64 f, .int .i64 s] ∧ (-9223372036854775808 ≤ f ∧ f ≤ 9223372036854775807) ∧ (-9223372036854775808 ≤ s ∧ s ≤ 9223372036854775807) := by
  obtain ⟨v0, v1, y0, y1, n, rfl, rfl, rfl, h0, h1⟩ := open_agg2 Try.underlying33 (by kernel_rfl) (by kernel_rfl) hv h
  obtain ⟨z0, e0, _, wf0⟩ := DataW.trod_int Try.underlying3 h0
  obtain ⟨z1, e1, _, wf1⟩ := DataW.trod_int Try.underlying3 h1
  cases e0
  cases e1
  exact ⟨z0, z1, rfl, bnd_i64 wf0, bnd_i64 wf1⟩
end
end Go.Proofs.Ytpfbmmeipojodaa
end
section
/- An image that came in as an argument, opened. -/
namespace Go.Proofs.Ytpfbmmeipojodaa
open Go.Joins Go.ChangeShapes Go.WideShapes Go.RowKit Go.Deep
section
variable {H : Type} {enc : TypeId × Value → H} {w : World} {n : Nat} {v : Value}
set_option maxRecDepth 100000 in
theorem open_image {b0 : Nat} {d : DataW H} {p : List MemPlace} (hv : Value.okWide Try.prog w .any b0 36 v) (h : DataW.Trod enc Try.prog w 0 (fun _ => true) true 36 v d p) :
    ∃ (ep : Nat) (s : ByteArray), v = .agg #[.int .u64 (ep : Int), .string s] ∧ ep < 18446744073709551616 := by
  obtain ⟨v0, v1, y0, y1, n, rfl, rfl, rfl, h0, h1⟩ := open_agg2 Try.underlying36 (by kernel_rfl) (by kernel_rfl) hv h
  obtain ⟨z0, e0, _, wf0⟩ := DataW.trod_int Try.underlying34 h0
  obtain ⟨s, e1, _, _⟩ := DataW.trod_string Try.underlying9 h1
  obtain ⟨b, rfl, hb⟩ := nat_u64 wf0
  cases e0
  cases e1
  exact ⟨b, s, rfl, hb⟩
end
end Go.Proofs.Ytpfbmmeipojodaa
end
section
/- A disk that came in as an argument, opened. -/
namespace Go.Proofs.Ytpfbmmeipojodaa
open Go.Joins Go.ChangeShapes Go.WideShapes Go.RowKit Go.Deep
section
variable {H : Type} {enc : TypeId × Value → H} {w : World} {n : Nat} {v : Value} {y : DataW H × List MemPlace}
theorem spot_none {a : Addr} {u : Value} (h : w.cell? a = some u) : a = ⟨a.block, a.off, none⟩ := by
  rcases a with ⟨b, o, s⟩
  unfold World.cell? at h
  cases s with
  | none => rfl
  | some s =>
    simp only [Option.isSome_some, if_true] at h
    split at h <;> cases h
theorem slice_weight {P : Program} {t e : TypeId} {elems spare : List (DataW H)} (ht : P.underlying t = some (.slice e)) (hw : ∀ k ∈ (DataW.slice elems spare).weights P t, k ≤ reachBytes) : (elems.length + spare.length) * P.bytesOf e ≤ reachBytes :=
  hw _ (by simp [DataW.weights, ht])
theorem open_texts (h : DataW.trod enc Try.prog w 0 (fun _ => true) true n 22 [v] = some y) :
    ∃ (S : List ByteArray) (A : Option Addr) (c : Nat), v = .slice A S.length c ∧ Texts w A S ∧ ((∀ k ∈ y.1.weights Try.prog 22, k ≤ reachBytes) → S.length * 16 ≤ 140737488351232) := by
  rcases open_strings Try.underlying22 Try.underlying9 (by kernel_rfl) h with ⟨hc, rfl⟩ | ⟨a, len, cap, ss, hc, _, hl, hm, hlen, rfl, hcell, _⟩
  · cases hc
    exact ⟨[], none, 0, rfl, Lies.nil _ _ _, fun _ => by simp⟩
  · cases hc
    simp only [if_true] at hlen
    have hlt : (ss.take len).length = len := by simp; omega
    refine ⟨ss.take len, some a, cap, by rw [hlt], ⟨by rw [strs_length, Nat.mul_one], fun hne => ?_⟩, fun hw => ?_⟩
    · have hpos : 0 < len := by
        rcases Nat.eq_zero_or_pos len with e | e
        · subst e; simp [strs] at hne
        · exact e
      have h0 := hcell 0 (by omega)
      have ha := spot_none h0
      have ha' : a = ⟨a.block, a.off, none⟩ := by
        have : (a.add 0) = a := by simp [Addr.add]
        rw [this] at ha
        exact ha
      refine ⟨a.block, a.off, by rw [← ha'], fun j u hu => ?_⟩
      have hj : j < len := by
        have := (List.getElem?_eq_some_iff.1 hu).1
        rw [strs_length, hlt] at this
        exact this
      have hcj := hcell j (by omega)
      rw [ha', addr_add] at hcj
      rw [hcj]
      simp only [strs, List.getElem?_map, List.getElem?_take, if_pos hj, Option.map_eq_some_iff] at hu
      obtain ⟨s, hs, rfl⟩ := hu
      simp [List.getD, hs]
    · have := slice_weight Try.underlying22 hw
      rw [show Try.prog.bytesOf 9 = 16 by kernel_rfl] at this
      simp only [reachBytes, ChangeShapes.strs, List.length_map, List.length_take, List.length_drop] at this
      simp only [List.length_take]
      omega
set_option maxRecDepth 100000 in
theorem open_writes (h : DataW.trod enc Try.prog w 0 (fun _ => true) true n 26 [v] = some y) :
    ∃ (P : List Wr) (A : Option Addr) (c : Nat), v = .slice A P.length c ∧ Writes w A P ∧ ((∀ k ∈ y.1.weights Try.prog 26, k ≤ reachBytes) → P.length * 24 ≤ 140737488351232) := by
  rcases open_slice Try.underlying26 h with ⟨hc, rfl⟩ | ⟨a, len, cap, m, n', D, Pl, hc, _, hl, hm, hmm, rfl, hi⟩
  · cases hc
    exact ⟨[], none, 0, rfl, Lies.nil _ _ _, fun _ => by simp⟩
  · cases hc
    simp only [if_true] at hmm
    subst hmm
    rw [show Try.prog.cellsOf 66 = 2 by kernel_rfl] at hi
    have each : ∀ i, i < m → ∃ x : Wr, w.cell? (a.add (i * 2)) = some (.int .i64 x.sec) ∧ w.cell? (a.add (i * 2 + 1)) = some (.string x.data) := by
      intro i hi'
      obtain ⟨cs', hcs, ht⟩ := hi i hi'
      obtain ⟨_, hcl, hat⟩ := World.cells?_some hcs
      obtain ⟨ys, n2, hn2, hy, hlen, hyl, hf⟩ := DataW.trod_struct Try.underlying66 ht
      have hsz : cs'.length = 2 := hcl
      match cs', hsz with
      | [u0, u1], _ =>
        have hone : oneCellFields Try.prog (match Try.prog.underlying 66 with | some (.struct fs) => fs | _ => #[]) = true := by kernel_rfl
        rw [Try.underlying66] at hone
        obtain ⟨o0, k0⟩ := hone_of hone 0 _ rfl
        obtain ⟨o1, k1⟩ := hone_of hone 1 _ rfl
        have g0 := hf 0 _ rfl
        have g1 := hf 1 _ rfl
        rw [o0, k0] at g0
        rw [o1, k1] at g1
        simp only [List.drop_zero, List.take_succ_cons, List.take_zero, List.drop_succ_cons] at g0 g1
        have hy0 : ys[0]? = some (ys[0]'(by rw [hyl]; decide)) := List.getElem?_eq_getElem _
        have hy1 : ys[1]? = some (ys[1]'(by rw [hyl]; decide)) := List.getElem?_eq_getElem _
        obtain ⟨z, hz, _, _⟩ := DataW.trod_int Try.underlying3 (g0.trans hy0)
        obtain ⟨s, hs, _, _⟩ := DataW.trod_string Try.underlying9 (g1.trans hy1)
        cases hz
        cases hs
        refine ⟨⟨z, s⟩, ?_, ?_⟩
        · have := hat 0 (by decide)
          simpa [Addr.add] using this
        · have := hat 1 (by decide)
          rw [← Go.Deep.add_add, this]
          rfl
    obtain ⟨f, hf⟩ : ∃ f : Nat → Wr, ∀ i, i < m → w.cell? (a.add (i * 2)) = some (.int .i64 (f i).sec) ∧ w.cell? (a.add (i * 2 + 1)) = some (.string (f i).data) :=
      ⟨fun i => if h : i < m then (each i h).choose else ⟨0, ⟨#[]⟩⟩, fun i h => by simp only [dif_pos h]; exact (each i h).choose_spec⟩
    have hlen : ((List.range len).map f).length = len := by simp
    refine ⟨(List.range len).map f, some a, m, by rw [hlen], ⟨by rw [wrs_length], fun hne => ?_⟩, fun hw => ?_⟩
    · have hpos : 0 < len := by
        rcases Nat.eq_zero_or_pos len with e | e
        · subst e; simp [wrs] at hne
        · exact e
      have ha := spot_none (hf 0 (by omega)).1
      have ha' : a = ⟨a.block, a.off, none⟩ := by
        have : (a.add (0 * 2)) = a := by simp [Addr.add]
        rw [this] at ha
        exact ha
      refine ⟨a.block, a.off, by rw [← ha'], fun j u hu => ?_⟩
      have hj : j < len * 2 := by
        have := (List.getElem?_eq_some_iff.1 hu).1
        rw [wrs_length, hlen] at this
        exact this
      have hk : j / 2 < len := by omega
      obtain ⟨p0, p1⟩ := hf (j / 2) (by omega)
      rw [ha', addr_add] at p0 p1
      obtain ⟨q0, q1⟩ := wrs_get ((List.range len).map f) (j / 2) (by omega)
      rcases (show j = j / 2 * 2 ∨ j = j / 2 * 2 + 1 by omega) with e | e
      · rw [e] at hu ⊢
        rw [q0] at hu
        rw [← hu, p0]
        simp
      · rw [e] at hu ⊢
        rw [q1] at hu
        rw [← hu, p1]
        simp
    · have := slice_weight Try.underlying26 hw
      rw [show Try.prog.bytesOf 66 = 24 by kernel_rfl] at this
      simp only [reachBytes, List.length_map, List.length_range] at this
      simp only [List.length_map, List.length_range]
      omega
theorem open_bools (h : DataW.trod enc Try.prog w 0 (fun _ => true) true n 24 [v] = some y) : ∃ (l : List Bool) (A : Option Addr) (c : Nat), v = .slice A l.length c ∧ Bools w A l ∧ ((∀ k ∈ y.1.weights Try.prog 24, k ≤ reachBytes) → l.length ≤ 140737488351232) := by
  rcases open_slice Try.underlying24 h with ⟨hc, rfl⟩ | ⟨a, len, cap, m, n', D, Pl, hc, _, hl, hm, hmm, rfl, hi⟩
  · cases hc
    exact ⟨[], none, 0, rfl, Lies.nil _ _ _, fun _ => by simp⟩
  · cases hc
    simp only [if_true] at hmm
    subst hmm
    rw [show Try.prog.cellsOf 4 = 1 by kernel_rfl] at hi
    have each : ∀ i, i < m → ∃ x : Bool, w.cell? (a.add i) = some (.bool x) := by
      intro i hi'
      obtain ⟨cs', hcs, ht⟩ := hi i hi'
      obtain ⟨b, rfl, _⟩ := DataW.trod_bool Try.underlying4 ht
      rw [Nat.mul_one] at hcs
      obtain ⟨_, hcl, hat⟩ := World.cells?_some hcs
      have := hat 0 (by decide)
      exact ⟨b, by simpa [Addr.add] using this⟩
    obtain ⟨f, hf⟩ : ∃ f : Nat → Bool, ∀ i, i < m → w.cell? (a.add i) = some (.bool (f i)) :=
      ⟨fun i => if h : i < m then (each i h).choose else false, fun i h => by simp only [dif_pos h]; exact (each i h).choose_spec⟩
    have hlen : ((List.range len).map f).length = len := by simp
    refine ⟨(List.range len).map f, some a, m, by rw [hlen], ⟨by simp [bools], fun hne => ?_⟩, fun hw => ?_⟩
    · have hpos : 0 < len := by
        rcases Nat.eq_zero_or_pos len with e | e
        · subst e; simp [bools] at hne
        · exact e
      have ha := spot_none (hf 0 (by omega))
      have ha' : a = ⟨a.block, a.off, none⟩ := by
        have : (a.add 0) = a := by simp [Addr.add]
        rw [this] at ha
        exact ha
      refine ⟨a.block, a.off, by rw [← ha'], fun j u hu => ?_⟩
      have hj : j < len := by
        have := (List.getElem?_eq_some_iff.1 hu).1
        simpa [bools] using this
      have p0 := hf j (by omega)
      rw [ha', addr_add] at p0
      rw [p0, ← hu]
      simp [bools, hj]
    · have := slice_weight Try.underlying24 hw
      rw [show Try.prog.bytesOf 4 = 1 by kernel_rfl] at this
      simp only [reachBytes, List.length_map, List.length_range] at this
      simp only [List.length_map, List.length_range]
      omega
set_option maxRecDepth 100000 in
theorem open_disk {b0 : Nat} {d : DataW H} {p : List MemPlace} (hv : Value.okWide Try.prog w .any b0 28 v) (h : DataW.Trod enc Try.prog w 0 (fun _ => true) true 28 v d p) :
    ∃ (D : Dk) (A1 : Option Addr) (c1 : Nat) (A2 : Option Addr) (c2 : Nat), v = .agg #[.slice A1 D.secs.length c1, .slice A2 D.pend.length c2, .bool D.off, .int .i64 D.fuse] ∧ Texts w A1 D.secs ∧ Writes w A2 D.pend ∧ (-9223372036854775808 ≤ D.fuse ∧ D.fuse ≤ 9223372036854775807) ∧
      ((∀ k ∈ d.weights Try.prog 28, k ≤ reachBytes) → D.secs.length * 16 ≤ 140737488351232 ∧ D.pend.length * 24 ≤ 140737488351232) := by
  obtain ⟨v0, v1, v2, v3, y0, y1, y2, y3, n, rfl, rfl, rfl, h0, h1, h2, h3⟩ := open_agg4 Try.underlying28 (by kernel_rfl) (by kernel_rfl) hv h
  obtain ⟨S, A1, c1, rfl, t1, z1⟩ := open_texts h0
  obtain ⟨P, A2, c2, rfl, t2, z2⟩ := open_writes h1
  obtain ⟨off, e2, _⟩ := DataW.trod_bool Try.underlying4 h2
  obtain ⟨fuse, e3, _, wf⟩ := DataW.trod_int Try.underlying3 h3
  cases e2
  cases e3
  refine ⟨⟨S, P, off, fuse⟩, A1, c1, A2, c2, rfl, t1, t2, bnd_i64 wf, fun hw => ⟨z1 fun k hk => hw k ?_, z2 fun k hk => hw k ?_⟩⟩
  · simp only [DataW.weights, Try.underlying28, DataW.weightsEach, List.map_cons, List.mem_append]
    exact .inl hk
  · simp only [DataW.weights, Try.underlying28, DataW.weightsEach, List.map_cons, List.mem_append]
    exact .inr (.inl hk)
set_option maxRecDepth 100000 in
theorem open_keep {b0 : Nat} {d : DataW H} {p : List MemPlace} (hv : Value.okWide Try.prog w .any b0 24 v) (h : DataW.Trod enc Try.prog w 0 (fun _ => true) true 24 v d p) :
    ∃ (l : List Bool) (A : Option Addr) (c : Nat), v = .slice A l.length c ∧ Bools w A l ∧ ((∀ k ∈ d.weights Try.prog 24, k ≤ reachBytes) → l.length ≤ 140737488351232) := by
  obtain ⟨fuel, hf⟩ := h
  obtain ⟨A, n', c, rfl⟩ := okWide_slice Try.underlying24 hv
  exact open_bools hf
end
end Go.Proofs.Ytpfbmmeipojodaa
end
