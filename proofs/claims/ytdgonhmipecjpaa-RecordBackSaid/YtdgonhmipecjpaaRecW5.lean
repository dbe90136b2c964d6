/- The law RecordBack: the walk. -/
import Derived.Test.YtdgonhmipecjpaaRecW1
import Derived.Test.YtdgonhmipecjpaaFlat2
import Derived.Test.YtdgonhmipecjpaaRecW3
import Derived.Test.YtdgonhmipecjpaaRecRef
import Derived.Deep.DeepCutAuto
namespace Go.Proofs.Ytdgonhmipecjpaa
set_option linter.unusedSimpArgs false
set_option linter.unusedVariables false
open Go.RowKit Go.Shelf
open Crc
theorem other_count (f : Fr) (hf : FrOk f) (l : List (List UInt8)) (h0 : l[0]? = some (frHead f)) (hl : l.length ≠ piecesN f.pay.length + 1) : NoFrame (l.map str) := by
  intro g hg he
  have he := map_str_inj he
  subst he
  rw [sectorsL_length] at hl
  have h1 : frHead g = frHead f := by simpa [sectorsL] using h0
  have := congrArg (fun l => atL l 18 4) h1
  simp only [frHead, head_at18] at this
  rw [Nat.mod_eq_of_lt (by have := hg.pay; omega), Nat.mod_eq_of_lt (by have := hf.pay; omega)] at this
  rw [this] at hl
  exact hl rfl
theorem cut_no (f : Fr) (hf : FrOk f) : NoFrame (((sectorsL f).map str).take (piecesN f.pay.length)) := by
  rw [← List.map_take]
  rcases Nat.eq_zero_or_pos (piecesN f.pay.length) with h | h
  · rw [h]
    intro g _ he
    rw [sectorsL] at he
    cases he
  · refine other_count f hf _ ?_ (by rw [List.length_take, sectorsL_length]; omega)
    rw [List.getElem?_take, if_pos h, sectorsL]
    rfl
theorem more_no (f : Fr) (hf : FrOk f) (x : ByteArray) (l : List UInt8) (hx : str l = x) : NoFrame ((sectorsL f).map str ++ [x]) := by
  rw [show (sectorsL f).map str ++ [x] = (sectorsL f ++ [l]).map str by rw [List.map_append, List.map_singleton, hx]]
  refine other_count f hf _ ?_ (by rw [List.length_append, sectorsL_length]; simp)
  rw [sectorsL]
  rfl
theorem head_val (kind : UInt8) (epoch seq : Nat) (p : ByteArray) (hp : p.size ≤ 16384) (he : epoch < 18446744073709551616) (hs : seq < 18446744073709551616) :
    headVal (frHead ⟨kind, epoch, seq, p.data.toList⟩) = .agg #[.int .u8 (kind.toNat : Int), .int .u64 (epoch : Int), .int .u64 (seq : Int), .int .i64 (p.size : Int), .int .u32 (crcOf p.data.toList : Int)] := by
  have hl : p.data.toList.length = p.size := Array.length_toList
  have := crcOf_lt p.data.toList
  rw [headVal, frHead, head_kind, head_at2, head_at10, head_at18, head_at22]
  simp only [hl]
  rw [Nat.mod_eq_of_lt (show epoch < 256 ^ 8 from he), Nat.mod_eq_of_lt (show seq < 256 ^ 8 from hs), Nat.mod_eq_of_lt (show p.size < 256 ^ 4 by omega), Nat.mod_eq_of_lt (by simpa using this)]
def relL (l : List ((Nat → Bool) → Value → World → Prop)) (L : Nat → Bool) (j : Nat) : Value → World → Prop := (l.getD j (fun _ _ _ => True)) L
/-- One block at most is otherwise, and of it this was so. -/
def Only (Pr : Array Value → TypeId → Prop) (u u' : World) : Prop := ∃ row cur E, u.heap[row]? = some (.cells cur E (0, 0)) ∧ Pr cur E ∧ ∀ k, k < u.heap.size → k ≠ row → u'.heap[k]? = u.heap[k]?
theorem blk_only {Pr : Array Value → TypeId → Prop} {u u' : World} {g : Nat} {cs : List Value} {t : TypeId} (h : Blk u g cs t) (ho : Only Pr u u') (hn : ¬ Pr cs.toArray t) : Blk u' g cs t := by
  obtain ⟨row, cur, E, h1, h2, h3⟩ := ho
  refine (h3 g h.lt (fun e => ?_)).trans h
  subst e
  unfold Blk at h
  rw [h] at h1
  cases h1
  exact hn h2
theorem own_only {Pr : Array Value → TypeId → Prop} {u u' : World} {base : Nat} {e : TypeId} {n : Nat} {v : Value} {xs : List Value} (h : u.ownsRow base e 1 v (n + 1) xs) (ho : Only Pr u u') (hn : ∀ cur : Array Value, n + 1 ≤ cur.size → cur.size = cur.size → ¬ Pr cur e) : u'.ownsRow base e 1 v (n + 1) xs := by
  obtain ⟨row, cur', E, h1, h2, h3⟩ := ho
  refine ⟨h.1, ?_⟩
  rcases h.2 with h' | ⟨g, cap, cur, hv, hg, hh, hc1, hc2, hc3, hc4⟩
  · exact .inl h'
  · refine .inr ⟨g, cap, cur, hv, hg, (h3 g (Array.getElem?_eq_some_iff.1 hh).1 (fun e' => ?_)).trans hh, hc1, hc2, hc3, hc4⟩
    subst e'
    rw [hh] at h1
    cases h1
    exact hn _ (by omega) rfl h2
theorem own0_only {Pr : Array Value → TypeId → Prop} {u u' : World} {base g : Nat} {e : TypeId} (h : u.ownsRow base e 1 (.slice (some ⟨g, 0, none⟩) 0 0) 0 []) (ho : Only Pr u u') (hn : ∀ cur : Array Value, cur.size = 0 → ¬ Pr cur e) : u'.ownsRow base e 1 (.slice (some ⟨g, 0, none⟩) 0 0) 0 [] := by
  obtain ⟨row, cur', E, h1, h2, h3⟩ := ho
  refine ⟨h.1, ?_⟩
  rcases h.2 with ⟨h', _⟩ | ⟨g', cap, cur, hv, hg, hh, hc1, hc2, hc3, hc4⟩
  · cases h'
  · cases hv
    refine .inr ⟨g, 0, cur, rfl, hg, (h3 g (Array.getElem?_eq_some_iff.1 hh).1 (fun e' => ?_)).trans hh, hc1, hc2, hc3, hc4⟩
    subst e'
    rw [hh] at h1
    cases h1
    exact hn _ (by omega) h2
theorem grown_below {n0 : Nat} {w0 u u' : World} {e : TypeId} {n : Nat} {v : Value} {xs : List Value} (hb : Below n0 w0 u) (hs : n0 ≤ u.heap.size) (h : u.ownsRow n0 e 1 v n xs) (hg : u.grownBy u' v.ownBlock) : Below n0 w0 u' :=
  hb.grown hg hs (fun k hk => (World.ownsRow.lt h k hk).1)
theorem only_grown {n0 g : Nat} {u u' : World} {e : TypeId} (h : u.ownsRow n0 e 1 (.slice (some ⟨g, 0, none⟩) 0 0) 0 []) (hg : u.grownBy u' (Value.slice (some ⟨g, 0, none⟩) 0 0).ownBlock) : Only (fun c E => E = e ∧ c.size = 0) u u' := by
  rcases h.2 with ⟨h', _⟩ | ⟨g', cap, cur, hv, _, hh, hc1, hc2, hc3, hc4⟩
  · cases h'
  · cases hv
    exact ⟨g, cur, e, hh, ⟨rfl, by omega⟩, fun k hk hne => hg.block k hk (by simpa [Value.ownBlock] using hne)⟩
theorem only_grown2 {n0 n : Nat} {u u' : World} {e : TypeId} {v : Value} {xs : List Value} (h : u.ownsRow n0 e 1 v n xs) (hn : 0 < n) (hg : u.grownBy u' v.ownBlock) : Only (fun c E => E = e ∧ c.size ≠ 0) u u' := by
  rcases h.2 with ⟨_, h0⟩ | ⟨g', cap, cur, hv, _, hh, hc1, hc2, hc3, hc4⟩
  · omega
  · subst hv
    exact ⟨g', cur, e, hh, ⟨rfl, by omega⟩, fun k hk hne => hg.block k hk (by simpa [Value.ownBlock] using hne)⟩
theorem only_set4 {u : World} {g : Nat} {cs : List Value} {t : TypeId} (h : Blk u g cs t) (a b c d : Value) : Only (fun _ E => E = t) u ((((u.setCell ⟨g, 0, none⟩ a).setCell ⟨g, 1, none⟩ b).setCell ⟨g, 2, none⟩ c).setCell ⟨g, 3, none⟩ d) :=
  ⟨g, _, t, h, rfl, fun k _ hne => (Below.heap_setCell _ _ _ _ hne).trans ((Below.heap_setCell _ _ _ _ hne).trans ((Below.heap_setCell _ _ _ _ hne).trans (Below.heap_setCell _ _ _ _ hne)))⟩
theorem own_mono {u : World} {b b' : Nat} {e : TypeId} {size n : Nat} {v : Value} {xs : List Value} (h : u.ownsRow b e size v n xs) (hb : b' ≤ b) : u.ownsRow b' e size v n xs := by
  refine ⟨h.1, ?_⟩
  rcases h.2 with h' | ⟨g, cap, cur, hv, hg, h'⟩
  · exact .inl h'
  · exact .inr ⟨g, cap, cur, hv, Nat.le_trans hb hg, h'⟩
theorem lies_one {u : World} {g : Nat} {x : Value} {t : TypeId} (h : Blk u g [x] t) : Lies u (some ⟨g, 0, none⟩) 1 1 [x] :=
  ⟨rfl, fun _ => ⟨g, 0, rfl, fun j v hv => by rw [Nat.zero_add, h.cell]; exact hv⟩⟩
theorem texts_take {w : World} {A : Option Addr} {l : List ByteArray} (h : Texts w A l) {k : Nat} (hk : k ≤ l.length) : Texts w A (l.take k) := by
  refine ⟨by simp [strs], fun hne => ?_⟩
  have hl : strs l ≠ [] := fun e => hne (by
    have : l = [] := by simpa [strs] using e
    subst this
    simp [strs])
  obtain ⟨b, o, e, hc⟩ := h.2 hl
  refine ⟨b, o, e, fun j u hu => hc j u ?_⟩
  rw [strs, List.map_take, List.getElem?_take] at hu
  split at hu
  · exact hu
  · cases hu
set_option maxHeartbeats 8000000 in
set_option maxRecDepth 100000 in
theorem recordback_w (kind : UInt8) (epoch seq : Nat) (p : ByteArray) (A0 : Option Addr) (c0 : Nat) (s : List ByteArray) (w : World) (he : epoch < 18446744073709551616) (hs : seq < 18446744073709551616) (hts : Texts w A0 s) (hcs : s.length ≤ c0) (hsl : s.length ≤ 140737488351232) :
    Calls Try.prog 4 #[.agg #[.int .u8 (kind.toNat : Int), .int .u64 (epoch : Int), .int .u64 (seq : Int), .string p], .slice A0 s.length c0] w fun e w' => e = .returned (.bool true) ∧ Below w.heap.size w w' := by
  have k1 := Blk.new w [.int .u8 (kind.toNat : Int), .int .u64 (epoch : Int), .int .u64 (seq : Int), .string p] 24
  have b1 := below_alloc w (.cells #[.int .u8 (kind.toNat : Int), .int .u64 (epoch : Int), .int .u64 (seq : Int), .string p] 24)
  go_enter Try.func4, Try.ntmps4
  go_wp2_with fail
  refine (recLives_w _).mono ?_
  rintro e w2 ⟨rfl, hb2⟩
  replace k1 := k1.below hb2
  replace b1 := bt b1 hb2
  clear hb2
  have y := k1.cell
  go_wp2_with fail
  by_cases hc : frCheck ⟨kind, epoch, seq, p.data.toList⟩ = 0
  case neg =>
    have hno := recSectors_no kind epoch seq p w2 hc
    obtain ⟨why, hwhy⟩ := named (frCheck ⟨kind, epoch, seq, p.data.toList⟩)
    rw [← hwhy.out] at hno hc
    have hne : (why == 0) = false := by simp [hc]
    refine hno.mono ?_
    rintro e w3 ⟨rfl, hb3⟩
    have b3 := bt b1 hb3
    replace hts := Texts.below hts b3
    clear hno hwhy hc y b1 hb3 k1
    go_wp2_with fail
    by_cases hf : ∃ f, FrOk f ∧ (sectorsL f).map str = s
    · obtain ⟨f, hf, hfs⟩ := hf
      have hjy := join_yes A0 c0 s.length f w3 hf (by rw [← hfs, List.length_map, sectorsL_length]) hcs (by rw [hfs]; exact hts)
      unfold frVal at hjy
      refine hjy.mono ?_
      rintro e wj ⟨rfl, hbj⟩
      have kf := Blk.new wj [.int .u8 (f.kind.toNat : Int), .int .u64 (f.epoch : Int), .int .u64 (f.seq : Int), .string (str f.pay)] 24
      have bf := (bt b3 hbj).alloc (bt b3 hbj).size (.cells #[.int .u8 (f.kind.toNat : Int), .int .u64 (f.epoch : Int), .int .u64 (f.seq : Int), .string (str f.pay)] 24)
      have htf : Texts (wj.alloc (.cells #[.int .u8 (f.kind.toNat : Int), .int .u64 (f.epoch : Int), .int .u64 (f.seq : Int), .string (str f.pay)] 24)) A0 s := Lies.alloc (Texts.below hts hbj) _
      have hsy := fun u => recSectors_yes f.kind f.epoch f.seq (str f.pay) u hf.kind (by rw [str_size]; exact hf.pay)
      simp only [str_data] at hsy
      rw [show piecesN (str f.pay).size + 1 = s.length by rw [← hfs, List.length_map, sectorsL_length, str_size]] at hsy
      simp only [show (sectorsL ⟨f.kind, f.epoch, f.seq, f.pay⟩).map str = s from hfs] at hsy
      clear hjy hbj
      obtain ⟨F, HF⟩ := named (str f.pay)
      rw [← HF.out] at kf bf htf hsy ⊢
      have y := kf.cell
      go_wp2_with fail
      refine (hsy _).mono ?_
      rintro e wk ⟨⟨A9, c9, rfl, _, ht9⟩, hbk⟩
      have ht0 := Texts.below htf hbk
      have bk := bt bf hbk
      clear y kf hsy htf bf hbk
      go_wp2_with fail
      refine (refSame3_w A9 A0 c9 c0 s _ ht9 ht0 hsl).mono ?_
      rintro e wl ⟨rfl, hbl⟩
      go_wp2
      go_ret
      exact ⟨rfl, bt bk hbl⟩
    · have hjn := join_no A0 c0 s.length s w3 (fun f hok e => hf ⟨f, hok, e⟩) rfl hsl hcs hts
      unfold zeroFrame at hjn
      refine hjn.mono ?_
      rintro e wj ⟨rfl, hbj⟩
      have kf := Blk.new wj [.int .u8 0, .int .u64 0, .int .u64 0, .string ⟨#[]⟩] 24
      have bf := (bt b3 hbj).alloc (bt b3 hbj).size (.cells #[.int .u8 0, .int .u64 0, .int .u64 0, .string ⟨#[]⟩] 24)
      have y := kf.cell
      clear hjn
      go_wp2
      go_ret
      exact ⟨rfl, bf⟩
  obtain ⟨hk, hp⟩ := frCheck_ok hc
  clear hc
  refine (recSectors_yes kind epoch seq p _ hk hp).mono ?_
  rintro e w3 ⟨⟨A, c, rfl, hcap, ht⟩, hb3⟩
  replace k1 := k1.below hb3
  replace b1 := bt b1 hb3
  clear y hb3
  have hfok : FrOk ⟨kind, epoch, seq, p.data.toList⟩ := ⟨hk, hp, he, hs⟩
  have hj1 := join_yes A c (piecesN p.size + 1) ⟨kind, epoch, seq, p.data.toList⟩ w3 hfok rfl hcap ht
  unfold frVal at hj1
  simp only [str_of] at hj1
  have hhd := head_val kind epoch seq p hp he hs
  have hH := fun u => recHead_yes (str (frHead ⟨kind, epoch, seq, p.data.toList⟩)) u (head_ok _ hfok)
  rw [str_data, hhd] at hH
  have hcut := cut_no _ hfok
  have hmore := fun x l h => more_no _ hfok x l h
  have hll : ((sectorsL ⟨kind, epoch, seq, p.data.toList⟩).map str).length = piecesN p.size + 1 := by rw [List.length_map, sectorsL_length]; rfl
  rw [show (⟨kind, epoch, seq, p.data.toList⟩ : Fr).pay.length = p.size from Array.length_toList] at hcut
  obtain ⟨np, hnp⟩ := named (piecesN p.size)
  have hnp9 : np ≤ 269 := by rw [hnp.out]; unfold piecesN; omega
  rw [← hnp.out] at hcap hll hj1 hcut ⊢
  obtain ⟨sm, hsm⟩ := named (crcOf p.data.toList)
  have hsum : ∀ u, Calls Try.prog 25 #[.string p] u fun e w' => e = .returned (.int .u32 (sm : Int)) ∧ u = w' := fun u => by
    rw [hsm.out]; exact sum_w p u (Nat.le_trans hp (by decide))
  rw [← hsm.out] at hH
  obtain ⟨L, h0, hll, ht, hcut, hmore⟩ : ∃ L : List ByteArray, L[0]? = some (str (frHead ⟨kind, epoch, seq, p.data.toList⟩)) ∧ L.length = np + 1 ∧ Texts w3 A L ∧ NoFrame (L.take np) ∧ (∀ (k : Nat) (hk : k < L.length), NoFrame (L ++ [L[k]])) :=
    ⟨_, by rw [sectors_cons]; rfl, hll, ht, hcut, fun k hk => hmore _ _ (str_of _)⟩
  obtain ⟨hs0, Hs0⟩ := named (str (frHead ⟨kind, epoch, seq, p.data.toList⟩))
  rw [← Hs0.out] at hH h0
  obtain ⟨ab, ao, rfl, hc0⟩ := Texts.at_ ht (k := 0) (by omega)
  have hL0 : L[0]'(by omega) = hs0 := by
    rw [List.getElem?_eq_getElem (by omega)] at h0
    injection h0
  rw [hL0, Nat.add_zero] at hc0
  clear Hs0 h0 hL0 hfok hk hhd hsm
  go_wp2_with fail
  refine hj1.mono ?_
  rintro e w4 ⟨rfl, hb4⟩
  clear hj1
  replace k1 := k1.below hb4
  replace b1 := bt b1 hb4
  replace ht := Texts.below ht hb4
  have hc4 := (hb4.cell (World.block_lt_of_cell? w3 _ hc0)).trans hc0
  clear hb4 hc0
  have k2 := Blk.new w4 [.int .u8 (kind.toNat : Int), .int .u64 (epoch : Int), .int .u64 (seq : Int), .string p] 24
  replace k1 := k1.alloc (.cells #[.int .u8 (kind.toNat : Int), .int .u64 (epoch : Int), .int .u64 (seq : Int), .string p] 24)
  replace b1 := b1.alloc b1.size (.cells #[.int .u8 (kind.toNat : Int), .int .u64 (epoch : Int), .int .u64 (seq : Int), .string p] 24)
  replace ht := Lies.alloc ht (.cells #[.int .u8 (kind.toNat : Int), .int .u64 (epoch : Int), .int .u64 (seq : Int), .string p] 24)
  have hc5 := (World.cell?_alloc_lt w4 (.cells #[.int .u8 (kind.toNat : Int), .int .u64 (epoch : Int), .int .u64 (seq : Int), .string p] 24) ⟨ab, ao, none⟩ (World.block_lt_of_cell? w4 _ hc4)).trans hc4
  clear hc4
  go_wp2_with fail
  obtain ⟨gB, HgB⟩ := named w4.heap.size
  obtain ⟨w5, Hw5⟩ := named (w4.alloc (.cells #[.int .u8 (kind.toNat : Int), .int .u64 (epoch : Int), .int .u64 (seq : Int), .string p] 24))
  rw [← HgB.out] at k2 ⊢
  rw [← Hw5.out] at k1 k2 b1 ht hc5 ⊢
  clear Hw5 HgB
  refine (hH _).mono ?_
  rintro e w6 ⟨rfl, hb6⟩
  replace k1 := k1.below hb6
  replace k2 := k2.below hb6
  replace b1 := bt b1 hb6
  replace ht := Texts.below ht hb6
  clear hb6 hc5 hH
  have k3 := Blk.new w6 [.int .u8 (kind.toNat : Int), .int .u64 (epoch : Int), .int .u64 (seq : Int), .int .i64 (p.size : Int), .int .u32 (sm : Int)] 39
  replace k1 := k1.alloc (.cells #[.int .u8 (kind.toNat : Int), .int .u64 (epoch : Int), .int .u64 (seq : Int), .int .i64 (p.size : Int), .int .u32 (sm : Int)] 39)
  replace k2 := k2.alloc (.cells #[.int .u8 (kind.toNat : Int), .int .u64 (epoch : Int), .int .u64 (seq : Int), .int .i64 (p.size : Int), .int .u32 (sm : Int)] 39)
  replace b1 := b1.alloc b1.size (.cells #[.int .u8 (kind.toNat : Int), .int .u64 (epoch : Int), .int .u64 (seq : Int), .int .i64 (p.size : Int), .int .u32 (sm : Int)] 39)
  replace ht := Lies.alloc ht (.cells #[.int .u8 (kind.toNat : Int), .int .u64 (epoch : Int), .int .u64 (seq : Int), .int .i64 (p.size : Int), .int .u32 (sm : Int)] 39)
  go_wp2_with fail
  obtain ⟨hB, HhB⟩ := named w6.heap.size
  obtain ⟨w7, Hw7⟩ := named (w6.alloc (.cells #[.int .u8 (kind.toNat : Int), .int .u64 (epoch : Int), .int .u64 (seq : Int), .int .i64 (p.size : Int), .int .u32 (sm : Int)] 39))
  rw [← HhB.out] at k3 ⊢
  rw [← Hw7.out] at k1 k2 k3 b1 ht ⊢
  clear Hw7 HhB
  replace hts := Texts.below hts b1
  replace ht : Texts w7 (some ⟨ab, ao, none⟩) L := ht
  refine region_flat _ (fun u => Blk u w.heap.size [.int .u8 (kind.toNat : Int), .int .u64 (epoch : Int), .int .u64 (seq : Int), .string p] 24 ∧ Blk u gB [.int .u8 (kind.toNat : Int), .int .u64 (epoch : Int), .int .u64 (seq : Int), .string p] 24 ∧ Blk u hB [.int .u8 (kind.toNat : Int), .int .u64 (epoch : Int), .int .u64 (seq : Int), .int .i64 (p.size : Int), .int .u32 (sm : Int)] 39 ∧ Texts u (some ⟨ab, ao, none⟩) L ∧ Texts u A0 s ∧ Below w.heap.size w u) (fun u u' => Below u.heap.size u u')
    (rel [fun v _ => v = .int .i64 0,
      fun v _ => v = .bool false,
      fun v _ => v = .bool false,
      fun v _ => v = .agg #[.int .u8 (kind.toNat : Int), .int .u64 (epoch : Int), .int .u64 (seq : Int), .string p],
      fun v _ => v = .agg #[.int .u8 (kind.toNat : Int), .int .u64 (epoch : Int), .int .u64 (seq : Int), .string p],
      fun v _ => v = .bool false,
      fun v _ => v = .bool false,
      fun v _ => v = .bool false,
      fun v _ => v = .int .i64 0,
      fun v _ => v = .bool false,
      fun v _ => v = .bool false,
      fun v _ => v = .bool false,
      fun v _ => v = .pointer (some ⟨hB, 0, none⟩),
      fun v _ => v = .int .u8 (kind.toNat : Int),
      fun v _ => v = .pointer (some ⟨w.heap.size, 0, none⟩),
      fun v _ => v = .int .u8 (kind.toNat : Int),
      fun v _ => v = .bool false,
      fun v _ => v = .bool false,
      fun v _ => v = .bool false,
      fun v _ => v = .pointer (some ⟨hB, 1, none⟩),
      fun v _ => v = .int .u64 (epoch : Int),
      fun v _ => v = .pointer (some ⟨w.heap.size, 1, none⟩),
      fun v _ => v = .int .u64 (epoch : Int),
      fun v _ => v = .bool false,
      fun v _ => v = .bool false,
      fun v _ => v = .bool false,
      fun v _ => v = .pointer (some ⟨hB, 2, none⟩),
      fun v _ => v = .int .u64 (seq : Int),
      fun v _ => v = .pointer (some ⟨w.heap.size, 2, none⟩),
      fun v _ => v = .int .u64 (seq : Int),
      fun v _ => v = .bool false,
      fun v _ => v = .bool false,
      fun v _ => v = .bool false,
      fun v _ => v = .pointer (some ⟨hB, 3, none⟩),
      fun v _ => v = .int .i64 (p.size : Int),
      fun v _ => v = .pointer (some ⟨w.heap.size, 3, none⟩),
      fun v _ => v = .string p,
      fun v _ => v = .int .i64 (p.size : Int),
      fun v _ => v = .bool false,
      fun v _ => v = .bool false,
      fun v _ => v = .bool false,
      fun v _ => v = .pointer (some ⟨hB, 4, none⟩),
      fun v _ => v = .int .u32 (sm : Int),
      fun v _ => v = .pointer (some ⟨w.heap.size, 3, none⟩),
      fun v _ => v = .string p,
      fun v _ => v = .int .u32 (sm : Int),
      fun v _ => v = .bool false,
      fun v _ => v = .bool false])
    (by kernel_rfl) (by kernel_rfl) (fun v => by simp only [putsV, Act.put, List.toList_toArray, List.setIfInBounds_toArray, List.set_cons_zero, List.set_cons_succ, Nat.reduceAdd, Nat.zero_add]; rfl) ?_ ⟨k1, k2, k3, ht, hts, b1.drew⟩ ?_ ?_
  · intro j x u u' hb h
    match j with
    | 0 => exact h
    | 1 => exact h
    | 2 => exact h
    | 3 => exact h
    | 4 => exact h
    | 5 => exact h
    | 6 => exact h
    | 7 => exact h
    | 8 => exact h
    | 9 => exact h
    | 10 => exact h
    | 11 => exact h
    | 12 => exact h
    | 13 => exact h
    | 14 => exact h
    | 15 => exact h
    | 16 => exact h
    | 17 => exact h
    | 18 => exact h
    | 19 => exact h
    | 20 => exact h
    | 21 => exact h
    | 22 => exact h
    | 23 => exact h
    | 24 => exact h
    | 25 => exact h
    | 26 => exact h
    | 27 => exact h
    | 28 => exact h
    | 29 => exact h
    | 30 => exact h
    | 31 => exact h
    | 32 => exact h
    | 33 => exact h
    | 34 => exact h
    | 35 => exact h
    | 36 => exact h
    | 37 => exact h
    | 38 => exact h
    | 39 => exact h
    | 40 => exact h
    | 41 => exact h
    | 42 => exact h
    | 43 => exact h
    | 44 => exact h
    | 45 => exact h
    | 46 => exact h
    | 47 => exact h
    | _ + 48 => trivial
  · refine ⟨?_, ?_, ?_, ?_, ?_, ?_, ?_, ?_, ?_, ?_, ?_, ?_, ?_, ?_, ?_, ?_, ?_, ?_, ?_, ?_, ?_, ?_, ?_, ?_, ?_, ?_, ?_, ?_, ?_, ?_, ?_, ?_, ?_, ?_, ?_, ?_, ?_, ?_, ?_, ?_, ?_, ?_, ?_, ?_, ?_, ?_, ?_, ?_, trivial⟩
    · intro v u hS hd K' hK
      simp only [waited, List.toList_toArray, Region.binds, rel, List.getD_cons_zero, List.getD_cons_succ, true_imp_iff, and_true] at hd
      simp only [rel, List.getD_cons_zero, List.getD_cons_succ, Act.put, List.setIfInBounds_toArray, List.set_cons_zero, List.set_cons_succ] at hK
      try simp only [hd] at hK
      obtain ⟨hS1, hS2, hS3, hS4, hS5, hS6⟩ := hS
      go_simp
      exact hK.out _ _ ⟨⟨hS1, hS2, hS3, hS4, hS5, hS6⟩, Below.refl _ _, rfl⟩
    · intro v u hS hd K' hK
      simp only [waited, List.toList_toArray, Region.binds, rel, List.getD_cons_zero, List.getD_cons_succ, true_imp_iff, and_true] at hd
      simp only [rel, List.getD_cons_zero, List.getD_cons_succ, Act.put, List.setIfInBounds_toArray, List.set_cons_zero, List.set_cons_succ] at hK
      try simp only [hd] at hK
      obtain ⟨hS1, hS2, hS3, hS4, hS5, hS6⟩ := hS
      go_simp
      exact hK.out _ _ ⟨⟨hS1, hS2, hS3, hS4, hS5, hS6⟩, Below.refl _ _, rfl⟩
    · intro v u hS hd K' hK
      simp only [waited, List.toList_toArray, Region.binds, rel, List.getD_cons_zero, List.getD_cons_succ, true_imp_iff, and_true] at hd
      simp only [rel, List.getD_cons_zero, List.getD_cons_succ, Act.put, List.setIfInBounds_toArray, List.set_cons_zero, List.set_cons_succ] at hK
      try simp only [hd] at hK
      obtain ⟨hS1, hS2, hS3, hS4, hS5, hS6⟩ := hS
      go_simp
      exact hK.out _ _ ⟨⟨hS1, hS2, hS3, hS4, hS5, hS6⟩, Below.refl _ _, rfl⟩
    · intro v u hS hd K' hK
      simp only [waited, List.toList_toArray, Region.binds, rel, List.getD_cons_zero, List.getD_cons_succ, true_imp_iff, and_true] at hd
      simp only [rel, List.getD_cons_zero, List.getD_cons_succ, Act.put, List.setIfInBounds_toArray, List.set_cons_zero, List.set_cons_succ] at hK
      try simp only [hd] at hK
      obtain ⟨hS1, hS2, hS3, hS4, hS5, hS6⟩ := hS
      have x0 := hS2.cell
      go_simp
      exact hK.out _ _ ⟨⟨hS1, hS2, hS3, hS4, hS5, hS6⟩, Below.refl _ _, rfl⟩
    · intro v u hS hd K' hK
      simp only [waited, List.toList_toArray, Region.binds, rel, List.getD_cons_zero, List.getD_cons_succ, true_imp_iff, and_true] at hd
      simp only [rel, List.getD_cons_zero, List.getD_cons_succ, Act.put, List.setIfInBounds_toArray, List.set_cons_zero, List.set_cons_succ] at hK
      try simp only [hd] at hK
      obtain ⟨hS1, hS2, hS3, hS4, hS5, hS6⟩ := hS
      have x0 := hS1.cell
      go_simp
      exact hK.out _ _ ⟨⟨hS1, hS2, hS3, hS4, hS5, hS6⟩, Below.refl _ _, rfl⟩
    · intro v u hS hd K' hK
      simp only [waited, List.toList_toArray, Region.binds, rel, List.getD_cons_zero, List.getD_cons_succ, true_imp_iff, and_true] at hd
      simp only [rel, List.getD_cons_zero, List.getD_cons_succ, Act.put, List.setIfInBounds_toArray, List.set_cons_zero, List.set_cons_succ] at hK
      try simp only [hd] at hK
      obtain ⟨hS1, hS2, hS3, hS4, hS5, hS6⟩ := hS
      go_simp
      exact hK.out _ _ ⟨⟨hS1, hS2, hS3, hS4, hS5, hS6⟩, Below.refl _ _, rfl⟩
    · intro v u hS hd K' hK
      simp only [waited, List.toList_toArray, Region.binds, rel, List.getD_cons_zero, List.getD_cons_succ, true_imp_iff, and_true] at hd
      simp only [rel, List.getD_cons_zero, List.getD_cons_succ, Act.put, List.setIfInBounds_toArray, List.set_cons_zero, List.set_cons_succ] at hK
      try simp only [hd] at hK
      obtain ⟨hS1, hS2, hS3, hS4, hS5, hS6⟩ := hS
      go_simp
      exact hK.out _ _ ⟨⟨hS1, hS2, hS3, hS4, hS5, hS6⟩, Below.refl _ _, rfl⟩
    · intro v u hS hd K' hK
      simp only [waited, List.toList_toArray, Region.binds, rel, List.getD_cons_zero, List.getD_cons_succ, true_imp_iff, and_true] at hd
      simp only [rel, List.getD_cons_zero, List.getD_cons_succ, Act.put, List.setIfInBounds_toArray, List.set_cons_zero, List.set_cons_succ] at hK
      try simp only [hd] at hK
      obtain ⟨hS1, hS2, hS3, hS4, hS5, hS6⟩ := hS
      go_simp
      exact hK.out _ _ ⟨⟨hS1, hS2, hS3, hS4, hS5, hS6⟩, Below.refl _ _, rfl⟩
    · intro v u hS hd K' hK
      simp only [waited, List.toList_toArray, Region.binds, rel, List.getD_cons_zero, List.getD_cons_succ, true_imp_iff, and_true] at hd
      simp only [rel, List.getD_cons_zero, List.getD_cons_succ, Act.put, List.setIfInBounds_toArray, List.set_cons_zero, List.set_cons_succ] at hK
      try simp only [hd] at hK
      obtain ⟨hS1, hS2, hS3, hS4, hS5, hS6⟩ := hS
      go_simp
      exact hK.out _ _ ⟨⟨hS1, hS2, hS3, hS4, hS5, hS6⟩, Below.refl _ _, rfl⟩
    · intro v u hS hd K' hK
      simp only [waited, List.toList_toArray, Region.binds, rel, List.getD_cons_zero, List.getD_cons_succ, true_imp_iff, and_true] at hd
      simp only [rel, List.getD_cons_zero, List.getD_cons_succ, Act.put, List.setIfInBounds_toArray, List.set_cons_zero, List.set_cons_succ] at hK
      try simp only [hd] at hK
      obtain ⟨hS1, hS2, hS3, hS4, hS5, hS6⟩ := hS
      go_simp
      exact hK.out _ _ ⟨⟨hS1, hS2, hS3, hS4, hS5, hS6⟩, Below.refl _ _, rfl⟩
    · intro v u hS hd K' hK
      simp only [waited, List.toList_toArray, Region.binds, rel, List.getD_cons_zero, List.getD_cons_succ, true_imp_iff, and_true] at hd
      simp only [rel, List.getD_cons_zero, List.getD_cons_succ, Act.put, List.setIfInBounds_toArray, List.set_cons_zero, List.set_cons_succ] at hK
      try simp only [hd] at hK
      obtain ⟨hS1, hS2, hS3, hS4, hS5, hS6⟩ := hS
      go_simp
      exact hK.out _ _ ⟨⟨hS1, hS2, hS3, hS4, hS5, hS6⟩, Below.refl _ _, rfl⟩
    · intro v u hS hd K' hK
      simp only [waited, List.toList_toArray, Region.binds, rel, List.getD_cons_zero, List.getD_cons_succ, true_imp_iff, and_true] at hd
      simp only [rel, List.getD_cons_zero, List.getD_cons_succ, Act.put, List.setIfInBounds_toArray, List.set_cons_zero, List.set_cons_succ] at hK
      try simp only [hd] at hK
      obtain ⟨hS1, hS2, hS3, hS4, hS5, hS6⟩ := hS
      go_simp
      exact hK.out _ _ ⟨⟨hS1, hS2, hS3, hS4, hS5, hS6⟩, Below.refl _ _, rfl⟩
    · intro v u hS hd K' hK
      simp only [waited, List.toList_toArray, Region.binds, rel, List.getD_cons_zero, List.getD_cons_succ, true_imp_iff, and_true] at hd
      simp only [rel, List.getD_cons_zero, List.getD_cons_succ, Act.put, List.setIfInBounds_toArray, List.set_cons_zero, List.set_cons_succ] at hK
      try simp only [hd] at hK
      obtain ⟨hS1, hS2, hS3, hS4, hS5, hS6⟩ := hS
      go_simp
      exact hK.out _ _ ⟨⟨hS1, hS2, hS3, hS4, hS5, hS6⟩, Below.refl _ _, rfl⟩
    · intro v u hS hd K' hK
      simp only [waited, List.toList_toArray, Region.binds, rel, List.getD_cons_zero, List.getD_cons_succ, true_imp_iff, and_true] at hd
      simp only [rel, List.getD_cons_zero, List.getD_cons_succ, Act.put, List.setIfInBounds_toArray, List.set_cons_zero, List.set_cons_succ] at hK
      try simp only [hd] at hK
      obtain ⟨hS1, hS2, hS3, hS4, hS5, hS6⟩ := hS
      have x0 := hS3.cell
      go_simp
      exact hK.out _ _ ⟨⟨hS1, hS2, hS3, hS4, hS5, hS6⟩, Below.refl _ _, rfl⟩
    · intro v u hS hd K' hK
      simp only [waited, List.toList_toArray, Region.binds, rel, List.getD_cons_zero, List.getD_cons_succ, true_imp_iff, and_true] at hd
      simp only [rel, List.getD_cons_zero, List.getD_cons_succ, Act.put, List.setIfInBounds_toArray, List.set_cons_zero, List.set_cons_succ] at hK
      try simp only [hd] at hK
      obtain ⟨hS1, hS2, hS3, hS4, hS5, hS6⟩ := hS
      go_simp
      exact hK.out _ _ ⟨⟨hS1, hS2, hS3, hS4, hS5, hS6⟩, Below.refl _ _, rfl⟩
    · intro v u hS hd K' hK
      simp only [waited, List.toList_toArray, Region.binds, rel, List.getD_cons_zero, List.getD_cons_succ, true_imp_iff, and_true] at hd
      simp only [rel, List.getD_cons_zero, List.getD_cons_succ, Act.put, List.setIfInBounds_toArray, List.set_cons_zero, List.set_cons_succ] at hK
      try simp only [hd] at hK
      obtain ⟨hS1, hS2, hS3, hS4, hS5, hS6⟩ := hS
      have x0 := hS1.cell
      go_simp
      exact hK.out _ _ ⟨⟨hS1, hS2, hS3, hS4, hS5, hS6⟩, Below.refl _ _, rfl⟩
    · intro v u hS hd K' hK
      simp only [waited, List.toList_toArray, Region.binds, rel, List.getD_cons_zero, List.getD_cons_succ, true_imp_iff, and_true] at hd
      simp only [rel, List.getD_cons_zero, List.getD_cons_succ, Act.put, List.setIfInBounds_toArray, List.set_cons_zero, List.set_cons_succ] at hK
      try simp only [hd] at hK
      obtain ⟨hS1, hS2, hS3, hS4, hS5, hS6⟩ := hS
      go_simp
      exact hK.out _ _ ⟨⟨hS1, hS2, hS3, hS4, hS5, hS6⟩, Below.refl _ _, rfl⟩
    · intro v u hS hd K' hK
      simp only [waited, List.toList_toArray, Region.binds, rel, List.getD_cons_zero, List.getD_cons_succ, true_imp_iff, and_true] at hd
      simp only [rel, List.getD_cons_zero, List.getD_cons_succ, Act.put, List.setIfInBounds_toArray, List.set_cons_zero, List.set_cons_succ] at hK
      try simp only [hd] at hK
      obtain ⟨hS1, hS2, hS3, hS4, hS5, hS6⟩ := hS
      go_simp
      exact hK.out _ _ ⟨⟨hS1, hS2, hS3, hS4, hS5, hS6⟩, Below.refl _ _, rfl⟩
    · intro v u hS hd K' hK
      simp only [waited, List.toList_toArray, Region.binds, rel, List.getD_cons_zero, List.getD_cons_succ, true_imp_iff, and_true] at hd
      simp only [rel, List.getD_cons_zero, List.getD_cons_succ, Act.put, List.setIfInBounds_toArray, List.set_cons_zero, List.set_cons_succ] at hK
      try simp only [hd] at hK
      obtain ⟨hS1, hS2, hS3, hS4, hS5, hS6⟩ := hS
      go_simp
      exact hK.out _ _ ⟨⟨hS1, hS2, hS3, hS4, hS5, hS6⟩, Below.refl _ _, rfl⟩
    · intro v u hS hd K' hK
      simp only [waited, List.toList_toArray, Region.binds, rel, List.getD_cons_zero, List.getD_cons_succ, true_imp_iff, and_true] at hd
      simp only [rel, List.getD_cons_zero, List.getD_cons_succ, Act.put, List.setIfInBounds_toArray, List.set_cons_zero, List.set_cons_succ] at hK
      try simp only [hd] at hK
      obtain ⟨hS1, hS2, hS3, hS4, hS5, hS6⟩ := hS
      go_simp
      exact hK.out _ _ ⟨⟨hS1, hS2, hS3, hS4, hS5, hS6⟩, Below.refl _ _, rfl⟩
    · intro v u hS hd K' hK
      simp only [waited, List.toList_toArray, Region.binds, rel, List.getD_cons_zero, List.getD_cons_succ, true_imp_iff, and_true] at hd
      simp only [rel, List.getD_cons_zero, List.getD_cons_succ, Act.put, List.setIfInBounds_toArray, List.set_cons_zero, List.set_cons_succ] at hK
      try simp only [hd] at hK
      obtain ⟨hS1, hS2, hS3, hS4, hS5, hS6⟩ := hS
      have x0 := hS3.cell
      go_simp
      exact hK.out _ _ ⟨⟨hS1, hS2, hS3, hS4, hS5, hS6⟩, Below.refl _ _, rfl⟩
    · intro v u hS hd K' hK
      simp only [waited, List.toList_toArray, Region.binds, rel, List.getD_cons_zero, List.getD_cons_succ, true_imp_iff, and_true] at hd
      simp only [rel, List.getD_cons_zero, List.getD_cons_succ, Act.put, List.setIfInBounds_toArray, List.set_cons_zero, List.set_cons_succ] at hK
      try simp only [hd] at hK
      obtain ⟨hS1, hS2, hS3, hS4, hS5, hS6⟩ := hS
      go_simp
      exact hK.out _ _ ⟨⟨hS1, hS2, hS3, hS4, hS5, hS6⟩, Below.refl _ _, rfl⟩
    · intro v u hS hd K' hK
      simp only [waited, List.toList_toArray, Region.binds, rel, List.getD_cons_zero, List.getD_cons_succ, true_imp_iff, and_true] at hd
      simp only [rel, List.getD_cons_zero, List.getD_cons_succ, Act.put, List.setIfInBounds_toArray, List.set_cons_zero, List.set_cons_succ] at hK
      try simp only [hd] at hK
      obtain ⟨hS1, hS2, hS3, hS4, hS5, hS6⟩ := hS
      have x0 := hS1.cell
      go_simp
      exact hK.out _ _ ⟨⟨hS1, hS2, hS3, hS4, hS5, hS6⟩, Below.refl _ _, rfl⟩
    · intro v u hS hd K' hK
      simp only [waited, List.toList_toArray, Region.binds, rel, List.getD_cons_zero, List.getD_cons_succ, true_imp_iff, and_true] at hd
      simp only [rel, List.getD_cons_zero, List.getD_cons_succ, Act.put, List.setIfInBounds_toArray, List.set_cons_zero, List.set_cons_succ] at hK
      try simp only [hd] at hK
      obtain ⟨hS1, hS2, hS3, hS4, hS5, hS6⟩ := hS
      go_simp
      exact hK.out _ _ ⟨⟨hS1, hS2, hS3, hS4, hS5, hS6⟩, Below.refl _ _, rfl⟩
    · intro v u hS hd K' hK
      simp only [waited, List.toList_toArray, Region.binds, rel, List.getD_cons_zero, List.getD_cons_succ, true_imp_iff, and_true] at hd
      simp only [rel, List.getD_cons_zero, List.getD_cons_succ, Act.put, List.setIfInBounds_toArray, List.set_cons_zero, List.set_cons_succ] at hK
      try simp only [hd] at hK
      obtain ⟨hS1, hS2, hS3, hS4, hS5, hS6⟩ := hS
      go_simp
      exact hK.out _ _ ⟨⟨hS1, hS2, hS3, hS4, hS5, hS6⟩, Below.refl _ _, rfl⟩
    · intro v u hS hd K' hK
      simp only [waited, List.toList_toArray, Region.binds, rel, List.getD_cons_zero, List.getD_cons_succ, true_imp_iff, and_true] at hd
      simp only [rel, List.getD_cons_zero, List.getD_cons_succ, Act.put, List.setIfInBounds_toArray, List.set_cons_zero, List.set_cons_succ] at hK
      try simp only [hd] at hK
      obtain ⟨hS1, hS2, hS3, hS4, hS5, hS6⟩ := hS
      go_simp
      exact hK.out _ _ ⟨⟨hS1, hS2, hS3, hS4, hS5, hS6⟩, Below.refl _ _, rfl⟩
    · intro v u hS hd K' hK
      simp only [waited, List.toList_toArray, Region.binds, rel, List.getD_cons_zero, List.getD_cons_succ, true_imp_iff, and_true] at hd
      simp only [rel, List.getD_cons_zero, List.getD_cons_succ, Act.put, List.setIfInBounds_toArray, List.set_cons_zero, List.set_cons_succ] at hK
      try simp only [hd] at hK
      obtain ⟨hS1, hS2, hS3, hS4, hS5, hS6⟩ := hS
      go_simp
      exact hK.out _ _ ⟨⟨hS1, hS2, hS3, hS4, hS5, hS6⟩, Below.refl _ _, rfl⟩
    · intro v u hS hd K' hK
      simp only [waited, List.toList_toArray, Region.binds, rel, List.getD_cons_zero, List.getD_cons_succ, true_imp_iff, and_true] at hd
      simp only [rel, List.getD_cons_zero, List.getD_cons_succ, Act.put, List.setIfInBounds_toArray, List.set_cons_zero, List.set_cons_succ] at hK
      try simp only [hd] at hK
      obtain ⟨hS1, hS2, hS3, hS4, hS5, hS6⟩ := hS
      have x0 := hS3.cell
      go_simp
      exact hK.out _ _ ⟨⟨hS1, hS2, hS3, hS4, hS5, hS6⟩, Below.refl _ _, rfl⟩
    · intro v u hS hd K' hK
      simp only [waited, List.toList_toArray, Region.binds, rel, List.getD_cons_zero, List.getD_cons_succ, true_imp_iff, and_true] at hd
      simp only [rel, List.getD_cons_zero, List.getD_cons_succ, Act.put, List.setIfInBounds_toArray, List.set_cons_zero, List.set_cons_succ] at hK
      try simp only [hd] at hK
      obtain ⟨hS1, hS2, hS3, hS4, hS5, hS6⟩ := hS
      go_simp
      exact hK.out _ _ ⟨⟨hS1, hS2, hS3, hS4, hS5, hS6⟩, Below.refl _ _, rfl⟩
    · intro v u hS hd K' hK
      simp only [waited, List.toList_toArray, Region.binds, rel, List.getD_cons_zero, List.getD_cons_succ, true_imp_iff, and_true] at hd
      simp only [rel, List.getD_cons_zero, List.getD_cons_succ, Act.put, List.setIfInBounds_toArray, List.set_cons_zero, List.set_cons_succ] at hK
      try simp only [hd] at hK
      obtain ⟨hS1, hS2, hS3, hS4, hS5, hS6⟩ := hS
      have x0 := hS1.cell
      go_simp
      exact hK.out _ _ ⟨⟨hS1, hS2, hS3, hS4, hS5, hS6⟩, Below.refl _ _, rfl⟩
    · intro v u hS hd K' hK
      simp only [waited, List.toList_toArray, Region.binds, rel, List.getD_cons_zero, List.getD_cons_succ, true_imp_iff, and_true] at hd
      simp only [rel, List.getD_cons_zero, List.getD_cons_succ, Act.put, List.setIfInBounds_toArray, List.set_cons_zero, List.set_cons_succ] at hK
      try simp only [hd] at hK
      obtain ⟨hS1, hS2, hS3, hS4, hS5, hS6⟩ := hS
      go_simp
      exact hK.out _ _ ⟨⟨hS1, hS2, hS3, hS4, hS5, hS6⟩, Below.refl _ _, rfl⟩
    · intro v u hS hd K' hK
      simp only [waited, List.toList_toArray, Region.binds, rel, List.getD_cons_zero, List.getD_cons_succ, true_imp_iff, and_true] at hd
      simp only [rel, List.getD_cons_zero, List.getD_cons_succ, Act.put, List.setIfInBounds_toArray, List.set_cons_zero, List.set_cons_succ] at hK
      try simp only [hd] at hK
      obtain ⟨hS1, hS2, hS3, hS4, hS5, hS6⟩ := hS
      go_simp
      exact hK.out _ _ ⟨⟨hS1, hS2, hS3, hS4, hS5, hS6⟩, Below.refl _ _, rfl⟩
    · intro v u hS hd K' hK
      simp only [waited, List.toList_toArray, Region.binds, rel, List.getD_cons_zero, List.getD_cons_succ, true_imp_iff, and_true] at hd
      simp only [rel, List.getD_cons_zero, List.getD_cons_succ, Act.put, List.setIfInBounds_toArray, List.set_cons_zero, List.set_cons_succ] at hK
      try simp only [hd] at hK
      obtain ⟨hS1, hS2, hS3, hS4, hS5, hS6⟩ := hS
      go_simp
      exact hK.out _ _ ⟨⟨hS1, hS2, hS3, hS4, hS5, hS6⟩, Below.refl _ _, rfl⟩
    · intro v u hS hd K' hK
      simp only [waited, List.toList_toArray, Region.binds, rel, List.getD_cons_zero, List.getD_cons_succ, true_imp_iff, and_true] at hd
      simp only [rel, List.getD_cons_zero, List.getD_cons_succ, Act.put, List.setIfInBounds_toArray, List.set_cons_zero, List.set_cons_succ] at hK
      try simp only [hd] at hK
      obtain ⟨hS1, hS2, hS3, hS4, hS5, hS6⟩ := hS
      go_simp
      exact hK.out _ _ ⟨⟨hS1, hS2, hS3, hS4, hS5, hS6⟩, Below.refl _ _, rfl⟩
    · intro v u hS hd K' hK
      simp only [waited, List.toList_toArray, Region.binds, rel, List.getD_cons_zero, List.getD_cons_succ, true_imp_iff, and_true] at hd
      simp only [rel, List.getD_cons_zero, List.getD_cons_succ, Act.put, List.setIfInBounds_toArray, List.set_cons_zero, List.set_cons_succ] at hK
      try simp only [hd] at hK
      obtain ⟨hS1, hS2, hS3, hS4, hS5, hS6⟩ := hS
      have x0 := hS3.cell
      go_simp
      exact hK.out _ _ ⟨⟨hS1, hS2, hS3, hS4, hS5, hS6⟩, Below.refl _ _, rfl⟩
    · intro v u hS hd K' hK
      simp only [waited, List.toList_toArray, Region.binds, rel, List.getD_cons_zero, List.getD_cons_succ, true_imp_iff, and_true] at hd
      simp only [rel, List.getD_cons_zero, List.getD_cons_succ, Act.put, List.setIfInBounds_toArray, List.set_cons_zero, List.set_cons_succ] at hK
      try simp only [hd] at hK
      obtain ⟨hS1, hS2, hS3, hS4, hS5, hS6⟩ := hS
      go_simp
      exact hK.out _ _ ⟨⟨hS1, hS2, hS3, hS4, hS5, hS6⟩, Below.refl _ _, rfl⟩
    · intro v u hS hd K' hK
      simp only [waited, List.toList_toArray, Region.binds, rel, List.getD_cons_zero, List.getD_cons_succ, true_imp_iff, and_true] at hd
      simp only [rel, List.getD_cons_zero, List.getD_cons_succ, Act.put, List.setIfInBounds_toArray, List.set_cons_zero, List.set_cons_succ] at hK
      try simp only [hd] at hK
      obtain ⟨hS1, hS2, hS3, hS4, hS5, hS6⟩ := hS
      have x0 := hS1.cell
      go_simp
      exact hK.out _ _ ⟨⟨hS1, hS2, hS3, hS4, hS5, hS6⟩, Below.refl _ _, rfl⟩
    · intro v u hS hd K' hK
      simp only [waited, List.toList_toArray, Region.binds, rel, List.getD_cons_zero, List.getD_cons_succ, true_imp_iff, and_true] at hd
      simp only [rel, List.getD_cons_zero, List.getD_cons_succ, Act.put, List.setIfInBounds_toArray, List.set_cons_zero, List.set_cons_succ] at hK
      try simp only [hd] at hK
      obtain ⟨hS1, hS2, hS3, hS4, hS5, hS6⟩ := hS
      go_simp
      exact hK.out _ _ ⟨⟨hS1, hS2, hS3, hS4, hS5, hS6⟩, Below.refl _ _, rfl⟩
    · intro v u hS hd K' hK
      simp only [waited, List.toList_toArray, Region.binds, rel, List.getD_cons_zero, List.getD_cons_succ, true_imp_iff, and_true] at hd
      simp only [rel, List.getD_cons_zero, List.getD_cons_succ, Act.put, List.setIfInBounds_toArray, List.set_cons_zero, List.set_cons_succ] at hK
      try simp only [hd] at hK
      obtain ⟨hS1, hS2, hS3, hS4, hS5, hS6⟩ := hS
      go_simp
      exact hK.out _ _ ⟨⟨hS1, hS2, hS3, hS4, hS5, hS6⟩, Below.refl _ _, rfl⟩
    · intro v u hS hd K' hK
      simp only [waited, List.toList_toArray, Region.binds, rel, List.getD_cons_zero, List.getD_cons_succ, true_imp_iff, and_true] at hd
      simp only [rel, List.getD_cons_zero, List.getD_cons_succ, Act.put, List.setIfInBounds_toArray, List.set_cons_zero, List.set_cons_succ] at hK
      try simp only [hd] at hK
      obtain ⟨hS1, hS2, hS3, hS4, hS5, hS6⟩ := hS
      go_simp
      exact hK.out _ _ ⟨⟨hS1, hS2, hS3, hS4, hS5, hS6⟩, Below.refl _ _, rfl⟩
    · intro v u hS hd K' hK
      simp only [waited, List.toList_toArray, Region.binds, rel, List.getD_cons_zero, List.getD_cons_succ, true_imp_iff, and_true] at hd
      simp only [rel, List.getD_cons_zero, List.getD_cons_succ, Act.put, List.setIfInBounds_toArray, List.set_cons_zero, List.set_cons_succ] at hK
      try simp only [hd] at hK
      obtain ⟨hS1, hS2, hS3, hS4, hS5, hS6⟩ := hS
      go_simp
      exact hK.out _ _ ⟨⟨hS1, hS2, hS3, hS4, hS5, hS6⟩, Below.refl _ _, rfl⟩
    · intro v u hS hd K' hK
      simp only [waited, List.toList_toArray, Region.binds, rel, List.getD_cons_zero, List.getD_cons_succ, true_imp_iff, and_true] at hd
      simp only [rel, List.getD_cons_zero, List.getD_cons_succ, Act.put, List.setIfInBounds_toArray, List.set_cons_zero, List.set_cons_succ] at hK
      try simp only [hd] at hK
      obtain ⟨hS1, hS2, hS3, hS4, hS5, hS6⟩ := hS
      go_simp
      exact hK.out _ _ ⟨⟨hS1, hS2, hS3, hS4, hS5, hS6⟩, Below.refl _ _, rfl⟩
    · intro v u hS hd K' hK
      simp only [waited, List.toList_toArray, Region.binds, rel, List.getD_cons_zero, List.getD_cons_succ, true_imp_iff, and_true] at hd
      simp only [rel, List.getD_cons_zero, List.getD_cons_succ, Act.put, List.setIfInBounds_toArray, List.set_cons_zero, List.set_cons_succ] at hK
      try simp only [hd] at hK
      obtain ⟨hS1, hS2, hS3, hS4, hS5, hS6⟩ := hS
      have x0 := hS3.cell
      go_simp
      exact hK.out _ _ ⟨⟨hS1, hS2, hS3, hS4, hS5, hS6⟩, Below.refl _ _, rfl⟩
    · intro v u hS hd K' hK
      simp only [waited, List.toList_toArray, Region.binds, rel, List.getD_cons_zero, List.getD_cons_succ, true_imp_iff, and_true] at hd
      simp only [rel, List.getD_cons_zero, List.getD_cons_succ, Act.put, List.setIfInBounds_toArray, List.set_cons_zero, List.set_cons_succ] at hK
      try simp only [hd] at hK
      obtain ⟨hS1, hS2, hS3, hS4, hS5, hS6⟩ := hS
      go_simp
      exact hK.out _ _ ⟨⟨hS1, hS2, hS3, hS4, hS5, hS6⟩, Below.refl _ _, rfl⟩
    · intro v u hS hd K' hK
      simp only [waited, List.toList_toArray, Region.binds, rel, List.getD_cons_zero, List.getD_cons_succ, true_imp_iff, and_true] at hd
      simp only [rel, List.getD_cons_zero, List.getD_cons_succ, Act.put, List.setIfInBounds_toArray, List.set_cons_zero, List.set_cons_succ] at hK
      try simp only [hd] at hK
      obtain ⟨hS1, hS2, hS3, hS4, hS5, hS6⟩ := hS
      have x0 := hS1.cell
      go_simp
      exact hK.out _ _ ⟨⟨hS1, hS2, hS3, hS4, hS5, hS6⟩, Below.refl _ _, rfl⟩
    · intro v u hS hd K' hK
      simp only [waited, List.toList_toArray, Region.binds, rel, List.getD_cons_zero, List.getD_cons_succ, true_imp_iff, and_true] at hd
      simp only [rel, List.getD_cons_zero, List.getD_cons_succ, Act.put, List.setIfInBounds_toArray, List.set_cons_zero, List.set_cons_succ] at hK
      try simp only [hd] at hK
      obtain ⟨hS1, hS2, hS3, hS4, hS5, hS6⟩ := hS
      go_simp
      refine (hsum _).mono ?_
      rintro e w2 ⟨rfl, rfl⟩
      exact hK.out _ _ ⟨⟨hS1, hS2, hS3, hS4, hS5, hS6⟩, Below.refl _ _, rfl⟩
    · intro v u hS hd K' hK
      simp only [waited, List.toList_toArray, Region.binds, rel, List.getD_cons_zero, List.getD_cons_succ, true_imp_iff, and_true] at hd
      simp only [rel, List.getD_cons_zero, List.getD_cons_succ, Act.put, List.setIfInBounds_toArray, List.set_cons_zero, List.set_cons_succ] at hK
      try simp only [hd] at hK
      obtain ⟨hS1, hS2, hS3, hS4, hS5, hS6⟩ := hS
      go_simp
      exact hK.out _ _ ⟨⟨hS1, hS2, hS3, hS4, hS5, hS6⟩, Below.refl _ _, rfl⟩
    · intro v u hS hd K' hK
      simp only [waited, List.toList_toArray, Region.binds, rel, List.getD_cons_zero, List.getD_cons_succ, true_imp_iff, and_true] at hd
      simp only [rel, List.getD_cons_zero, List.getD_cons_succ, Act.put, List.setIfInBounds_toArray, List.set_cons_zero, List.set_cons_succ] at hK
      try simp only [hd] at hK
      obtain ⟨hS1, hS2, hS3, hS4, hS5, hS6⟩ := hS
      go_simp
      exact hK.out _ _ ⟨⟨hS1, hS2, hS3, hS4, hS5, hS6⟩, Below.refl _ _, rfl⟩
  · rintro v u ⟨hS1, hS2, hS3, hS4, hS5, hS6⟩ hR
    simp only [holdAll, List.size_toArray, List.length_cons, List.length_nil, Nat.reduceAdd, rel, List.getD_cons_zero, List.getD_cons_succ] at hR
    obtain ⟨_, h47⟩ := hR
    simp only [h47]
    clear h47
    clear k1 k2 k3 ht hts b1 hsum
    have ht := hS4
    have hts := hS5
    have b1 := hS6
    clear hS1 hS2 hS3 hS4 hS5 hS6
    have hcutJ := join_no (some ⟨ab, ao, none⟩) c np (L.take np) u hcut (by rw [List.length_take]; omega) (by rw [List.length_take]; omega) (by omega) (texts_take ht (by omega))
    unfold zeroFrame at hcutJ
    go_wp2_with fail
    refine hcutJ.mono ?_
    rintro e w8 ⟨rfl, hb8⟩
    clear hcutJ hcut
    replace b1 := (bt b1 hb8).alloc (bt b1 hb8).size (.cells #[.int .u8 0, .int .u64 0, .int .u64 0, .string ⟨#[]⟩] 24)
    replace ht : Texts (w8.alloc (.cells #[.int .u8 0, .int .u64 0, .int .u64 0, .string ⟨#[]⟩] 24)) (some ⟨ab, ao, none⟩) L := Lies.alloc (Texts.below ht hb8) _
    replace hts : Texts (w8.alloc (.cells #[.int .u8 0, .int .u64 0, .int .u64 0, .string ⟨#[]⟩] 24)) A0 s := Lies.alloc (Texts.below hts hb8) _
    go_wp2_with fail
    obtain ⟨w9, Hw9⟩ := named (w8.alloc (.cells #[.int .u8 0, .int .u64 0, .int .u64 0, .string ⟨#[]⟩] 24))
    rw [← Hw9.out] at b1 ht hts ⊢
    clear Hw9
    obtain ⟨j0, hj, hy0, hy1, hy2⟩ := info_parts Try.info9
    obtain ⟨lb, lo, le, hlast⟩ := Texts.at_ ht (k := np) (by omega)
    cases le
    replace hmore := hmore np (by omega)
    obtain ⟨last, Hlast⟩ := named (L[np]'(by omega))
    rw [← Hlast.out] at hlast hmore
    have hlast0 := World.block_lt_of_cell? w9 _ hlast
    have hp1 : (0 : Int) ≤ (np : Int) := by omega
    have hp2 : (np : Int) < (np : Int) + 1 := by omega
    have ht10 : Lies w9 (some ⟨ab, ao, none⟩) L.length 1 (strs L) := ht
    obtain ⟨L0, HL0⟩ := named L
    rw [← HL0.out] at ht10 hmore hll ht
    clear HL0 Hlast
    have hwr := wrap_i64_nat' np (by omega)
    refine region_flatL _ (fun u => Below w9.heap.size w9 u ∧ w9.heap.size ≤ u.heap.size) (fun i => if i = 2 then Only (fun c E => E = 9 ∧ c.size = 0) else if i = 10 then Only (fun c E => E = 9 ∧ c.size ≠ 0) else if i = 16 then Only (fun _ E => E = 24) else fun u u' => Below u.heap.size u u')
      (relL [fun L v u => L 2 = true ∨ (∃ g, v = .slice (some ⟨g, 0, none⟩) 0 0 ∧ u.ownsRow w9.heap.size 9 1 v 0 []),
        fun _ v _ => v = .slice (some ⟨ab, ao, none⟩) (np + 1) c,
        fun L v u => L 10 = true ∨ (u.ownsRow w9.heap.size 9 1 v (np + 1) (strs L0)),
        fun _ v _ => v = .slice (some ⟨ab, ao, none⟩) (np + 1) c,
        fun _ v _ => v = .slice (some ⟨ab, ao, none⟩) (np + 1) c,
        fun _ v _ => v = .int .i64 ((np : Int) + 1),
        fun _ v _ => v = .int .i64 (np : Int),
        fun _ v _ => v = .pointer (some ⟨ab, ao + np, none⟩),
        fun _ v _ => v = .string last,
        fun L v u => L 10 = true ∨ (∃ g, v = .slice (some ⟨g, 0, none⟩) 1 1 ∧ Blk u g [.string last] 9),
        fun L v u => L 11 = true ∨ (u.ownsRow w9.heap.size 9 1 v (np + 2) (strs (L0 ++ [last]))),
        fun _ v _ => v = .tuple #[.agg #[.int .u8 0, .int .u64 0, .int .u64 0, .string ⟨#[]⟩], .int .i64 14],
        fun _ v _ => v = .tuple #[.agg #[.int .u8 0, .int .u64 0, .int .u64 0, .string ⟨#[]⟩], .int .i64 14],
        fun _ v _ => v = .agg #[.int .u8 0, .int .u64 0, .int .u64 0, .string ⟨#[]⟩],
        fun _ v _ => v = .int .i64 14,
        fun L v u => L 16 = true ∨ (∃ g, v = .pointer (some ⟨g, 0, none⟩) ∧ w9.heap.size ≤ g ∧ Blk u g [.int .u8 0, .int .u64 0, .int .u64 0, .string ⟨#[]⟩] 24),
        fun _ _ _ => True,
        fun _ v _ => v = .int .i64 14])
      (by kernel_rfl) (by kernel_rfl) (fun v => by simp only [putsV, Act.put, List.toList_toArray, List.setIfInBounds_toArray, List.set_cons_zero, List.set_cons_succ, Nat.reduceAdd, Nat.zero_add]; rfl) ?_ ?_ ⟨(Below.refl _ _).drew, Nat.le_refl _⟩ ?_ ?_ ?_
    · intro i L j x u u' hLi hij hG h
      by_cases i2 : i = 2
      · subst i2
        rw [if_pos rfl] at hG
        match j with
        | 0 => exact .inl (by simp)
        | 1 => exact h
        | 2 => exact absurd rfl hij
        | 3 => exact h
        | 4 => exact h
        | 5 => exact h
        | 6 => exact h
        | 7 => exact h
        | 8 => exact h
        | 9 => exact h.imp (fun e => by simp [e]) (fun hx => by obtain ⟨g, e, hg⟩ := hx; exact ⟨g, e, blk_only hg hG (fun h => by have := h.2; simp at this)⟩)
        | 10 => exact h.imp (fun e => by simp [e]) (fun hg => own_only hg hG (fun cur hc _ h => by have := h.2; omega))
        | 11 => exact h
        | 12 => exact h
        | 13 => exact h
        | 14 => exact h
        | 15 => exact h.imp (fun e => by simp [e]) (fun hx => by obtain ⟨g, e, hn, hg⟩ := hx; exact ⟨g, e, hn, blk_only hg hG (fun h => absurd h.1 (by decide))⟩)
        | 16 => exact h
        | 17 => exact h
        | _ + 18 => trivial
      by_cases i10 : i = 10
      · subst i10
        rw [if_neg (by decide), if_pos rfl] at hG
        match j with
        | 0 => exact h.imp (fun e => by simp [e]) (fun hx => by obtain ⟨g, e, hg⟩ := hx; exact ⟨g, e, by subst e; exact own0_only hg hG (fun cur hc h => h.2 hc)⟩)
        | 1 => exact h
        | 2 => exact .inl (by simp)
        | 3 => exact h
        | 4 => exact h
        | 5 => exact h
        | 6 => exact h
        | 7 => exact h
        | 8 => exact h
        | 9 => exact .inl (by simp)
        | 10 => exact absurd rfl hij
        | 11 => exact h
        | 12 => exact h
        | 13 => exact h
        | 14 => exact h
        | 15 => exact h.imp (fun e => by simp [e]) (fun hx => by obtain ⟨g, e, hn, hg⟩ := hx; exact ⟨g, e, hn, blk_only hg hG (fun h => absurd h.1 (by decide))⟩)
        | 16 => exact h
        | 17 => exact h
        | _ + 18 => trivial
      by_cases i16 : i = 16
      · subst i16
        rw [if_neg (by decide), if_neg (by decide), if_pos rfl] at hG
        match j with
        | 0 => exact h.imp (fun e => by simp [e]) (fun hx => by obtain ⟨g, e, hg⟩ := hx; exact ⟨g, e, by subst e; exact own0_only hg hG (fun cur hc h => absurd h (by decide))⟩)
        | 1 => exact h
        | 2 => exact h.imp (fun e => by simp [e]) (fun hg => own_only hg hG (fun cur hc _ h => absurd h (by decide)))
        | 3 => exact h
        | 4 => exact h
        | 5 => exact h
        | 6 => exact h
        | 7 => exact h
        | 8 => exact h
        | 9 => exact h.imp (fun e => by simp [e]) (fun hx => by obtain ⟨g, e, hg⟩ := hx; exact ⟨g, e, blk_only hg hG (fun h => absurd h (by decide))⟩)
        | 10 => exact h.imp (fun e => by simp [e]) (fun hg => own_only hg hG (fun cur hc _ h => absurd h (by decide)))
        | 11 => exact h
        | 12 => exact h
        | 13 => exact h
        | 14 => exact h
        | 15 => exact .inl (by simp)
        | 16 => exact absurd rfl hij
        | 17 => exact h
        | _ + 18 => trivial
      rw [if_neg i2, if_neg i10, if_neg i16] at hG
      match j with
      | 0 => exact h.imp (fun e => by simp [e]) (fun hx => by obtain ⟨g, e, hg⟩ := hx; exact ⟨g, e, own_below hg hG⟩)
      | 1 => exact h
      | 2 => exact h.imp (fun e => by simp [e]) (fun hg => own_below hg hG)
      | 3 => exact h
      | 4 => exact h
      | 5 => exact h
      | 6 => exact h
      | 7 => exact h
      | 8 => exact h
      | 9 => exact h.imp (fun e => by simp [e]) (fun hx => by obtain ⟨g, e, hg⟩ := hx; exact ⟨g, e, hg.below hG⟩)
      | 10 => exact h.imp (fun e => by simp [e]) (fun hg => own_below hg hG)
      | 11 => exact h
      | 12 => exact h
      | 13 => exact h
      | 14 => exact h
      | 15 => exact h.imp (fun e => by simp [e]) (fun hx => by obtain ⟨g, e, hn, hg⟩ := hx; exact ⟨g, e, hn, hg.below hG⟩)
      | 16 => exact h
      | 17 => exact h
      | _ + 18 => trivial
    · intro i L x u hLi h
      match i with
      | 0 => exact h.imp (fun e => by simp [e]) id
      | 1 => exact h
      | 2 => exact h.imp (fun e => by simp [e]) id
      | 3 => exact h
      | 4 => exact h
      | 5 => exact h
      | 6 => exact h
      | 7 => exact h
      | 8 => exact h
      | 9 => exact h.imp (fun e => by simp [e]) id
      | 10 => exact h.imp (fun e => by simp [e]) id
      | 11 => exact h
      | 12 => exact h
      | 13 => exact h
      | 14 => exact h
      | 15 => exact h.imp (fun e => by simp [e]) id
      | 16 => exact h
      | 17 => exact h
      | _ + 18 => trivial
    · refine ⟨?_, ?_, ?_, ?_, ?_, ?_, ?_, ?_, ?_, ?_, ?_, ?_, ?_, ?_, ?_, ?_, ?_, ?_, trivial⟩
      · intro L hL v u hS hd K' hK
        simp only [waited, List.toList_toArray, Region.binds, relL, List.getD_cons_zero, List.getD_cons_succ, true_imp_iff, and_true] at hd
        simp only [relL, List.getD_cons_zero, List.getD_cons_succ, Act.put, List.setIfInBounds_toArray, List.set_cons_zero, List.set_cons_succ] at hK
        try simp only [hd] at hK
        go_simp
        exact hK.out _ _ ⟨⟨hS.1.alloc hS.2 _, Nat.le_trans hS.2 (below_alloc _ _).size⟩, below_alloc _ _, .inr ⟨_, rfl, own_mono (own_none u _) hS.2⟩⟩
      · intro L hL v u hS hd K' hK
        simp only [waited, List.toList_toArray, Region.binds, relL, List.getD_cons_zero, List.getD_cons_succ, true_imp_iff, and_true] at hd
        simp only [relL, List.getD_cons_zero, List.getD_cons_succ, Act.put, List.setIfInBounds_toArray, List.set_cons_zero, List.set_cons_succ] at hK
        try simp only [hd] at hK
        go_simp
        exact hK.out _ _ ⟨hS, Below.refl _ _, rfl⟩
      · intro L hL v u hS hd K' hK
        simp only [waited, List.toList_toArray, Region.binds, relL, List.getD_cons_zero, List.getD_cons_succ, true_imp_iff, and_true] at hd
        obtain ⟨h0, hd1⟩ := hd
        rcases h0 with h0 | ⟨g, e0, hown⟩
        · exact absurd h0 (by rw [hL]; decide)
        refine step_append_any _ (by rfl) _ _ _ (by rfl) w9.heap.size 9 j0 _ 1 16 Try.underlying25 hj hy0 hy1 hy2 rfl (by omega) (v 0) 0 [] (by rfl) hown (some ⟨ab, ao, none⟩) (np + 1) c (strs L0) (by exact hd1) (by have := Lies.below ht10 hS.1; rw [hll] at this; exact this) (strs_one _) (by simp only [maxLen]; omega) (by omega) hS.2 ?_
        intro v1 w1 hown1 hgrow hat
        rw [Nat.zero_add, List.nil_append] at hown1
        have hbb := grown_below hS.1 hS.2 hown hgrow
        refine hK.out _ _ ⟨⟨hbb, Nat.le_trans hS.2 hgrow.size⟩, only_grown (by rw [← e0]; exact hown) (by rw [← e0]; exact hgrow), .inr hown1⟩
      · intro L hL v u hS hd K' hK
        simp only [waited, List.toList_toArray, Region.binds, relL, List.getD_cons_zero, List.getD_cons_succ, true_imp_iff, and_true] at hd
        simp only [relL, List.getD_cons_zero, List.getD_cons_succ, Act.put, List.setIfInBounds_toArray, List.set_cons_zero, List.set_cons_succ] at hK
        try simp only [hd] at hK
        go_simp
        exact hK.out _ _ ⟨hS, Below.refl _ _, rfl⟩
      · intro L hL v u hS hd K' hK
        simp only [waited, List.toList_toArray, Region.binds, relL, List.getD_cons_zero, List.getD_cons_succ, true_imp_iff, and_true] at hd
        simp only [relL, List.getD_cons_zero, List.getD_cons_succ, Act.put, List.setIfInBounds_toArray, List.set_cons_zero, List.set_cons_succ] at hK
        try simp only [hd] at hK
        go_simp
        exact hK.out _ _ ⟨hS, Below.refl _ _, rfl⟩
      · intro L hL v u hS hd K' hK
        simp only [waited, List.toList_toArray, Region.binds, relL, List.getD_cons_zero, List.getD_cons_succ, true_imp_iff, and_true] at hd
        simp only [relL, List.getD_cons_zero, List.getD_cons_succ, Act.put, List.setIfInBounds_toArray, List.set_cons_zero, List.set_cons_succ] at hK
        try simp only [hd] at hK
        go_simp
        exact hK.out _ _ ⟨hS, Below.refl _ _, rfl⟩
      · intro L hL v u hS hd K' hK
        simp only [waited, List.toList_toArray, Region.binds, relL, List.getD_cons_zero, List.getD_cons_succ, true_imp_iff, and_true] at hd
        simp only [relL, List.getD_cons_zero, List.getD_cons_succ, Act.put, List.setIfInBounds_toArray, List.set_cons_zero, List.set_cons_succ] at hK
        try simp only [hd] at hK
        go_simp
        exact hK.out _ _ ⟨hS, Below.refl _ _, rfl⟩
      · intro L hL v u hS hd K' hK
        simp only [waited, List.toList_toArray, Region.binds, relL, List.getD_cons_zero, List.getD_cons_succ, true_imp_iff, and_true] at hd
        simp only [relL, List.getD_cons_zero, List.getD_cons_succ, Act.put, List.setIfInBounds_toArray, List.set_cons_zero, List.set_cons_succ] at hK
        try simp only [hd] at hK
        go_simp
        exact hK.out _ _ ⟨hS, Below.refl _ _, rfl⟩
      · intro L hL v u hS hd K' hK
        simp only [waited, List.toList_toArray, Region.binds, relL, List.getD_cons_zero, List.getD_cons_succ, true_imp_iff, and_true] at hd
        simp only [relL, List.getD_cons_zero, List.getD_cons_succ, Act.put, List.setIfInBounds_toArray, List.set_cons_zero, List.set_cons_succ] at hK
        try simp only [hd] at hK
        have x0 := (hS.1.cell (p := ⟨ab, ao + np, none⟩) hlast0).trans hlast
        go_simp
        exact hK.out _ _ ⟨hS, Below.refl _ _, rfl⟩
      · intro L hL v u hS hd K' hK
        simp only [waited, List.toList_toArray, Region.binds, relL, List.getD_cons_zero, List.getD_cons_succ, true_imp_iff, and_true] at hd
        simp only [relL, List.getD_cons_zero, List.getD_cons_succ, Act.put, List.setIfInBounds_toArray, List.set_cons_zero, List.set_cons_succ] at hK
        try simp only [hd] at hK
        go_simp
        exact hK.out _ _ ⟨⟨hS.1.alloc hS.2 _, Nat.le_trans hS.2 (below_alloc _ _).size⟩, below_alloc _ _, .inr ⟨_, rfl, Blk.new _ _ _⟩⟩
      · intro L hL v u hS hd K' hK
        simp only [waited, List.toList_toArray, Region.binds, relL, List.getD_cons_zero, List.getD_cons_succ, true_imp_iff, and_true] at hd
        obtain ⟨h0, h1⟩ := hd
        rcases h0 with h0 | hown
        · exact absurd h0 (by rw [hL]; decide)
        rcases h1 with h1 | ⟨g, e1, hbg⟩
        · exact absurd h1 (by rw [hL]; decide)
        refine step_append_any _ (by rfl) _ _ _ (by rfl) w9.heap.size 9 j0 _ 1 16 Try.underlying25 hj hy0 hy1 hy2 rfl (by omega) (v 2) (np + 1) (strs L0) (by rfl) hown (some ⟨g, 0, none⟩) 1 1 [.string last] (by exact e1) (lies_one hbg) (by simp [Value.oneCell']) (by simp only [maxLen]; omega) (by omega) hS.2 ?_
        intro v1 w1 hown1 hgrow hat
        rw [show strs L0 ++ [Value.string last] = strs (L0 ++ [last]) by simp [strs]] at hown1
        have hbb := grown_below hS.1 hS.2 hown hgrow
        refine hK.out _ _ ⟨⟨hbb, Nat.le_trans hS.2 hgrow.size⟩, only_grown2 hown (by omega) hgrow, .inr hown1⟩
      · intro L hL v u hS hd K' hK
        simp only [waited, List.toList_toArray, Region.binds, relL, List.getD_cons_zero, List.getD_cons_succ, true_imp_iff, and_true] at hd
        simp only [relL, List.getD_cons_zero, List.getD_cons_succ, Act.put, List.setIfInBounds_toArray, List.set_cons_zero, List.set_cons_succ] at hK
        try simp only [hd] at hK
        rcases hd with h0 | hown
        · exact absurd h0 (by rw [hL]; decide)
        obtain ⟨g, cap, e1, hg, hcg, hlg, hfz⟩ := own_form hown (by omega)
        simp only [e1] at hK
        have hjn := join_no (some ⟨g, 0, none⟩) cap (np + 2) (L0 ++ [last]) u hmore (by simp; omega) (by simp; omega) hcg (by unfold Texts; rw [show (L0 ++ [last]).length = np + 2 by simp; omega]; exact hlg)
        unfold zeroFrame at hjn
        go_simp
        refine hjn.mono ?_
        rintro e w2 ⟨rfl, hb2⟩
        exact hK.out _ _ ⟨⟨bt hS.1 hb2, Nat.le_trans hS.2 hb2.size⟩, hb2, rfl⟩
      · intro L hL v u hS hd K' hK
        simp only [waited, List.toList_toArray, Region.binds, relL, List.getD_cons_zero, List.getD_cons_succ, true_imp_iff, and_true] at hd
        simp only [relL, List.getD_cons_zero, List.getD_cons_succ, Act.put, List.setIfInBounds_toArray, List.set_cons_zero, List.set_cons_succ] at hK
        try simp only [hd] at hK
        go_simp
        exact hK.out _ _ ⟨hS, Below.refl _ _, rfl⟩
      · intro L hL v u hS hd K' hK
        simp only [waited, List.toList_toArray, Region.binds, relL, List.getD_cons_zero, List.getD_cons_succ, true_imp_iff, and_true] at hd
        simp only [relL, List.getD_cons_zero, List.getD_cons_succ, Act.put, List.setIfInBounds_toArray, List.set_cons_zero, List.set_cons_succ] at hK
        try simp only [hd] at hK
        go_simp
        exact hK.out _ _ ⟨hS, Below.refl _ _, rfl⟩
      · intro L hL v u hS hd K' hK
        simp only [waited, List.toList_toArray, Region.binds, relL, List.getD_cons_zero, List.getD_cons_succ, true_imp_iff, and_true] at hd
        simp only [relL, List.getD_cons_zero, List.getD_cons_succ, Act.put, List.setIfInBounds_toArray, List.set_cons_zero, List.set_cons_succ] at hK
        try simp only [hd] at hK
        go_simp
        exact hK.out _ _ ⟨hS, Below.refl _ _, rfl⟩
      · intro L hL v u hS hd K' hK
        simp only [waited, List.toList_toArray, Region.binds, relL, List.getD_cons_zero, List.getD_cons_succ, true_imp_iff, and_true] at hd
        simp only [relL, List.getD_cons_zero, List.getD_cons_succ, Act.put, List.setIfInBounds_toArray, List.set_cons_zero, List.set_cons_succ] at hK
        try simp only [hd] at hK
        go_simp
        exact hK.out _ _ ⟨⟨hS.1.alloc hS.2 _, Nat.le_trans hS.2 (below_alloc _ _).size⟩, below_alloc _ _, .inr ⟨_, rfl, hS.2, Blk.new _ _ _⟩⟩
      · intro L hL v u hS hd K' hK
        simp only [waited, List.toList_toArray, Region.binds, relL, List.getD_cons_zero, List.getD_cons_succ, true_imp_iff, and_true] at hd
        simp only [relL, List.getD_cons_zero, List.getD_cons_succ, Act.put, List.setIfInBounds_toArray, List.set_cons_zero, List.set_cons_succ] at hK
        try simp only [hd] at hK
        obtain ⟨h1, h0⟩ := hd
        rcases h1 with h1 | ⟨g, e1, hgn, hbg⟩
        · exact absurd h1 (by rw [hL]; decide)
        simp only [h0, e1] at hK ⊢
        have y := hbg.cell
        have z := hbg.free
        go_simp
        exact hK.out undef _ ⟨⟨below4' hS.1 hgn _ _ _ _, by simpa [World.size_setCell] using hS.2⟩, only_set4 hbg _ _ _ _, trivial⟩
      · intro L hL v u hS hd K' hK
        simp only [waited, List.toList_toArray, Region.binds, relL, List.getD_cons_zero, List.getD_cons_succ, true_imp_iff, and_true] at hd
        simp only [relL, List.getD_cons_zero, List.getD_cons_succ, Act.put, List.setIfInBounds_toArray, List.set_cons_zero, List.set_cons_succ] at hK
        try simp only [hd] at hK
        go_simp
        exact hK.out _ _ ⟨hS, Below.refl _ _, rfl⟩
    · intro L L' j x u hk h
      match j with
      | 0 => exact h.imp (fun e => by rw [← hk _ (by decide)]; exact e) id
      | 1 => exact h
      | 2 => exact h.imp (fun e => by rw [← hk _ (by decide)]; exact e) id
      | 3 => exact h
      | 4 => exact h
      | 5 => exact h
      | 6 => exact h
      | 7 => exact h
      | 8 => exact h
      | 9 => exact h.imp (fun e => by rw [← hk _ (by decide)]; exact e) id
      | 10 => exact h.imp (fun e => by rw [← hk _ (by decide)]; exact e) id
      | 11 => exact h
      | 12 => exact h
      | 13 => exact h
      | 14 => exact h
      | 15 => exact h.imp (fun e => by rw [← hk _ (by decide)]; exact e) id
      | 16 => exact h
      | 17 => exact h
      | _ + 18 => trivial
    · rintro v2 u2 ⟨hu1, hu2⟩ hR2
      simp only [holdAll, List.size_toArray, List.length_cons, List.length_nil, Nat.reduceAdd, relL, List.getD_cons_zero, List.getD_cons_succ] at hR2
      obtain ⟨_, h17⟩ := hR2
      simp only [h17]
      clear h17
      have b2 := bt b1 hu1
      replace hts := Texts.below hts hu1
      clear hu1 hu2 ht10 hlast hlast0 ht b1
      go_wp2_with fail
      by_cases hf : ∃ f, FrOk f ∧ (sectorsL f).map str = s
      · obtain ⟨f, hf, hfs⟩ := hf
        have hjy := join_yes A0 c0 s.length f u2 hf (by rw [← hfs, List.length_map, sectorsL_length]) hcs (by rw [hfs]; exact hts)
        unfold frVal at hjy
        refine hjy.mono ?_
        rintro e wj ⟨rfl, hbj⟩
        have kf := Blk.new wj [.int .u8 (f.kind.toNat : Int), .int .u64 (f.epoch : Int), .int .u64 (f.seq : Int), .string (str f.pay)] 24
        have bf := (bt b2 hbj).alloc (bt b2 hbj).size (.cells #[.int .u8 (f.kind.toNat : Int), .int .u64 (f.epoch : Int), .int .u64 (f.seq : Int), .string (str f.pay)] 24)
        have htf : Texts (wj.alloc (.cells #[.int .u8 (f.kind.toNat : Int), .int .u64 (f.epoch : Int), .int .u64 (f.seq : Int), .string (str f.pay)] 24)) A0 s := Lies.alloc (Texts.below hts hbj) _
        have hsy := fun u => recSectors_yes f.kind f.epoch f.seq (str f.pay) u hf.kind (by rw [str_size]; exact hf.pay)
        simp only [str_data] at hsy
        rw [show piecesN (str f.pay).size + 1 = s.length by rw [← hfs, List.length_map, sectorsL_length, str_size]] at hsy
        simp only [show (sectorsL ⟨f.kind, f.epoch, f.seq, f.pay⟩).map str = s from hfs] at hsy
        clear hjy hbj
        obtain ⟨F, HF⟩ := named (str f.pay)
        rw [← HF.out] at kf bf htf hsy ⊢
        have y := kf.cell
        go_wp2_with fail
        refine (hsy _).mono ?_
        rintro e wk ⟨⟨A9, c9, rfl, _, ht9⟩, hbk⟩
        have ht0 := Texts.below htf hbk
        have bk := bt bf hbk
        clear y kf hsy htf bf hbk
        go_wp2_with fail
        refine (refSame3_w A9 A0 c9 c0 s _ ht9 ht0 hsl).mono ?_
        rintro e wl ⟨rfl, hbl⟩
        go_wp2
        go_ret
        exact ⟨rfl, bt bk hbl⟩
      · have hjn := join_no A0 c0 s.length s u2 (fun f hok e => hf ⟨f, hok, e⟩) rfl hsl hcs hts
        unfold zeroFrame at hjn
        refine hjn.mono ?_
        rintro e wj ⟨rfl, hbj⟩
        have kf := Blk.new wj [.int .u8 0, .int .u64 0, .int .u64 0, .string ⟨#[]⟩] 24
        have bf := (bt b2 hbj).alloc (bt b2 hbj).size (.cells #[.int .u8 0, .int .u64 0, .int .u64 0, .string ⟨#[]⟩] 24)
        have y := kf.cell
        clear hjn
        go_wp2
        go_ret
        exact ⟨rfl, bf⟩
end Go.Proofs.Ytdgonhmipecjpaa
