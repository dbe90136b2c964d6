/- Several small texts of this proof, one behind the other. -/
import Derived.Test.YtpfbmmeipojodaaWalFrame
import Derived.Test.YtpfbmmeipojodaaFlat
import Derived.Test.YtpfbmmeipojodaaGC
import Derived.Deep.DeepCutAuto
section
/- Frames in memory; an epoch's log, in plain Lean. -/
namespace Go.Proofs.Ytpfbmmeipojodaa
open Go.RowKit
theorem Try.info61 : (Try.prog.info? 61).map (fun i => (i.zero, i.size, i.bytes)) = some (some (.agg #[.int .u8 0, .int .u64 0, .int .u64 0, .string ⟨#[]⟩]), 4, 40) := by kernel_rfl
def frCells (f : Fr) : List Value := [.int .u8 (f.kind.toNat : Int), .int .u64 (f.epoch : Int), .int .u64 (f.seq : Int), .string (str f.pay)]
def frs (l : List Fr) : List Value := l.flatMap frCells
theorem frs_length (l : List Fr) : (frs l).length = l.length * 4 := by
  induction l with
  | nil => rfl
  | cons f l ih => rw [frs, List.flatMap_cons, List.length_append, show (l.flatMap frCells).length = l.length * 4 from ih]; simp [frCells]; omega
theorem frs_append (a b : List Fr) : frs (a ++ b) = frs a ++ frs b := by simp [frs]
theorem frs_one (l : List Fr) : ∀ u ∈ frs l, u.oneCell' = true := by
  intro u hu
  simp only [frs, List.mem_flatMap, frCells, List.mem_cons, List.not_mem_nil, or_false] at hu
  obtain ⟨f, _, rfl | rfl | rfl | rfl⟩ := hu <;> rfl
/-- A slice of frames. -/
def Frames (w : World) (A : Option Addr) (l : List Fr) : Prop := Lies w A l.length 4 (frs l)
theorem Frames.below {w w' : World} {A : Option Addr} {l : List Fr} (h : Frames w A l) (hb : Below w.heap.size w w') : Frames w' A l := Lies.below h hb
theorem frame_one {d : Dk} {f s a : Nat} {x y : Fr} {n m : Nat} (h : FrameAt d f s a x n) (k : FrameAt d f s a y m) : x = y ∧ n = m := by
  have hn : n = m := (same_count h).symm.trans (same_count k)
  subst hn
  exact ⟨sectors_inj h.ok k.ok (map_str_inj (h.lies.symm.trans k.lies)), rfl⟩
open Classical in
noncomputable def frameOf (d : Dk) (f s a : Nat) : Option (Fr × Nat) := if h : ∃ p : Fr × Nat, FrameAt d f s a p.1 p.2 then some h.choose else none
theorem frameOf_some {d : Dk} {f s a : Nat} {x : Fr} {n : Nat} (h : FrameAt d f s a x n) : frameOf d f s a = some (x, n) := by
  have he : ∃ p : Fr × Nat, FrameAt d f s a p.1 p.2 := ⟨(x, n), h⟩
  unfold frameOf
  rw [dif_pos he]
  have := frame_one he.choose_spec h
  exact congrArg some (Prod.ext this.1 this.2)
theorem frameOf_none {d : Dk} {f s a : Nat} (h : ∀ fr n, ¬ FrameAt d f s a fr n) : frameOf d f s a = none := by
  unfold frameOf
  rw [dif_neg (fun ⟨p, hp⟩ => h p.1 p.2 hp)]
/-- The frames of an epoch from a place on, the first of them with number k; the place behind them. -/
noncomputable def logL (d : Dk) (f s ep : Nat) : Nat → Nat → Nat → List Fr × Nat
  | 0, a, _ => ([], a)
  | fuel + 1, a, k => match frameOf d f s a with
    | none => ([], a)
    | some (x, n) => if x.epoch = ep ∧ x.seq = k then (x :: (logL d f s ep fuel (a + n) (k + 1)).1, (logL d f s ep fuel (a + n) (k + 1)).2) else ([], a)
theorem logL_stop {d : Dk} {f s ep fuel a k : Nat} (h : ∀ x n, FrameAt d f s a x n → ¬ (x.epoch = ep ∧ x.seq = k)) : logL d f s ep fuel a k = ([], a) := by
  cases fuel with
  | zero => rfl
  | succ fuel =>
    unfold logL
    by_cases he : ∃ p : Fr × Nat, FrameAt d f s a p.1 p.2
    · obtain ⟨⟨x, n⟩, hx⟩ := he
      rw [frameOf_some hx]
      simp only [if_neg (h x n hx)]
    · rw [frameOf_none (fun fr n hf => he ⟨(fr, n), hf⟩)]
theorem logL_step {d : Dk} {f s ep fuel a k : Nat} {x : Fr} {n : Nat} (h : FrameAt d f s a x n) (h1 : x.epoch = ep) (h2 : x.seq = k) :
    logL d f s ep (fuel + 1) a k = (x :: (logL d f s ep fuel (a + n) (k + 1)).1, (logL d f s ep fuel (a + n) (k + 1)).2) := by
  rw [logL, frameOf_some h]
  simp only [if_pos (And.intro h1 h2)]
/-- An epoch's log. -/
noncomputable def logOf (d : Dk) (f s ep : Nat) : List Fr × Nat := logL d f s ep 1024 0 0
def scanE (d : Dk) (f s : Int) : Int := if walE d f s ≠ 0 then walE d f s else if d.off then 15 else 0
end Go.Proofs.Ytpfbmmeipojodaa
end
section
/- A drawn region as in XFlat, where a value's fact may end with the operation that takes it. -/
namespace Go.Proofs.Ytpfbmmeipojodaa
open Go.RowKit
section
variable {P : Program} {ops : Array Oper}
/-! ### What a value stands for may end with the operation that takes it. -/
def FlatOpL (P : Program) (ops : Array Oper) (aF : (Nat → Value) → Act) (S : World → Prop) (G : Nat → World → World → Prop) (R : (Nat → Bool) → Nat → Value → World → Prop) (i : Nat) (o : Oper) : Prop :=
  ∀ L : Nat → Bool, L i = false → ∀ (v : Nat → Value) (w : World), S w → waited (R L) v w o.after.toList → ∀ K : Act → World → Prop, Hid (∀ x w', S w' ∧ G i w w' ∧ R L i x w' → K ((aF v).put o.dst x) w') →
    if Region.wanted o (yielded ops (aF v).tmps) then o.wp P (aF v) w K (fun _ _ _ => False) else K ((aF v).put o.dst undef) w
def FlatOpsL (P : Program) (ops : Array Oper) (aF : (Nat → Value) → Act) (S : World → Prop) (G : Nat → World → World → Prop) (R : (Nat → Bool) → Nat → Value → World → Prop) : List Oper → Nat → Prop
  | [], _ => True
  | o :: os, i => FlatOpL P ops aF S G R i o ∧ FlatOpsL P ops aF S G R os (i + 1)
theorem FlatOpsL.get {aF : (Nat → Value) → Act} {S : World → Prop} {G : Nat → World → World → Prop} {R : (Nat → Bool) → Nat → Value → World → Prop} : ∀ {os : List Oper} {i : Nat}, FlatOpsL P ops aF S G R os i → ∀ {k : Nat} {o : Oper}, os[k]? = some o → FlatOpL P ops aF S G R (i + k) o := by
  intro os
  induction os with
  | nil => intro i _ k o h; simp at h
  | cons x os ih =>
    intro i h k o hk
    cases k with
    | zero => simp at hk; subst hk; exact h.1
    | succ k =>
      rw [List.getElem?_cons_succ] at hk
      have := ih h.2 hk
      rw [show i + (k + 1) = i + 1 + k by omega]
      exact this
theorem flatL_core {a : Act} {w : World} {Q : Exit → Act → World → Prop} (aF : (Nat → Value) → Act) (S : World → Prop) (G : Nat → World → World → Prop) (R : (Nat → Bool) → Nat → Value → World → Prop)
    (hok : flatOk ops = true) (haF : ∀ v, putsV ops.toList 0 v a = aF v)
    (hstab : ∀ i L j x w w', L i = false → i ≠ j → G i w w' → R L j x w → R (fun k => decide (k = i) || L k) j x w') (hself : ∀ i L x w, L i = false → R L i x w → R (fun k => decide (k = i) || L k) i x w) (hS : S w.drew)
    (hops : FlatOpsL P ops aF S G R ops.toList 0)
    (hext : ∀ L L' j x w, (∀ k, k < ops.size → L k = L' k) → R L j x w → R L' j x w) (hQ : ∀ v w', S w' → holdAll (R fun _ => true) v w' ops.size → Q .normal (aF v) w') : any0 P ops Q ops.size (Array.replicate ops.size false) a w.drew := by
  have hf := flat_of hok
  have key : ∀ (fuel : Nat) (listed : Array Bool) (b : Act) (u : World) (v : Nat → Value), listed.size = ops.size → listed.toList.count false ≤ fuel → PutAt ops (fun j => listed.getD j false) v a b → S u →
      (∀ j, j < ops.size → listed.getD j false = true → R (fun k => listed.getD k false) j (v j) u) → any0 P ops Q fuel listed b u := by
    have hfin : ∀ (listed : Array Bool) (b : Act) (u : World) (v : Nat → Value), (∀ j, j < ops.size → listed.getD j false = true) → PutAt ops (fun j => listed.getD j false) v a b → S u →
        (∀ j, j < ops.size → listed.getD j false = true → R (fun k => listed.getD k false) j (v j) u) → Q .normal b u := by
      intro listed b u v hall hat hSu hR
      have e := (hat.congr (L' := fun _ => true) (v' := v) hall (fun _ _ _ => rfl)).ext (full_at hf v a)
      rw [e, haF v]
      exact hQ v u hSu (holdAll_of fun j hj => hext _ _ _ _ _ (fun k hk => hall k hk) (hR j hj (hall j hj)))
    intro fuel
    induction fuel with
    | zero =>
      intro listed b u v hsz hc hat hSu hR
      have hall : ∀ j, j < ops.size → listed.getD j false = true := by
        intro j hj
        have h0 := List.count_eq_zero.1 (Nat.le_zero.1 hc)
        cases hx : listed.getD j false with
        | true => rfl
        | false =>
          refine absurd ?_ h0
          have hlt : j < listed.size := by omega
          have : listed[j] = false := by simpa [hlt] using hx
          rw [← this]
          simp
      refine ⟨?_, hfin listed b u v hall hat hSu hR⟩
      refine List.filter_eq_nil_iff.2 fun i hi => ?_
      have hi2 := List.mem_range.1 hi
      have := hall i hi2
      have hlt : i < listed.size := by omega
      simp [hlt] at this ⊢
      simp [this]
    | succ fuel ih =>
      intro listed b u v hsz hc hat hSu hR
      refine ⟨fun hnil => hfin listed b u v ?_ hat hSu hR, fun i hi => ?_⟩
      · intro j
        induction j using Nat.strongRecOn with
        | _ j ihj =>
          intro hj
          cases hx : listed.getD j false with
          | true => rfl
          | false =>
            exfalso
            have hm2 : j ∈ Region.ready .any ops listed := by
              refine mem_ready.2 ⟨?_, ops[j], by simp [hj], fun e he hb => ?_⟩
              · have hlt : j < listed.size := by omega
                simpa [hlt] using hx
              · have hlt := hf.back (i := j) (by simp [hj]) e he hb
                exact ihj e.on hlt (by omega)
            rw [hnil] at hm2
            cases hm2
      · obtain ⟨hun, o, ho, hdep⟩ := mem_ready.1 hi
        have hio := (Array.getElem?_eq_some_iff.1 ho).1
        have hlt : i < listed.size := by omega
        have hli : listed[i] = false := by simpa [hlt] using hun
        have hfull := full_at hf v a
        rw [haF v] at hfull
        have hl := looks_eq hf hio (fun j h1 h2 => absurd h2 (by omega)) ho hat hfull hdep (fun _ _ _ => rfl)
        have hop := hops.get (k := i) (o := o) (by simpa using ho)
        rw [Nat.zero_add] at hop
        have next : ∀ (x : Value) (u' : World), S u' ∧ G i u u' ∧ R (fun k => listed.getD k false) i x u' → any0 P ops Q fuel (listed.setIfInBounds i true) (b.put o.dst x) u' := by
          rintro x u' ⟨hS', hG, hRi⟩
          refine ih _ _ _ (updV v i x) (by simpa using hsz) ?_ (hat.put hf ho x (fun j hj => getD_set_ne false (Ne.symm hj)) (by simp [hlt])) hS' ?_
          · rw [Array.toList_setIfInBounds, List.count_set (by simpa using hlt)]
            simp only [Array.getElem_toList, hli]
            have : 0 < listed.toList.count false := List.count_pos_iff.2 (by rw [← hli]; simp)
            simp only [BEq.rfl, if_true, show (true == false) = false from rfl, Bool.false_eq_true, if_false, Nat.add_zero]
            omega
          · intro j hj hlj
            have hL' : ∀ k, (listed.setIfInBounds i true).getD k false = (decide (k = i) || listed.getD k false) := fun k => by
              by_cases hki : k = i
              · subst hki; simp [hlt]
              · rw [getD_set_ne false (Ne.symm hki)]; simp [hki]
            have hLi : (fun k => listed.getD k false) i = false := by show listed.getD i false = false; simp [hlt, hli]
            refine hext (fun k => decide (k = i) || listed.getD k false) _ j _ u' (fun k _ => (hL' k).symm) ?_
            by_cases hji : j = i
            · subst hji
              simp only [updV, if_true]
              exact hself _ _ _ _ hLi hRi
            · rw [getD_set_ne false (Ne.symm hji)] at hlj
              simp only [updV, if_neg hji]
              exact hstab i _ j _ _ _ hLi (Ne.symm hji) hG (hR j hj hlj)
        have hR' : ∀ e ∈ o.after.toList, Region.binds .any e = true → R (fun k => listed.getD k false) e.on (v e.on) u := fun e he hb => by
          have he' : e ∈ o.after := by simpa using he
          exact hR e.on (Nat.lt_trans (hf.back ho e he' hb) hio) (hdep e he' hb)
        have hsize : (aF v).tmps.size = b.tmps.size := hfull.2.1.trans hat.2.1.symm
        have h := hop _ (by show listed.getD i false = false; simp [hlt, hli]) v u hSu (waited_of hR') (fun a' w' => ∃ x, a' = (aF v).put o.dst x ∧ (S w' ∧ G i u w' ∧ R (fun k => listed.getD k false) i x w')) (fun x w' hx => ⟨x, rfl, hx⟩)
        rw [← wanted_same hl] at h
        unfold step0
        simp only [ho]
        split
        · rename_i hw
          rw [if_pos hw] at h
          exact wp_moved (exec_same (fun cs b => Region.noSelect_spec hf.sel i o cs b ho) hl).symm hsize h (fun x w' hx => next x w' hx)
        · rename_i hw
          rw [if_neg hw] at h
          obtain ⟨x, e, hx⟩ := h
          rw [put_same e hsize]
          exact next x u hx
  refine key _ _ _ _ (fun _ => undef) (by simp) (by simp) ?_ hS ?_
  · refine ⟨rfl, rfl, fun t _ => ?_⟩
    cases hp : putter ops t with
    | none => rfl
    | some j =>
      obtain ⟨oj, hoj, _⟩ := putter_some hp
      have := (Array.getElem?_eq_some_iff.1 hoj).1
      simp [this]
  · intro j hj h
    simp [hj] at h
theorem region_flatL {id : Nat} {a : Act} {w : World} {Q : Exit → Act → World → Prop} (aF : (Nat → Value) → Act) (S : World → Prop) (G : Nat → World → World → Prop) (R : (Nat → Bool) → Nat → Value → World → Prop)
    (hm : P.follows .mixedOrders = true) (hok : flatOk ops = true) (haF : ∀ v, putsV ops.toList 0 v a = aF v)
    (hstab : ∀ i L j x w w', L i = false → i ≠ j → G i w w' → R L j x w → R (fun k => decide (k = i) || L k) j x w') (hself : ∀ i L x w, L i = false → R L i x w → R (fun k => decide (k = i) || L k) i x w) (hS : S w.drew)
    (hops : FlatOpsL P ops aF S G R ops.toList 0)
    (hext : ∀ L L' j x w, (∀ k, k < ops.size → L k = L' k) → R L j x w → R L' j x w) (hQ : ∀ v w', S w' → holdAll (R fun _ => true) v w' ops.size → Q .normal (aF v) w') : (Code.region id ops true).wp P Q a w :=
  wp_region_any hm (any0_any _ _ _ _ (flatL_core aF S G R hok haF hstab hself hS hops hext hQ))
end
end Go.Proofs.Ytpfbmmeipojodaa
end
section
/- A drawn region as in XFlat2, where what holds of the world may hang on which operations have been carried out: a cell that the region loads first and stores into last. -/
namespace Go.Proofs.Ytpfbmmeipojodaa
open Go.RowKit
section
variable {P : Program} {ops : Array Oper}
/-! ### What a value stands for may end with the operation that takes it. -/
def FlatOpS (P : Program) (ops : Array Oper) (aF : (Nat → Value) → Act) (S : (Nat → Bool) → World → Prop) (G : Nat → World → World → Prop) (R : (Nat → Bool) → Nat → Value → World → Prop) (i : Nat) (o : Oper) : Prop :=
  ∀ L : Nat → Bool, L i = false → (∀ p q, L p = true → reach ops ops.size p q = true → L q = true) → ∀ (v : Nat → Value) (w : World), S L w → waited (R L) v w o.after.toList → ∀ K : Act → World → Prop, Hid (∀ x w', S (fun k => decide (k = i) || L k) w' ∧ G i w w' ∧ R L i x w' → K ((aF v).put o.dst x) w') →
    if Region.wanted o (yielded ops (aF v).tmps) then o.wp P (aF v) w K (fun _ _ _ => False) else K ((aF v).put o.dst undef) w
def FlatOpsS (P : Program) (ops : Array Oper) (aF : (Nat → Value) → Act) (S : (Nat → Bool) → World → Prop) (G : Nat → World → World → Prop) (R : (Nat → Bool) → Nat → Value → World → Prop) : List Oper → Nat → Prop
  | [], _ => True
  | o :: os, i => FlatOpS P ops aF S G R i o ∧ FlatOpsS P ops aF S G R os (i + 1)
theorem FlatOpsS.get {aF : (Nat → Value) → Act} {S : (Nat → Bool) → World → Prop} {G : Nat → World → World → Prop} {R : (Nat → Bool) → Nat → Value → World → Prop} : ∀ {os : List Oper} {i : Nat}, FlatOpsS P ops aF S G R os i → ∀ {k : Nat} {o : Oper}, os[k]? = some o → FlatOpS P ops aF S G R (i + k) o := by
  intro os
  induction os with
  | nil => intro i _ k o h; simp at h
  | cons x os ih =>
    intro i h k o hk
    cases k with
    | zero => simp at hk; subst hk; exact h.1
    | succ k =>
      rw [List.getElem?_cons_succ] at hk
      have := ih h.2 hk
      rw [show i + (k + 1) = i + 1 + k by omega]
      exact this
theorem flatS_core {a : Act} {w : World} {Q : Exit → Act → World → Prop} (aF : (Nat → Value) → Act) (S : (Nat → Bool) → World → Prop) (G : Nat → World → World → Prop) (R : (Nat → Bool) → Nat → Value → World → Prop)
    (hok : flatOk ops = true) (haF : ∀ v, putsV ops.toList 0 v a = aF v)
    (hstab : ∀ i L j x w w', L i = false → i ≠ j → G i w w' → R L j x w → R (fun k => decide (k = i) || L k) j x w') (hself : ∀ i L x w, L i = false → R L i x w → R (fun k => decide (k = i) || L k) i x w) (hS : S (fun _ => false) w.drew)
    (hops : FlatOpsS P ops aF S G R ops.toList 0)
    (hext : ∀ L L' j x w, (∀ k, k < ops.size → L k = L' k) → R L j x w → R L' j x w) (hextS : ∀ L L' w, (∀ k, k < ops.size → L k = L' k) → S L w → S L' w) (hQ : ∀ v w', S (fun _ => true) w' → holdAll (R fun _ => true) v w' ops.size → Q .normal (aF v) w') : any0 P ops Q ops.size (Array.replicate ops.size false) a w.drew := by
  have hf := flat_of hok
  have key : ∀ (fuel : Nat) (listed : Array Bool) (b : Act) (u : World) (v : Nat → Value), listed.size = ops.size → listed.toList.count false ≤ fuel → PutAt ops (fun j => listed.getD j false) v a b → Closed ops listed → S (fun k => listed.getD k false) u →
      (∀ j, j < ops.size → listed.getD j false = true → R (fun k => listed.getD k false) j (v j) u) → any0 P ops Q fuel listed b u := by
    have hfin : ∀ (listed : Array Bool) (b : Act) (u : World) (v : Nat → Value), (∀ j, j < ops.size → listed.getD j false = true) → PutAt ops (fun j => listed.getD j false) v a b → S (fun k => listed.getD k false) u →
        (∀ j, j < ops.size → listed.getD j false = true → R (fun k => listed.getD k false) j (v j) u) → Q .normal b u := by
      intro listed b u v hall hat hSu hR
      have e := (hat.congr (L' := fun _ => true) (v' := v) hall (fun _ _ _ => rfl)).ext (full_at hf v a)
      rw [e, haF v]
      exact hQ v u (hextS _ _ _ (fun k hk => hall k hk) hSu) (holdAll_of fun j hj => hext _ _ _ _ _ (fun k hk => hall k hk) (hR j hj (hall j hj)))
    intro fuel
    induction fuel with
    | zero =>
      intro listed b u v hsz hc hat hcl hSu hR
      have hall : ∀ j, j < ops.size → listed.getD j false = true := by
        intro j hj
        have h0 := List.count_eq_zero.1 (Nat.le_zero.1 hc)
        cases hx : listed.getD j false with
        | true => rfl
        | false =>
          refine absurd ?_ h0
          have hlt : j < listed.size := by omega
          have : listed[j] = false := by simpa [hlt] using hx
          rw [← this]
          simp
      refine ⟨?_, hfin listed b u v hall hat hSu hR⟩
      refine List.filter_eq_nil_iff.2 fun i hi => ?_
      have hi2 := List.mem_range.1 hi
      have := hall i hi2
      have hlt : i < listed.size := by omega
      simp [hlt] at this ⊢
      simp [this]
    | succ fuel ih =>
      intro listed b u v hsz hc hat hcl hSu hR
      refine ⟨fun hnil => hfin listed b u v ?_ hat hSu hR, fun i hi => ?_⟩
      · intro j
        induction j using Nat.strongRecOn with
        | _ j ihj =>
          intro hj
          cases hx : listed.getD j false with
          | true => rfl
          | false =>
            exfalso
            have hm2 : j ∈ Region.ready .any ops listed := by
              refine mem_ready.2 ⟨?_, ops[j], by simp [hj], fun e he hb => ?_⟩
              · have hlt : j < listed.size := by omega
                simpa [hlt] using hx
              · have hlt := hf.back (i := j) (by simp [hj]) e he hb
                exact ihj e.on hlt (by omega)
            rw [hnil] at hm2
            cases hm2
      · obtain ⟨hun, o, ho, hdep⟩ := mem_ready.1 hi
        have hio := (Array.getElem?_eq_some_iff.1 ho).1
        have hlt : i < listed.size := by omega
        have hli : listed[i] = false := by simpa [hlt] using hun
        have hfull := full_at hf v a
        rw [haF v] at hfull
        have hl := looks_eq hf hio (fun j h1 h2 => absurd h2 (by omega)) ho hat hfull hdep (fun _ _ _ => rfl)
        have hop := hops.get (k := i) (o := o) (by simpa using ho)
        rw [Nat.zero_add] at hop
        have hL'0 : ∀ k, (listed.setIfInBounds i true).getD k false = (decide (k = i) || listed.getD k false) := fun k => by
          by_cases hki : k = i
          · subst hki; simp [hlt]
          · rw [getD_set_ne false (Ne.symm hki)]; simp [hki]
        have next : ∀ (x : Value) (u' : World), S (fun k => decide (k = i) || listed.getD k false) u' ∧ G i u u' ∧ R (fun k => listed.getD k false) i x u' → any0 P ops Q fuel (listed.setIfInBounds i true) (b.put o.dst x) u' := by
          rintro x u' ⟨hS', hG, hRi⟩
          refine ih _ _ _ (updV v i x) (by simpa using hsz) ?_ (hat.put hf ho x (fun j hj => getD_set_ne false (Ne.symm hj)) (by simp [hlt])) (hcl.set ho hdep) (hextS _ _ _ (fun k _ => (hL'0 k).symm) hS') ?_
          · rw [Array.toList_setIfInBounds, List.count_set (by simpa using hlt)]
            simp only [Array.getElem_toList, hli]
            have : 0 < listed.toList.count false := List.count_pos_iff.2 (by rw [← hli]; simp)
            simp only [BEq.rfl, if_true, show (true == false) = false from rfl, Bool.false_eq_true, if_false, Nat.add_zero]
            omega
          · intro j hj hlj
            have hL' : ∀ k, (listed.setIfInBounds i true).getD k false = (decide (k = i) || listed.getD k false) := fun k => by
              by_cases hki : k = i
              · subst hki; simp [hlt]
              · rw [getD_set_ne false (Ne.symm hki)]; simp [hki]
            have hLi : (fun k => listed.getD k false) i = false := by show listed.getD i false = false; simp [hlt, hli]
            refine hext (fun k => decide (k = i) || listed.getD k false) _ j _ u' (fun k _ => (hL' k).symm) ?_
            by_cases hji : j = i
            · subst hji
              simp only [updV, if_true]
              exact hself _ _ _ _ hLi hRi
            · rw [getD_set_ne false (Ne.symm hji)] at hlj
              simp only [updV, if_neg hji]
              exact hstab i _ j _ _ _ hLi (Ne.symm hji) hG (hR j hj hlj)
        have hR' : ∀ e ∈ o.after.toList, Region.binds .any e = true → R (fun k => listed.getD k false) e.on (v e.on) u := fun e he hb => by
          have he' : e ∈ o.after := by simpa using he
          exact hR e.on (Nat.lt_trans (hf.back ho e he' hb) hio) (hdep e he' hb)
        have hsize : (aF v).tmps.size = b.tmps.size := hfull.2.1.trans hat.2.1.symm
        have hclL : ∀ p q, listed.getD p false = true → reach ops ops.size p q = true → listed.getD q false = true := fun p q hp hq => by
          cases hop : ops[p]? with
          | none => unfold reach at hq; cases hz : ops.size with | zero => rw [hz] at hq; cases hq | succ n => rw [hz] at hq; simp [hop] at hq
          | some o' => exact reach_listed hcl ops.size p q o' hop (hcl p o' hop hp) hq
        have h := hop _ (by show listed.getD i false = false; simp [hlt, hli]) hclL v u hSu (waited_of hR') (fun a' w' => ∃ x, a' = (aF v).put o.dst x ∧ (S (fun k => decide (k = i) || listed.getD k false) w' ∧ G i u w' ∧ R (fun k => listed.getD k false) i x w')) (fun x w' hx => ⟨x, rfl, hx⟩)
        rw [← wanted_same hl] at h
        unfold step0
        simp only [ho]
        split
        · rename_i hw
          rw [if_pos hw] at h
          exact wp_moved (exec_same (fun cs b => Region.noSelect_spec hf.sel i o cs b ho) hl).symm hsize h (fun x w' hx => next x w' hx)
        · rename_i hw
          rw [if_neg hw] at h
          obtain ⟨x, e, hx⟩ := h
          rw [put_same e hsize]
          exact next x u hx
  refine key _ _ _ _ (fun _ => undef) (by simp) (by simp) ?_ ?_ (hextS _ _ _ (fun k hk => by simp [hk]) hS) ?_
  · refine ⟨rfl, rfl, fun t _ => ?_⟩
    cases hp : putter ops t with
    | none => rfl
    | some j =>
      obtain ⟨oj, hoj, _⟩ := putter_some hp
      have := (Array.getElem?_eq_some_iff.1 hoj).1
      simp [this]
  · intro i o ho h
    have h9 := (Array.getElem?_eq_some_iff.1 ho).1
    simp [h9] at h
  · intro j hj h
    simp [hj] at h
theorem region_flatS {id : Nat} {a : Act} {w : World} {Q : Exit → Act → World → Prop} (aF : (Nat → Value) → Act) (S : (Nat → Bool) → World → Prop) (G : Nat → World → World → Prop) (R : (Nat → Bool) → Nat → Value → World → Prop)
    (hm : P.follows .mixedOrders = true) (hok : flatOk ops = true) (haF : ∀ v, putsV ops.toList 0 v a = aF v)
    (hstab : ∀ i L j x w w', L i = false → i ≠ j → G i w w' → R L j x w → R (fun k => decide (k = i) || L k) j x w') (hself : ∀ i L x w, L i = false → R L i x w → R (fun k => decide (k = i) || L k) i x w) (hS : S (fun _ => false) w.drew)
    (hops : FlatOpsS P ops aF S G R ops.toList 0)
    (hext : ∀ L L' j x w, (∀ k, k < ops.size → L k = L' k) → R L j x w → R L' j x w) (hextS : ∀ L L' w, (∀ k, k < ops.size → L k = L' k) → S L w → S L' w) (hQ : ∀ v w', S (fun _ => true) w' → holdAll (R fun _ => true) v w' ops.size → Q .normal (aF v) w') : (Code.region id ops true).wp P Q a w :=
  wp_region_any hm (any0_any _ _ _ _ (flatS_core aF S G R hok haF hstab hself hS hops hext hextS hQ))
end
end Go.Proofs.Ytpfbmmeipojodaa
end
section
/- The document's Copy. -/
namespace Go.Proofs.Ytpfbmmeipojodaa
open Go.RowKit
/-- A disk's value of one's own. -/
def OwnDk (w : World) (base : Nat) (v : Value) (d : Dk) : Prop := ∃ sv pv, v = .agg #[sv, pv, .bool d.off, .int .i64 d.fuse] ∧ w.ownsRow base 9 1 sv d.secs.length (strs d.secs) ∧ w.ownsRow base 66 2 pv d.pend.length (wrs d.pend) ∧
  d.secs.length ≤ 140737488351232 ∧ d.pend.length ≤ 140737488351232 ∧ -9223372036854775808 ≤ d.fuse ∧ d.fuse ≤ 9223372036854775807
set_option maxRecDepth 100000 in
set_option maxHeartbeats 4000000 in
theorem refCopy_w (A1 A2 : Option Addr) (c1 c2 : Nat) (d : Dk) (w : World) (h1 : Texts w A1 d.secs) (h2 : Writes w A2 d.pend) (hl1 : d.secs.length * 16 ≤ 140737488351232) (hl2 : d.pend.length * 24 ≤ 140737488351232) (hf1 : -9223372036854775808 ≤ d.fuse) (hf2 : d.fuse ≤ 9223372036854775807) :
    Calls Try.prog 14 #[.agg #[.slice A1 d.secs.length c1, .slice A2 d.pend.length c2, .bool d.off, .int .i64 d.fuse]] w fun e w' => ∃ v, e = .returned v ∧ OwnDk w' w.heap.size v d ∧ Below w.heap.size w w' := by
  obtain ⟨b0, k1, k2⟩ := (⟨bt (below_alloc _ _) (below_alloc _ _), (Blk.new w _ _).alloc _, Blk.new (w.alloc _) _ _⟩ : Below w.heap.size w ((w.alloc (.cells #[.slice A1 d.secs.length c1, .slice A2 d.pend.length c2, .bool d.off, .int .i64 d.fuse] 28)).alloc (.cells #[.slice none 0 0, .slice none 0 0, .bool false, .int .i64 0] 28)) ∧
    Blk ((w.alloc (.cells #[.slice A1 d.secs.length c1, .slice A2 d.pend.length c2, .bool d.off, .int .i64 d.fuse] 28)).alloc (.cells #[.slice none 0 0, .slice none 0 0, .bool false, .int .i64 0] 28)) w.heap.size [.slice A1 d.secs.length c1, .slice A2 d.pend.length c2, .bool d.off, .int .i64 d.fuse] 28 ∧
    Blk ((w.alloc (.cells #[.slice A1 d.secs.length c1, .slice A2 d.pend.length c2, .bool d.off, .int .i64 d.fuse] 28)).alloc (.cells #[.slice none 0 0, .slice none 0 0, .bool false, .int .i64 0] 28)) (w.alloc (.cells #[.slice A1 d.secs.length c1, .slice A2 d.pend.length c2, .bool d.off, .int .i64 d.fuse] 28)).heap.size [.slice none 0 0, .slice none 0 0, .bool false, .int .i64 0] 28)
  rw [show (w.alloc (.cells #[.slice A1 d.secs.length c1, .slice A2 d.pend.length c2, .bool d.off, .int .i64 d.fuse] 28)).heap.size = w.heap.size + 1 by simp] at k2
  obtain ⟨i0, hi, hz0, hz1, hz2⟩ := info_parts Try.info66
  obtain ⟨j0, hj, hy0, hy1, hy2⟩ := info_parts Try.info9
  have t1 := h1.below b0
  have t2 := h2.below b0
  go_enter Try.func14, Try.ntmps14
  go_upto_region 1 with fail
  obtain ⟨W0, H0⟩ := named ((w.alloc (.cells #[.slice A1 d.secs.length c1, .slice A2 d.pend.length c2, .bool d.off, .int .i64 d.fuse] 28)).alloc (.cells #[.slice none 0 0, .slice none 0 0, .bool false, .int .i64 0] 28))
  rw [← H0.out] at b0 k1 k2 t1 t2 ⊢
  clear H0
  have x0 := (k1.alloc (.cells #[] 9)).cell 0
  go_upto_region 2 with (first
    | (at_builtin
       refine wpList_append_any _ rfl (.tmp 3) (.tmp 5) _ rfl W0.heap.size 9 j0 _ 1 16 Try.underlying22 hj hy0 hy1 hy2 rfl (by omega) (.slice (some ⟨W0.heap.size, 0, none⟩) 0 0) 0 [] rfl
         (own_empty W0 _ _) A1 d.secs.length c1 (strs d.secs) rfl (Lies.alloc t1 _) (strs_one _) (by simp only [maxLen]; omega) (by omega) (by simp) ?_
       intro v1 Wa own1 hg1 hat1
       have hbA : Below W0.heap.size W0 Wa := ((Below.refl _ _).alloc (Nat.le_refl _) _).grown hg1 (by simp) (by simp [Value.ownBlock])
       obtain ⟨B1, e1, rfl, _⟩ := Lies.of_own own1
       have ka := (k1.below hbA).cell 0
       have kf := (k1.below hbA).free 0))
  have own1' : Wa.ownsRow W0.heap.size 9 1 (.slice B1 d.secs.length e1) d.secs.length (strs d.secs) := by simpa using own1
  have hN0 : w.heap.size + 1 < W0.heap.size := k2.lt
  have hbW := (b0.trans (hbA.mono (by omega))).setCell (p := ⟨w.heap.size, 0, none⟩) (Nat.le_refl _) (.slice B1 d.secs.length e1)
  have m1 := (k1.below hbA).set 0 (.slice B1 d.secs.length e1)
  have m2 := (k2.below hbA).far (p := ⟨w.heap.size, 0, none⟩) (by simp) (.slice B1 d.secs.length e1)
  have o1 := World.ownsRow.mono (own_far own1' (p := ⟨w.heap.size, 0, none⟩) (own_blk_ne own1' (k1.below hbA) (by decide)) (.slice B1 d.secs.length e1)) (show w.heap.size + 1 + 1 ≤ W0.heap.size by omega)
  have t3 := h2.below hbW
  obtain ⟨W1, H1⟩ := named (Wa.setCell ⟨w.heap.size, 0, none⟩ (.slice B1 d.secs.length e1))
  rw [← H1.out] at hbW m1 m2 o1 t3 ⊢
  clear H1 own1 own1' ka kf x0 hg1 hat1 t1 t2 k1 k2 b0
  simp only [List.set_cons_zero] at m1
  have hN1 : w.heap.size + 1 < W1.heap.size := m2.lt
  have x1 := (m1.alloc (.cells #[] 66)).cell 1
  go_upto_region 3 with (first
    | (at_builtin
       refine wpList_append_any _ rfl (.tmp 8) (.tmp 10) _ rfl W1.heap.size 66 i0 _ 2 24 Try.underlying26 hi hz0 hz1 hz2 rfl (by omega) (.slice (some ⟨W1.heap.size, 0, none⟩) 0 0) 0 [] rfl
         (own_empty W1 _ _) A2 d.pend.length c2 (wrs d.pend) rfl (Lies.alloc t3 _) (wrs_one _) (by simp only [maxLen]; omega) (by omega) (by simp) ?_
       intro v2 Wb own2 hg2 hat2
       have hbB : Below W1.heap.size W1 Wb := ((Below.refl _ _).alloc (Nat.le_refl _) _).grown hg2 (by simp) (by simp [Value.ownBlock])
       obtain ⟨B2, e2, rfl, _⟩ := Lies.of_own own2
       have kb := (m1.below hbB).cell 1
       have kg := (m1.below hbB).free 1))
  have own2' : Wb.ownsRow W1.heap.size 66 2 (.slice B2 d.pend.length e2) d.pend.length (wrs d.pend) := by simpa using own2
  have hbW2 := (hbW.trans (hbB.mono (by omega))).setCell (p := ⟨w.heap.size, 1, none⟩) (show w.heap.size ≤ w.heap.size from Nat.le_refl _) (.slice B2 d.pend.length e2)
  have n1 := (m1.below hbB).set 1 (.slice B2 d.pend.length e2)
  have n2 := (m2.below hbB).far (p := ⟨w.heap.size, 1, none⟩) (by simp) (.slice B2 d.pend.length e2)
  have o2 := World.ownsRow.mono (own_far own2' (p := ⟨w.heap.size, 1, none⟩) (own_blk_ne own2' (m1.below hbB) (by decide)) (.slice B2 d.pend.length e2)) (show w.heap.size ≤ W1.heap.size by omega)
  have o1b := own_below o1 hbB
  have o1c := World.ownsRow.mono (own_far o1b (p := ⟨w.heap.size, 1, none⟩) (own_blk_ne o1b (m1.below hbB) (by decide)) (.slice B2 d.pend.length e2)) (show w.heap.size ≤ w.heap.size + 1 + 1 by omega)
  obtain ⟨W2, H2⟩ := named (Wb.setCell ⟨w.heap.size, 1, none⟩ (.slice B2 d.pend.length e2))
  rw [← H2.out] at hbW2 n1 n2 o2 o1c ⊢
  clear H2 own2 own2' kb kg x1 hg2 hat2 t3 m1 m2 o1 o1b
  simp only [List.set_cons_zero, List.set_cons_succ] at n1
  have y0 := n1.cell 0
  have y1 := n1.cell 1
  have y2 := n1.cell 2
  have y3 := n1.cell 3
  have r0 := n2.cell 0
  have r1 := n2.cell 1
  have r2 := n2.cell 2
  have r3 := n2.cell 3
  have z0 := n2.free 0
  have z1 := n2.free 1
  have z2 := n2.free 2
  have z3 := n2.free 3
  go_wp2_with fail
  refine bodyPost_ret (v := .agg #[.slice B1 d.secs.length e1, .slice B2 d.pend.length e2, .bool d.off, .int .i64 d.fuse]) (by simp [results, Try.results14, go_sem, r0, r1, r2, r3]) rfl ?_
  have w1 := own_blk_ne o1c n2 (by decide)
  have w2 := own_blk_ne o2 n2 (by decide)
  refine ⟨_, rfl, ⟨_, _, rfl, own_far (own_far (own_far (own_far o1c (p := ⟨w.heap.size + 1, 0, none⟩) w1 _) (p := ⟨w.heap.size + 1, 1, none⟩) w1 _) (p := ⟨w.heap.size + 1, 2, none⟩) w1 _) (p := ⟨w.heap.size + 1, 3, none⟩) w1 _,
    own_far (own_far (own_far (own_far o2 (p := ⟨w.heap.size + 1, 0, none⟩) w2 _) (p := ⟨w.heap.size + 1, 1, none⟩) w2 _) (p := ⟨w.heap.size + 1, 2, none⟩) w2 _) (p := ⟨w.heap.size + 1, 3, none⟩) w2 _, by omega, by omega, hf1, hf2⟩,
    (((hbW2.setCell (p := ⟨w.heap.size + 1, 0, none⟩) (by simp only; omega) _).setCell (p := ⟨w.heap.size + 1, 1, none⟩) (by simp only; omega) _).setCell (p := ⟨w.heap.size + 1, 2, none⟩) (by simp only; omega) _).setCell (p := ⟨w.heap.size + 1, 3, none⟩) (by simp only; omega) _⟩
end Go.Proofs.Ytpfbmmeipojodaa
end
section
/- The document's burnt. -/
namespace Go.Proofs.Ytpfbmmeipojodaa
open Go.RowKit
set_option maxRecDepth 100000 in
set_option maxHeartbeats 4000000 in
theorem refBurnt_w (A1 A2 : Option Addr) (n1 c1 n2 c2 : Nat) (off : Bool) (f : Int) (w : World) (hf1 : -9223372036854775808 ≤ f) (hf2 : f ≤ 9223372036854775807) :
    Calls Try.prog 99 #[.agg #[.slice A1 n1 c1, .slice A2 n2 c2, .bool off, .int .i64 f]] w fun e w' =>
      e = .returned (.tuple #[.agg #[.slice A1 n1 c1, .slice A2 n2 c2, .bool (if f = 0 then true else off), .int .i64 (if 0 < f then f - 1 else f)], .bool (decide (f ≠ 0))]) ∧ Below w.heap.size w w' := by
  obtain ⟨b0, k1, k2⟩ := two_blk w [.slice A1 n1 c1, .slice A2 n2 c2, .bool off, .int .i64 f] [.slice none 0 0, .slice none 0 0, .bool false, .int .i64 0] 28 28
  have x0 := k1.cell 0
  have x1 := k1.cell 1
  have x2 := k1.cell 2
  have x3 := k1.cell 3
  have y2 := k1.free 2
  have y3 := k1.free 3
  have r0 := k2.cell 0
  have r1 := k2.cell 1
  have r2 := k2.cell 2
  have r3 := k2.cell 3
  have z0 := k2.free 0
  have z1 := k2.free 1
  have z2 := k2.free 2
  have z3 := k2.free 3
  by_cases h0 : f = 0
  · subst h0
    simp only [if_true, Int.lt_irrefl, if_false, ne_eq, not_true_eq_false, decide_false]
    go_enter Try.func99, Try.ntmps99
    go_wp2
    refine bodyPost_ret (v := .tuple #[.agg #[.slice A1 n1 c1, .slice A2 n2 c2, .bool true, .int .i64 0], .bool false]) (by simp [results, Try.results99, go_sem]) rfl ?_
    refine ⟨rfl, ?_⟩
    first | exact bt (below_alloc _ _) (below_alloc _ _) | (repeat' first | exact b0 | refine Below.setCell ?_ (by simp) _)
  · have h0' : (f == 0) = false := by simp [h0]
    simp only [ne_eq, h0, not_false_eq_true, decide_true]
    by_cases hp : 0 < f
    · simp only [if_pos hp]
      go_enter Try.func99, Try.ntmps99
      go_wp2
      refine bodyPost_ret (v := .tuple #[.agg #[.slice A1 n1 c1, .slice A2 n2 c2, .bool off, .int .i64 (f - 1)], .bool true]) (by simp [results, Try.results99, go_sem]) rfl ?_
      refine ⟨rfl, ?_⟩
      first | exact bt (below_alloc _ _) (below_alloc _ _) | (repeat' first | exact b0 | refine Below.setCell ?_ (by simp) _)
    · simp only [if_neg hp]
      have hp' : f < 0 := by omega
      go_enter Try.func99, Try.ntmps99
      go_wp2
      refine bodyPost_ret (v := .tuple #[.agg #[.slice A1 n1 c1, .slice A2 n2 c2, .bool off, .int .i64 f], .bool true]) (by simp [results, Try.results99, go_sem]) rfl ?_
      refine ⟨rfl, ?_⟩
      first | exact bt (below_alloc _ _) (below_alloc _ _) | (repeat' first | exact b0 | refine Below.setCell ?_ (by simp) _)
end Go.Proofs.Ytpfbmmeipojodaa
end
section
/- A disk in its box: four cells set at once; what is kept beside. -/
namespace Go.Proofs.Ytpfbmmeipojodaa
open Go.RowKit
/-- The four cells of a block, set. -/
def set4 (w : World) (X : Nat) (a b c d : Value) : World := (((w.setCell ⟨X, 0, none⟩ a).setCell ⟨X, 1, none⟩ b).setCell ⟨X, 2, none⟩ c).setCell ⟨X, 3, none⟩ d
section
variable {w w0 : World} {X N : Nat} {a b c d : Value}
theorem Blk.set4 {v0 v1 v2 v3 : Value} {t : TypeId} (h : Blk w X [v0, v1, v2, v3] t) (a b c d : Value) : Blk (set4 w X a b c d) X [a, b, c, d] t := (((h.set 0 a).set 1 b).set 2 c).set 3 d
theorem Blk.far4 {g : Nat} {l : List Value} {t : TypeId} (h : Blk w g l t) (hX : g ≠ X) (a b c d : Value) : Blk (Go.Proofs.Ytpfbmmeipojodaa.set4 w X a b c d) g l t :=
  (((h.far (p := ⟨X, 0, none⟩) hX a).far (p := ⟨X, 1, none⟩) hX b).far (p := ⟨X, 2, none⟩) hX c).far (p := ⟨X, 3, none⟩) hX d
theorem own_far4 {base : Nat} {e : TypeId} {size n : Nat} {v : Value} {xs : List Value} (h : w.ownsRow base e size v n xs) (hX : v.ownBlock ≠ some X) (a b c d : Value) : (set4 w X a b c d).ownsRow base e size v n xs :=
  own_far (own_far (own_far (own_far h (p := ⟨X, 0, none⟩) hX a) (p := ⟨X, 1, none⟩) hX b) (p := ⟨X, 2, none⟩) hX c) (p := ⟨X, 3, none⟩) hX d
theorem below4 (h : Below N w0 w) (hX : N ≤ X) (a b c d : Value) : Below N w0 (set4 w X a b c d) :=
  (((h.setCell (p := ⟨X, 0, none⟩) hX a).setCell (p := ⟨X, 1, none⟩) hX b).setCell (p := ⟨X, 2, none⟩) hX c).setCell (p := ⟨X, 3, none⟩) hX d
theorem size4 (a b c d : Value) : (set4 w X a b c d).heap.size = w.heap.size := by simp [set4]
end
/-- A disk's two rows of one's own. -/
structure Own2 (w : World) (M : Nat) (B1 : Option Addr) (e1 : Nat) (B2 : Option Addr) (e2 : Nat) (S : List ByteArray) (P : List Wr) : Prop where
  own1 : w.ownsRow M 9 1 (.slice B1 S.length e1) S.length (strs S)
  own2 : w.ownsRow M 66 2 (.slice B2 P.length e2) P.length (wrs P)
section
variable {w w' : World} {M : Nat} {B1 B2 : Option Addr} {e1 e2 : Nat} {S : List ByteArray} {P : List Wr}
theorem Own2.below (h : Own2 w M B1 e1 B2 e2 S P) (hb : Below w.heap.size w w') : Own2 w' M B1 e1 B2 e2 S P := ⟨own_below h.own1 hb, own_below h.own2 hb⟩
theorem Own2.alloc (h : Own2 w M B1 e1 B2 e2 S P) (o : Obj) : Own2 (w.alloc o) M B1 e1 B2 e2 S P := ⟨h.own1.alloc o, h.own2.alloc o⟩
theorem Own2.set4 {X : Nat} {l : List Value} (h : Own2 w M B1 e1 B2 e2 S P) (hX : Blk w X l 28) (a b c d : Value) : Own2 (set4 w X a b c d) M B1 e1 B2 e2 S P :=
  ⟨own_far4 h.own1 (own_blk_ne h.own1 hX (by decide)) a b c d, own_far4 h.own2 (own_blk_ne h.own2 hX (by decide)) a b c d⟩
theorem Own2.far {p : Addr} {l : List Value} (h : Own2 w M B1 e1 B2 e2 S P) (hX : Blk w p.block l 28) (u : Value) : Own2 (w.setCell p u) M B1 e1 B2 e2 S P :=
  ⟨own_far h.own1 (own_blk_ne h.own1 hX (by decide)) u, own_far h.own2 (own_blk_ne h.own2 hX (by decide)) u⟩
theorem Own2.is (h : Own2 w M B1 e1 B2 e2 S P) (off : Bool) (f : Int) (hl1 : S.length ≤ 140737488351232) (hl2 : P.length ≤ 140737488351232) (hf1 : -9223372036854775808 ≤ f) (hf2 : f ≤ 9223372036854775807) :
    DkIs w (.agg #[.slice B1 S.length e1, .slice B2 P.length e2, .bool off, .int .i64 f]) ⟨S, P, off, f⟩ := by
  obtain ⟨A1, c1, x1, _, _, t1, _⟩ := Lies.of_own h.own1
  obtain ⟨A2, c2, x2, _, _, t2, _⟩ := Lies.of_own h.own2
  cases x1
  cases x2
  exact ⟨_, _, _, _, rfl, t1, t2, hl1, hl2, hf1, hf2⟩
end
/-- The copy, laid into its box. -/
theorem boxed {w W : World} {N M : Nat} {B1 B2 : Option Addr} {e1 e2 : Nat} {S : List ByteArray} {P : List Wr} {v0 v1 v2 v3 : Value} {l : List Value} (k1 : Blk W N [v0, v1, v2, v3] 28) (k2 : Blk W (N + 1) l 28) (o : Own2 W M B1 e1 B2 e2 S P) (hb : Below N w W) (a b c d : Value) :
    Blk (set4 W N a b c d) N [a, b, c, d] 28 ∧ Blk (set4 W N a b c d) (N + 1) l 28 ∧ Own2 (set4 W N a b c d) M B1 e1 B2 e2 S P ∧ Below N w (set4 W N a b c d) :=
  ⟨k1.set4 _ _ _ _, k2.far4 (by omega) _ _ _ _, o.set4 k1 _ _ _ _, below4 hb (Nat.le_refl _) _ _ _ _⟩
/-- The disk, laid into the answer's own cell. -/
theorem answered {w W : World} {N M g : Nat} {B1 B2 : Option Addr} {e1 e2 : Nat} {S : List ByteArray} {P : List Wr} {l : List Value} (o : Own2 W M B1 e1 B2 e2 S P) (hR : Blk W g l 28) (hb : Below N w W) (hN : N ≤ g) (off : Bool) (f : Int)
    (hl1 : S.length ≤ 140737488351232) (hl2 : P.length ≤ 140737488351232) (hf1 : -9223372036854775808 ≤ f) (hf2 : f ≤ 9223372036854775807) (a b c d : Value) :
    DkIs (set4 W g a b c d) (.agg #[.slice B1 S.length e1, .slice B2 P.length e2, .bool off, .int .i64 f]) ⟨S, P, off, f⟩ ∧ Below N w (set4 W g a b c d) :=
  ⟨(o.set4 hR a b c d).is off f hl1 hl2 hf1 hf2, below4 hb hN a b c d⟩
theorem lies_new (w : World) (vs : List Value) (t : TypeId) {n size : Nat} (h : vs.length = n * size) : Lies (w.alloc (.cells vs.toArray t)) (some ⟨w.heap.size, 0, none⟩) n size vs :=
  ⟨h, fun _ => ⟨_, _, rfl, fun j u hu => by rw [(Blk.new w vs t).cell, Nat.zero_add]; exact hu⟩⟩
/-- A write more. -/
theorem pushed {w W w1 : World} {N M : Nat} {B1 B2 B3 : Option Addr} {e1 e2 e3 : Nat} {S : List ByteArray} {P : List Wr} {v0 v1 v2 v3 : Value} {l : List Value} {o : Obj} (x : Wr) (k1 : Blk W N [v0, v1, v2, v3] 28) (k2 : Blk W (N + 1) l 28) (ho : Own2 W M B1 e1 B2 e2 S P)
    (hb : Below N w W) (hN : N + 1 < M) (hM : M ≤ W.heap.size) (own : w1.ownsRow M 66 2 (.slice B3 (P.length + 1) e3) (P.length + 1) (wrs P ++ [.int .i64 x.sec, .string x.data])) (hg : (W.alloc o).grownBy w1 (Value.slice B2 P.length e2).ownBlock) :
    (w1.frozen? ⟨N, 1, none⟩ = false ∧ w1.cell? ⟨N, 1, none⟩ = some v1) ∧ Blk (w1.setCell ⟨N, 1, none⟩ (.slice B3 (P.length + 1) e3)) N [v0, .slice B3 (P ++ [x]).length e3, v2, v3] 28 ∧ Blk (w1.setCell ⟨N, 1, none⟩ (.slice B3 (P.length + 1) e3)) (N + 1) l 28 ∧
    Own2 (w1.setCell ⟨N, 1, none⟩ (.slice B3 (P.length + 1) e3)) M B1 e1 B3 e3 S (P ++ [x]) ∧ Below N w (w1.setCell ⟨N, 1, none⟩ (.slice B3 (P.length + 1) e3)) ∧ M ≤ (w1.setCell ⟨N, 1, none⟩ (.slice B3 (P.length + 1) e3)).heap.size := by
  have k1' := k1.alloc o
  have k2' := k2.alloc o
  have ho' := ho.alloc o
  have m1 : Blk w1 N [v0, v1, v2, v3] 28 := (hg.block N k1'.lt (Ne.symm (own_blk_ne ho'.own2 k1' (by decide)))).trans k1'
  have m2 : Blk w1 (N + 1) l 28 := (hg.block (N + 1) k2'.lt (Ne.symm (own_blk_ne ho'.own2 k2' (by decide)))).trans k2'
  have hbw : Below N w w1 := (hb.alloc (by omega) o).grown hg (by simp; omega) (fun k hk => by have := ho.own2.lt k hk; omega)
  have s1 := ho'.own1.kept hg (own_ne ho'.own1 ho'.own2 (by decide))
  have hsz : (W.alloc o).heap.size ≤ w1.heap.size := hg.size
  refine ⟨⟨m1.free 1, m1.cell 1⟩, ?_, m2.far (p := ⟨N, 1, none⟩) (by simp) _, ⟨own_far s1 (p := ⟨N, 1, none⟩) (own_blk_ne s1 m1 (by decide)) _, ?_⟩, hbw.setCell (p := ⟨N, 1, none⟩) (Nat.le_refl _) _, ?_⟩
  · have := m1.set 1 (.slice B3 (P.length + 1) e3)
    simpa using this
  · have := own_far own (p := ⟨N, 1, none⟩) (own_blk_ne own m1 (by decide)) (.slice B3 (P.length + 1) e3)
    simp only [List.length_append, List.length_cons, List.length_nil, wrs_append]
    exact this
  · simp at hsz ⊢; omega
end Go.Proofs.Ytpfbmmeipojodaa
end
section
/- The document's loops over the writes that wait: what holds round by round. -/
namespace Go.Proofs.Ytpfbmmeipojodaa
open Go.RowKit
/-- k writes looked at, s is what the sectors are by then. -/
def Rest (may : Nat → Bool) (k : Nat) (P : List Wr) (S s : List ByteArray) : Prop := s.length = S.length ∧ stl may k (P.drop k) s = stl may 0 P S
section
variable {may : Nat → Bool} {k : Nat} {P : List Wr} {S s : List ByteArray}
theorem Rest.start (may : Nat → Bool) (P : List Wr) (S : List ByteArray) : Rest may 0 P S S := ⟨rfl, rfl⟩
theorem Rest.yes (h : Rest may k P S s) (hk : k < P.length) (hm : may k = true) : Rest may (k + 1) P S (s.set P[k].sec.toNat P[k].data) := by
  obtain ⟨h1, h2⟩ := h
  rw [drop_cons_l _ _ hk, stl, if_pos hm] at h2
  exact ⟨by simpa using h1, h2⟩
theorem Rest.no (h : Rest may k P S s) (hk : k < P.length) (hm : may k = false) : Rest may (k + 1) P S s := by
  obtain ⟨h1, h2⟩ := h
  rw [drop_cons_l _ _ hk, stl, if_neg (by simp [hm])] at h2
  exact ⟨h1, h2⟩
theorem Rest.done (h : Rest may P.length P S s) : s = stl may 0 P S := by
  have := h.2
  rw [List.drop_length] at this
  exact this
end
/-- The world between two rounds. -/
structure Settles (wr w : World) (N M : Nat) (B1 : Option Addr) (e1 : Nat) (B2 : Option Addr) (e2 : Nat) (off : Bool) (f : Int) (S : List ByteArray) (P : List Wr) (s : List ByteArray) : Prop where
  box : Blk wr N [.slice B1 S.length e1, .slice B2 P.length e2, .bool off, .int .i64 f] 28
  ans : Blk wr (N + 1) [.slice none 0 0, .slice none 0 0, .bool false, .int .i64 0] 28
  own1 : wr.ownsRow M 9 1 (.slice B1 S.length e1) S.length (strs s)
  own2 : wr.ownsRow M 66 2 (.slice B2 P.length e2) P.length (wrs P)
  low : Below N w wr
  far : N + 1 < M
  room : M ≤ wr.heap.size
section
variable {wr w : World} {N M : Nat} {B1 B2 : Option Addr} {e1 e2 : Nat} {off : Bool} {f : Int} {S s : List ByteArray} {P : List Wr}
theorem Settles.start (h1 : Blk wr N [.slice B1 S.length e1, .slice B2 P.length e2, .bool off, .int .i64 f] 28) (h2 : Blk wr (N + 1) [.slice none 0 0, .slice none 0 0, .bool false, .int .i64 0] 28)
    (ho : Own2 wr M B1 e1 B2 e2 S P) (hb : Below N w wr) (hf : N + 1 < M) (hr : M ≤ wr.heap.size) : Settles wr w N M B1 e1 B2 e2 off f S P S := ⟨h1, h2, ho.own1, ho.own2, hb, hf, hr⟩
theorem Settles.alloc (h : Settles wr w N M B1 e1 B2 e2 off f S P s) (o : Obj) : Settles (wr.alloc o) w N M B1 e1 B2 e2 off f S P s :=
  ⟨h.box.alloc o, h.ans.alloc o, h.own1.alloc o, h.own2.alloc o, h.low.alloc (by have := h.far; have := h.room; omega) o, h.far, by have := h.room; simp; omega⟩
/-- What a round loads. -/
theorem Settles.loads (h : Settles wr w N M B1 e1 B2 e2 off f S P s) {k : Nat} (hin : ∀ x ∈ P, there S x.sec = true) (hk : k < P.length) :
    ∃ b o, ∃ j : Nat, B2 = some ⟨b, o, none⟩ ∧ P[k].sec = (j : Int) ∧ j < S.length ∧ (j : Int) < (S.length : Int) ∧ wr.cell? ⟨b, o + k * 2, none⟩ = some (.int .i64 (j : Int)) ∧ wr.cell? ⟨b, o + k * 2 + 1, none⟩ = some (.string P[k].data) := by
  obtain ⟨A, c, x, _, _, t, _⟩ := Lies.of_own h.own2
  cases x
  obtain ⟨b, o, rfl, c1, c2⟩ := Writes.at_ t hk
  obtain ⟨j, hj, hjl⟩ := there_nat (hin _ (List.getElem_mem hk))
  rw [hj] at c1
  exact ⟨b, o, j, rfl, hj, hjl, by omega, c1, c2⟩
/-- What a round stores. -/
theorem Settles.stores (h : Settles wr w N M B1 e1 B2 e2 off f S P s) (hs : s.length = S.length) {j : Nat} (hj : j < S.length) (x : ByteArray) :
    ∃ G, B1 = some ⟨G, 0, none⟩ ∧ wr.cell? ⟨G, j, none⟩ = some (.string (s.getD j ⟨#[]⟩)) ∧ wr.frozen? ⟨G, j, none⟩ = false ∧ Settles (wr.setCell ⟨G, j, none⟩ (.string x)) w N M B1 e1 B2 e2 off f S P (s.set j x) := by
  obtain ⟨G, cap, e, hG, _⟩ := h.own1.form (by omega)
  cases e
  have n1 := own_blk_ne h.own1 h.box (by decide)
  have n2 := own_blk_ne h.own1 h.ans (by decide)
  have hGN : N ≠ G := fun e => n1 (by rw [e]; rfl)
  have hGN2 : N + 1 ≠ G := fun e => n2 (by rw [e]; rfl)
  have n3 : (Value.slice B2 P.length e2).ownBlock ≠ some G := by
    rcases own_ne h.own1 h.own2 (by decide) with e | e
    · cases e
    · exact Ne.symm e
  have s3 := (h.own1.stored j (.string x)).1
  rw [← strs_set] at s3
  refine ⟨G, rfl, ?_, h.own1.frozenAt j, ⟨h.box.far (p := ⟨G, j, none⟩) hGN _, h.ans.far (p := ⟨G, j, none⟩) hGN2 _, s3, own_far h.own2 (p := ⟨G, j, none⟩) n3 _, h.low.setCell (p := ⟨G, j, none⟩) (by have := h.far; simp only; omega) _, h.far, by simpa using h.room⟩⟩
  rw [h.own1.cellAt j (by omega)]
  simp [strs, show j < s.length by omega]
/-- Behind the last round: the answer. -/
theorem Settles.answer (h : Settles wr w N M B1 e1 B2 e2 off f S P s) (hs : s.length = S.length) (u : Bool) (g : Int) (hl1 : S.length ≤ 140737488351232) (hf1 : -9223372036854775808 ≤ g) (hf2 : g ≤ 9223372036854775807) (a b c d : Value) :
    DkIs (set4 wr (N + 1) a b c d) (.agg #[.slice B1 S.length e1, .slice none 0 0, .bool u, .int .i64 g]) ⟨s, [], u, g⟩ ∧ Below N w (set4 wr (N + 1) a b c d) := by
  refine ⟨?_, below4 h.low (by omega) a b c d⟩
  obtain ⟨A1, c1, x1, _, _, t1, _⟩ := Lies.of_own (own_far4 h.own1 (own_blk_ne h.own1 h.ans (by decide)) a b c d)
  cases x1
  refine ⟨B1, e1, none, 0, ?_, ?_, Lies.nil _ _ _, by simp only; omega, by simp, hf1, hf2⟩
  · simp only [hs]; rfl
  · unfold Texts; rw [hs]; exact t1
theorem Settles.set1 (h : Settles wr w N M B1 e1 B2 e2 off f S P s) (hs : s.length = S.length) (u : Bool) (g : Int) (hl1 : S.length ≤ 140737488351232) (hf1 : -9223372036854775808 ≤ g) (hf2 : g ≤ 9223372036854775807) (v a b c d : Value) :
    DkIs (set4 (wr.setCell ⟨N, 1, none⟩ v) (N + 1) a b c d) (.agg #[.slice B1 S.length e1, .slice none 0 0, .bool u, .int .i64 g]) ⟨s, [], u, g⟩ ∧ Below N w (set4 (wr.setCell ⟨N, 1, none⟩ v) (N + 1) a b c d) := by
  have h1 := own_far h.own1 (p := ⟨N, 1, none⟩) (own_blk_ne h.own1 h.box (by decide)) v
  have h2 := h.ans.far (p := ⟨N, 1, none⟩) (by simp) v
  refine ⟨?_, below4 (h.low.setCell (p := ⟨N, 1, none⟩) (Nat.le_refl _) v) (by omega) a b c d⟩
  obtain ⟨A1, c1, x1, _, _, t1, _⟩ := Lies.of_own (own_far4 h1 (own_blk_ne h1 h2 (by decide)) a b c d)
  cases x1
  refine ⟨B1, e1, none, 0, ?_, ?_, Lies.nil _ _ _, by simp only; omega, by simp, hf1, hf2⟩
  · simp only [hs]; rfl
  · unfold Texts; rw [hs]; exact t1
end
end Go.Proofs.Ytpfbmmeipojodaa
end
section
/- A disk in a variable of the asker's: the box. -/
namespace Go.Proofs.Ytpfbmmeipojodaa
open Go.RowKit
/-- Block N is a variable that holds the disk d. -/
structure Box (w : World) (N : Nat) (A1 : Option Addr) (c1 : Nat) (A2 : Option Addr) (c2 : Nat) (d : Dk) : Prop where
  blk : Blk w N [.slice A1 d.secs.length c1, .slice A2 d.pend.length c2, .bool d.off, .int .i64 d.fuse] 28
  tx : Texts w A1 d.secs
  wr : Writes w A2 d.pend
  l1 : d.secs.length ≤ 140737488351232
  l2 : d.pend.length ≤ 140737488351232
  f1 : -9223372036854775808 ≤ d.fuse
  f2 : d.fuse ≤ 9223372036854775807
section
variable {w w' : World} {N : Nat} {A1 A2 : Option Addr} {c1 c2 : Nat} {d : Dk}
theorem Box.is (h : Box w N A1 c1 A2 c2 d) : DkIs w (.agg #[.slice A1 d.secs.length c1, .slice A2 d.pend.length c2, .bool d.off, .int .i64 d.fuse]) d := ⟨A1, c1, A2, c2, rfl, h.tx, h.wr, h.l1, h.l2, h.f1, h.f2⟩
theorem Box.below (h : Box w N A1 c1 A2 c2 d) (hb : Below w.heap.size w w') : Box w' N A1 c1 A2 c2 d := ⟨h.blk.below hb, h.tx.below hb, h.wr.below hb, h.l1, h.l2, h.f1, h.f2⟩
theorem Box.new (w : World) (h : DkIs w (.agg #[.slice A1 d.secs.length c1, .slice A2 d.pend.length c2, .bool d.off, .int .i64 d.fuse]) d) : Box (w.alloc (.cells #[.slice A1 d.secs.length c1, .slice A2 d.pend.length c2, .bool d.off, .int .i64 d.fuse] 28)) w.heap.size A1 c1 A2 c2 d := by
  obtain ⟨B1, e1, B2, e2, e, h1, h2, h3, h4, h5, h6⟩ := h
  simp only [Value.agg.injEq, Array.mk.injEq, List.cons.injEq, Value.slice.injEq, and_true, true_and] at e
  obtain ⟨⟨rfl, rfl⟩, rfl, rfl⟩ := e
  exact ⟨Blk.new w _ _, h1.below (below_alloc _ _), h2.below (below_alloc _ _), h3, h4, h5, h6⟩
theorem Box.alloc (h : Box w N A1 c1 A2 c2 d) (o : Obj) : Box (w.alloc o) N A1 c1 A2 c2 d := h.below (below_alloc _ _)
theorem Box.lt (h : Box w N A1 c1 A2 c2 d) : N < w.heap.size := h.blk.lt
end
/-- No text lies in a disk's block. -/
theorem strs_off {w : World} {A : Option Addr} {l : List ByteArray} {g : Nat} {t : TypeId} {a b : Option Addr} {p q r s : Nat} {u : Bool} {f : Int} (h : Texts w A l) (hg : Blk w g [.slice a p q, .slice b r s, .bool u, .int .i64 f] t) : strs l ≠ [] → ∀ x, A = some x → x.block ≠ g := by
  intro hn x hx e
  subst hx
  obtain ⟨k, o, e', hc⟩ := h.2 hn
  cases e'
  simp only at e
  subst e
  cases l with
  | nil => exact hn rfl
  | cons y l =>
    have h0 := hc 0 (.string y) rfl
    rw [hg.cell] at h0
    rcases Nat.lt_or_ge (o + 0) 4 with hlt | hge
    · rcases (show o + 0 = 0 ∨ o + 0 = 1 ∨ o + 0 = 2 ∨ o + 0 = 3 by omega) with e | e | e | e <;> rw [e] at h0 <;> simp at h0
    · rw [List.getElem?_eq_none (by simpa using hge)] at h0; cases h0
theorem wrs_off {w : World} {A : Option Addr} {l : List Wr} {g : Nat} {t : TypeId} {a b : Option Addr} {p q r s : Nat} {u : Bool} {f : Int} (h : Writes w A l) (hg : Blk w g [.slice a p q, .slice b r s, .bool u, .int .i64 f] t) : wrs l ≠ [] → ∀ x, A = some x → x.block ≠ g := by
  intro hn x hx e
  subst hx
  obtain ⟨k, o, e', hc⟩ := h.2 hn
  cases e'
  simp only at e
  subst e
  cases l with
  | nil => exact hn rfl
  | cons y l =>
    have h0 := hc 1 (.string y.data) rfl
    rw [hg.cell] at h0
    rcases Nat.lt_or_ge (o + 1) 4 with hlt | hge
    · rcases (show o + 1 = 0 ∨ o + 1 = 1 ∨ o + 1 = 2 ∨ o + 1 = 3 by omega) with e | e | e | e <;> rw [e] at h0 <;> simp at h0
    · rw [List.getElem?_eq_none (by simpa using hge)] at h0; cases h0
theorem lies_off {w : World} {A : Option Addr} {n size : Nat} {xs : List Value} (h : Lies w A n size xs) {p : Addr} (hp : xs ≠ [] → ∀ a, A = some a → a.block ≠ p.block) (u : Value) : Lies (w.setCell p u) A n size xs := by
  refine ⟨h.1, fun hn => ?_⟩
  obtain ⟨b, o, e, hc⟩ := h.2 hn
  exact ⟨b, o, e, fun j u' hu => (World.cell?_setCell_other w p _ u (fun e' => hp hn _ e (by rw [e']))).trans (hc j u' hu)⟩
theorem lies_off4 {w : World} {A : Option Addr} {n size X : Nat} {xs : List Value} (h : Lies w A n size xs) (hp : xs ≠ [] → ∀ a, A = some a → a.block ≠ X) (a b c d : Value) : Lies (set4 w X a b c d) A n size xs :=
  lies_off (lies_off (lies_off (lies_off h (p := ⟨X, 0, none⟩) hp a) (p := ⟨X, 1, none⟩) hp b) (p := ⟨X, 2, none⟩) hp c) (p := ⟨X, 3, none⟩) hp d
/-- Another disk is laid into the box. -/
theorem Box.set {w : World} {N : Nat} {A1 A2 B1 B2 : Option Addr} {c1 c2 e1 e2 : Nat} {d d' : Dk} (h : Box w N A1 c1 A2 c2 d) (t1 : Texts w B1 d'.secs) (t2 : Writes w B2 d'.pend) (l1 : d'.secs.length ≤ 140737488351232) (l2 : d'.pend.length ≤ 140737488351232) (f1 : -9223372036854775808 ≤ d'.fuse) (f2 : d'.fuse ≤ 9223372036854775807) :
    Box (set4 w N (.slice B1 d'.secs.length e1) (.slice B2 d'.pend.length e2) (.bool d'.off) (.int .i64 d'.fuse)) N B1 e1 B2 e2 d' :=
  ⟨h.blk.set4 _ _ _ _, lies_off4 t1 (strs_off t1 h.blk) _ _ _ _, lies_off4 t2 (wrs_off t2 h.blk) _ _ _ _, l1, l2, f1, f2⟩
/-- A box besides is left as it was. -/
theorem Box.far4 {w : World} {N X : Nat} {A1 A2 : Option Addr} {c1 c2 : Nat} {d : Dk} {a' b' : Option Addr} {p q r s : Nat} {u : Bool} {f : Int} (h : Box w N A1 c1 A2 c2 d) (hX : Blk w X [.slice a' p q, .slice b' r s, .bool u, .int .i64 f] 28) (hne : N ≠ X) (a b c e : Value) : Box (set4 w X a b c e) N A1 c1 A2 c2 d :=
  ⟨h.blk.far4 hne _ _ _ _, lies_off4 h.tx (strs_off h.tx hX) _ _ _ _, lies_off4 h.wr (wrs_off h.wr hX) _ _ _ _, h.l1, h.l2, h.f1, h.f2⟩
end Go.Proofs.Ytpfbmmeipojodaa
end
section
/- A drawn region 'd, why = f(d, ..)': the box is loaded first and stored into last, what else is done is done in any order. -/
namespace Go.Proofs.Ytpfbmmeipojodaa
open Go.RowKit
/-- New blocks alone; or the box was written. -/
def KeepBox (N : Nat) (u u' : World) : Prop := Below u.heap.size u u' ∨ ∃ A1 n1 c1 A2 n2 c2 o f a b c e, Blk u N [.slice A1 n1 c1, .slice A2 n2 c2, .bool o, .int .i64 f] 28 ∧ u' = set4 u N a b c e
def BoxAt (N : Nat) (dk D : Dk) (B1 : Option Addr) (e1 : Nat) (B2 : Option Addr) (e2 : Nat) (b : Bool) (u : World) : Prop := (b = false → Box u N B1 e1 B2 e2 dk) ∧ (b = true → ∃ P1 p1 P2 p2, Box u N P1 p1 P2 p2 D)
section
variable {N : Nat} {u u' w : World} {dk D : Dk} {B1 B2 : Option Addr} {e1 e2 : Nat} {b : Bool}
theorem BoxAt.below (h : BoxAt N dk D B1 e1 B2 e2 b u) (hb : Below u.heap.size u u') : BoxAt N dk D B1 e1 B2 e2 b u' :=
  ⟨fun e => (h.1 e).below hb, fun e => let ⟨P1, p1, P2, p2, hB⟩ := h.2 e; ⟨P1, p1, P2, p2, hB.below hb⟩⟩
theorem BoxAt.start (h : Box u N B1 e1 B2 e2 dk) : BoxAt N dk D B1 e1 B2 e2 false u := ⟨fun _ => h, fun e => by cases e⟩
theorem BoxAt.stored {P1 P2 : Option Addr} {p1 p2 : Nat} (h : Box u N P1 p1 P2 p2 D) {c : Bool} : BoxAt N dk D B1 e1 B2 e2 (true || c) u := ⟨fun e => by simp at e, fun _ => ⟨P1, p1, P2, p2, h⟩⟩
theorem DkIs.keepBox {v : Value} {d : Dk} (h : DkIs u v d) (hk : KeepBox N u u') : DkIs u' v d := by
  rcases hk with hb | ⟨A1, n1, c1, A2, n2, c2, o, f, a, b, c, e, hB, rfl⟩
  · exact h.below hb
  · obtain ⟨Q1, q1, Q2, q2, rfl, t1, t2, r⟩ := h
    exact ⟨Q1, q1, Q2, q2, rfl, lies_off4 t1 (strs_off t1 hB) _ _ _ _, lies_off4 t2 (wrs_off t2 hB) _ _ _ _, r⟩
theorem Blk.keepBox {g : Nat} {vs : List Value} {t : TypeId} (h : Blk u g vs t) (hk : KeepBox N u u') (hne : g ≠ N) : Blk u' g vs t := by
  rcases hk with hb | ⟨A1, n1, c1, A2, n2, c2, o, f, a, b, c, e, hB, rfl⟩
  · exact h.below hb
  · exact h.far4 hne _ _ _ _
theorem below_keepBox (h : Below w.heap.size w u) (hk : KeepBox N u u') (hN : w.heap.size ≤ N) : Below w.heap.size w u' := by
  rcases hk with hb | ⟨A1, n1, c1, A2, n2, c2, o, f, a, b, c, e, hB, rfl⟩
  · exact bt h hb
  · exact below4 h hN _ _ _ _
theorem keepBox_set (h : Box u N B1 e1 B2 e2 dk) (a b c e : Value) : KeepBox N u (set4 u N a b c e) := .inr ⟨_, _, _, _, _, _, _, _, a, b, c, e, h.blk, rfl⟩
end
end Go.Proofs.Ytpfbmmeipojodaa
end
section
/- A copy of one's own is a disk. -/
namespace Go.Proofs.Ytpfbmmeipojodaa
open Go.RowKit
theorem ownDk_is {w : World} {base : Nat} {v : Value} {d : Dk} (h : OwnDk w base v d) : DkIs w v d := by
  obtain ⟨sv, pv, rfl, o1, o2, l1, l2, f1, f2⟩ := h
  obtain ⟨A1, c1, rfl, _, _, t1, _⟩ := Lies.of_own o1
  obtain ⟨A2, c2, rfl, _, _, t2, _⟩ := Lies.of_own o2
  exact ⟨_, _, _, _, rfl, t1, t2, l1, l2, f1, f2⟩
end Go.Proofs.Ytpfbmmeipojodaa
end
