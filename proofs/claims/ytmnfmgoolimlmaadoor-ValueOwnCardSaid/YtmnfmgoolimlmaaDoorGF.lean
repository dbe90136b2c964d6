/- Several small texts of this proof, one behind the other. -/
import Derived.Test.YtmnfmgoolimlmaaDoorFlat
section
/- Regions in their order, each operation looked at once: the law of XFlat for a region that does not draw. -/
namespace Go.Proofs.YtmnfmgoolimlmaaDoor
open Go.RowKit
section
variable {P : Program} {ops : Array Oper}
theorem flat_core0 {a : Act} {w : World} {Q : Exit → Act → World → Prop} (aF : (Nat → Value) → Act) (S : World → Prop) (G : World → World → Prop) (R : Nat → Value → World → Prop)
    (hok : flatOk ops = true) (haF : ∀ v, putsV ops.toList 0 v a = aF v)
    (hstab : ∀ j x w w', G w w' → R j x w → R j x w') (hS : S w)
    (hops : FlatOps P ops aF S G R ops.toList 0)
    (hQ : ∀ v w', S w' → holdAll R v w' ops.size → Q .normal (aF v) w') : any0 P ops Q ops.size (Array.replicate ops.size false) a w := by
  have hf := flat_of hok
  have key : ∀ (fuel : Nat) (listed : Array Bool) (b : Act) (u : World) (v : Nat → Value), listed.size = ops.size → listed.toList.count false ≤ fuel → PutAt ops (fun j => listed.getD j false) v a b → S u →
      (∀ j, j < ops.size → listed.getD j false = true → R j (v j) u) → any0 P ops Q fuel listed b u := by
    have hfin : ∀ (listed : Array Bool) (b : Act) (u : World) (v : Nat → Value), (∀ j, j < ops.size → listed.getD j false = true) → PutAt ops (fun j => listed.getD j false) v a b → S u →
        (∀ j, j < ops.size → listed.getD j false = true → R j (v j) u) → Q .normal b u := by
      intro listed b u v hall hat hSu hR
      have e := (hat.congr (L' := fun _ => true) (v' := v) hall (fun _ _ _ => rfl)).ext (full_at hf v a)
      rw [e, haF v]
      exact hQ v u hSu (holdAll_of fun j hj => hR j hj (hall j hj))
    intro fuel
    induction fuel with
    | zero =>
      intro listed b u v hsz hc hat hSu hR
      have hall : ∀ j, j < ops.size → listed.getD j false = true := by
        intro j hj
        have h0 := List.count_eq_zero.1 (Nat.le_zero.1 hc)
        cases hx : listed.getD j false with
        | true => rfl
        | false =>
          refine absurd ?_ h0
          have hlt : j < listed.size := by omega
          have : listed[j] = false := by simpa [hlt] using hx
          rw [← this]
          simp
      refine ⟨?_, hfin listed b u v hall hat hSu hR⟩
      refine List.filter_eq_nil_iff.2 fun i hi => ?_
      have hi2 := List.mem_range.1 hi
      have := hall i hi2
      have hlt : i < listed.size := by omega
      simp [hlt] at this ⊢
      simp [this]
    | succ fuel ih =>
      intro listed b u v hsz hc hat hSu hR
      refine ⟨fun hnil => hfin listed b u v ?_ hat hSu hR, fun i hi => ?_⟩
      · intro j
        induction j using Nat.strongRecOn with
        | _ j ihj =>
          intro hj
          cases hx : listed.getD j false with
          | true => rfl
          | false =>
            exfalso
            have hm2 : j ∈ Region.ready .any ops listed := by
              refine mem_ready.2 ⟨?_, ops[j], by simp [hj], fun e he hb => ?_⟩
              · have hlt : j < listed.size := by omega
                simpa [hlt] using hx
              · have hlt := hf.back (i := j) (by simp [hj]) e he hb
                exact ihj e.on hlt (by omega)
            rw [hnil] at hm2
            cases hm2
      · obtain ⟨hun, o, ho, hdep⟩ := mem_ready.1 hi
        have hio := (Array.getElem?_eq_some_iff.1 ho).1
        have hlt : i < listed.size := by omega
        have hli : listed[i] = false := by simpa [hlt] using hun
        have hfull := full_at hf v a
        rw [haF v] at hfull
        have hl := looks_eq hf hio (fun j h1 h2 => absurd h2 (by omega)) ho hat hfull hdep (fun _ _ _ => rfl)
        have hop := hops.get (k := i) (o := o) (by simpa using ho)
        rw [Nat.zero_add] at hop
        have next : ∀ (x : Value) (u' : World), S u' ∧ G u u' ∧ R i x u' → any0 P ops Q fuel (listed.setIfInBounds i true) (b.put o.dst x) u' := by
          rintro x u' ⟨hS', hG, hRi⟩
          refine ih _ _ _ (updV v i x) (by simpa using hsz) ?_ (hat.put hf ho x (fun j hj => getD_set_ne false (Ne.symm hj)) (by simp [hlt])) hS' ?_
          · rw [Array.toList_setIfInBounds, List.count_set (by simpa using hlt)]
            simp only [Array.getElem_toList, hli]
            have : 0 < listed.toList.count false := List.count_pos_iff.2 (by rw [← hli]; simp)
            simp only [BEq.rfl, if_true, show (true == false) = false from rfl, Bool.false_eq_true, if_false, Nat.add_zero]
            omega
          · intro j hj hlj
            by_cases hji : j = i
            · subst hji; simpa [updV] using hRi
            · rw [getD_set_ne false (Ne.symm hji)] at hlj
              simp only [updV, if_neg hji]
              exact hstab _ _ _ _ hG (hR j hj hlj)
        have hR' : ∀ e ∈ o.after.toList, Region.binds .any e = true → R e.on (v e.on) u := fun e he hb => by
          have he' : e ∈ o.after := by simpa using he
          exact hR e.on (Nat.lt_trans (hf.back ho e he' hb) hio) (hdep e he' hb)
        have hsize : (aF v).tmps.size = b.tmps.size := hfull.2.1.trans hat.2.1.symm
        have h := hop v u hSu (waited_of hR') (fun a' w' => ∃ x, a' = (aF v).put o.dst x ∧ (S w' ∧ G u w' ∧ R i x w')) (fun x w' hx => ⟨x, rfl, hx⟩)
        rw [← wanted_same hl] at h
        unfold step0
        simp only [ho]
        split
        · rename_i hw
          rw [if_pos hw] at h
          exact wp_moved (exec_same (fun cs b => Region.noSelect_spec hf.sel i o cs b ho) hl).symm hsize h (fun x w' hx => next x w' hx)
        · rename_i hw
          rw [if_neg hw] at h
          obtain ⟨x, e, hx⟩ := h
          rw [put_same e hsize]
          exact next x u hx
  refine key _ _ _ _ (fun _ => undef) (by simp) (by simp) ?_ hS ?_
  · refine ⟨rfl, rfl, fun t _ => ?_⟩
    cases hp : putter ops t with
    | none => rfl
    | some j =>
      obtain ⟨oj, hoj, _⟩ := putter_some hp
      have := (Array.getElem?_eq_some_iff.1 hoj).1
      simp [this]
  · intro j hj h
    simp [hj] at h
theorem seq_of_any0 {Q : Exit → Act → World → Prop} (hback : ∀ (i : Nat) (o : Oper), ops[i]? = some o → ∀ e ∈ o.after, Region.binds .any e = true → e.on < i) : ∀ (n k : Nat) (listed : Array Bool) (a : Act) (w : World), listed.size = ops.size → (∀ j, j < ops.size → listed.getD j false = decide (j < k)) → k + n = ops.size → any0 P ops Q n listed a w → wpOps P ops Q (List.range' k n) a w := by
  intro n
  induction n with
  | zero => intro k listed a w _ _ _ h; exact h.2
  | succ n ih =>
    intro k listed a w hsz hl hk h
    rw [List.range'_succ, wpOps_cons]
    have hlt : k < ops.size := by omega
    have hmem : k ∈ Region.ready .any ops listed := by
      refine mem_ready.2 ⟨?_, ops[k], by simp [hlt], fun e he hb => ?_⟩
      · have h1 := hl k hlt
        have hlt2 : k < listed.size := by omega
        simp [hlt2] at h1 ⊢
        exact h1
      · have h1 := hback k _ (by simp [hlt]) e he hb
        rw [hl _ (by omega)]
        exact decide_eq_true h1
    have h2 := h.2 k hmem
    have next : ∀ (a' : Act) (w' : World), any0 P ops Q n (listed.setIfInBounds k true) a' w' → wpOps P ops Q (List.range' (k + 1) n) a' w' := fun a' w' h' => by
      refine ih (k + 1) _ a' w' (by simpa using hsz) (fun j hj => ?_) (by omega) h'
      by_cases e : j = k
      · subst e
        have hlt2 : j < listed.size := by omega
        simp [hlt2]
      · rw [getD_set_ne false (Ne.symm e), hl j hj]
        rw [decide_eq_decide]
        omega
    unfold step0 at h2
    unfold wpOp
    split
    · next hn => simp only [hn] at h2; exact next _ _ h2
    · next o ho =>
      simp only [ho] at h2
      split
      · next hw => rw [if_pos hw] at h2; exact .inl (Oper.wp_mono (fun a' w' h' => next a' w' h') h2)
      · next hw => rw [if_neg hw] at h2; exact next _ _ h2
theorem region_flat0 {id : Nat} {a : Act} {w : World} {Q : Exit → Act → World → Prop} (aF : (Nat → Value) → Act) (S : World → Prop) (G : World → World → Prop) (R : Nat → Value → World → Prop)
    (hok : flatOk ops = true) (haF : ∀ v, putsV ops.toList 0 v a = aF v)
    (hstab : ∀ j x w w', G w w' → R j x w → R j x w') (hS : S w)
    (hops : FlatOps P ops aF S G R ops.toList 0)
    (hQ : ∀ v w', S w' → holdAll R v w' ops.size → Q .normal (aF v) w') : (Code.region id ops false).wp P Q a w := by
  refine wp_region ?_
  have h := flat_core0 aF S G R hok haF hstab hS hops hQ
  have hf := flat_of hok
  rw [List.range_eq_range']
  exact seq_of_any0 (fun i o ho e he hb => hf.back ho e he hb) ops.size 0 _ a w (by simp) (fun j hj => by simp [hj]) (by omega) h
theorem tail_core0 {a : Act} {w : World} {Q : Exit → Act → World → Prop} (m : Nat) (aF : (Nat → Value) → Act) (S : World → Prop) (G : World → World → Prop) (R : Nat → Value → World → Prop)
    (hok : flatOkT ops m = true) (ht : tailOk ops m = true) (hmn : m ≤ ops.size) (haF : ∀ v, putsV (ops.toList.take m) 0 v a = aF v)
    (hstab : ∀ j x w w', G w w' → R j x w → R j x w') (hS : S w)
    (hops : FlatOps P ops aF S G R (ops.toList.take m) 0)
    (hQ : ∀ v w', S w' → holdAll R v w' m → seqOps P ops Q (ops.toList.drop m) (aF v) w') : any0 P ops Q ops.size (Array.replicate ops.size false) a w := by
  have hf := flat_of hok
  have hfull : ∀ v, PutAt ops (fun j => decide (j < m)) v a (aF v) := fun v => by
    have h0 : PutAt ops (fun j => decide (j < 0)) v a a := ⟨rfl, rfl, fun t _ => by
      cases putter ops t <;> simp⟩
    have := putsV_at hf v a (ops.toList.take m) 0 a (fun k hk => by
      rw [List.getElem?_take_of_lt (by simp at hk; omega), Nat.zero_add]
      simp) h0
    rw [haF v] at this
    have e : 0 + (ops.toList.take m).length = m := by simp; omega
    rw [e] at this
    exact this
  have key : ∀ (fuel : Nat) (listed : Array Bool) (b : Act) (u : World) (v : Nat → Value), listed.size = ops.size → Closed ops listed → (∀ j, m ≤ j → j < ops.size → listed.getD j false = false) → ops.size ≤ fuel + listed.toList.count true → PutAt ops (fun j => listed.getD j false) v a b → S u →
      (∀ j, j < ops.size → listed.getD j false = true → R j (v j) u) → any0 P ops Q fuel listed b u := by
    intro fuel
    induction fuel with
    | zero =>
      intro listed b u v hsz hc htl hct hat hSu hR
      have hall : ∀ j, j < ops.size → listed.getD j false = true := by
        intro j hj
        have h1 : listed.toList.count true = listed.toList.length := Nat.le_antisymm List.count_le_length (by rw [Array.length_toList, hsz]; omega)
        have hlt : j < listed.size := by omega
        have := List.count_eq_length.1 h1 listed[j] (by simp)
        simp [hlt, ← this]
      have hmn' : m = ops.size := by
        rcases Nat.lt_or_ge m ops.size with h | h
        · have h1 := htl m (Nat.le_refl _) h
          rw [hall m h] at h1
          cases h1
        · omega
      have e := (hat.congr (L' := fun j => decide (j < m)) (v' := v) (fun j hj => by rw [hall j hj]; simp; omega) (fun _ _ _ => rfl)).ext (hfull v)
      rw [e]
      exact seq_any ht hf _ m 0 listed _ u (Nat.le_refl _) hmn rfl ⟨hsz, fun j hj => by rw [hall j hj]; simp; omega⟩ hc (by omega) (hQ v u hSu (holdAll_of fun j hj => hR j (by omega) (hall j (by omega))))
    | succ fuel ih =>
      intro listed b u v hsz hc htl hct hat hSu hR
      by_cases hall : ∀ j, j < m → listed.getD j false = true
      · have hl : ∀ j, j < ops.size → listed.getD j false = decide (j < m) := fun j hj => by
          by_cases hjm : j < m
          · rw [hall j hjm]; simp [hjm]
          · rw [htl j (by omega) hj]; simp [hjm]
        have e := (hat.congr (L' := fun j => decide (j < m)) (v' := v) hl (fun _ _ _ => rfl)).ext (hfull v)
        rw [e]
        refine seq_any ht hf _ m _ listed _ u (Nat.le_refl _) hmn rfl ⟨hsz, hl⟩ hc ?_ (hQ v u hSu (holdAll_of fun j hj => hR j (by omega) (hall j hj)))
        have h1 : listed.toList.count true ≤ m := by
          rw [← List.take_append_drop m listed.toList, List.count_append]
          have h2 : (listed.toList.drop m).count true = 0 := List.count_eq_zero.2 fun hmem => by
            obtain ⟨j, hj⟩ := List.mem_iff_getElem?.1 hmem
            rw [List.getElem?_drop] at hj
            have hlt : m + j < listed.size := by
              rcases Nat.lt_or_ge (m + j) listed.size with h | h
              · exact h
              · rw [List.getElem?_eq_none (by simpa using h)] at hj; cases hj
            have h3 := htl (m + j) (by omega) (by omega)
            simp [hlt] at h3 hj
            rw [h3] at hj
            cases hj
          have h4 : (listed.toList.take m).count true ≤ m := Nat.le_trans List.count_le_length (by simp; omega)
          omega
        omega
      · have hready : ∀ i ∈ Region.ready .any ops listed, i < m := by
          intro i hi
          rcases Nat.lt_or_ge i m with h | h
          · exact h
          · exfalso
            obtain ⟨_, oi, hoi, hdep⟩ := mem_ready.1 hi
            have hio := (Array.getElem?_eq_some_iff.1 hoi).1
            have h2 := List.all_eq_true.1 ht i (List.mem_range.2 hio)
            rw [Bool.or_eq_true] at h2
            rcases h2 with h2 | h2
            · have := of_decide_eq_true h2; omega
            · exact hall fun j hj => reach_listed hc _ _ _ oi hoi hdep (List.all_eq_true.1 h2 j (List.mem_range.2 (by omega)))
        refine ⟨fun hnil => absurd ?_ hall, fun i hi => ?_⟩
        · have : ∀ j, j < ops.size → listed.getD j false = true := by
            intro j
            induction j using Nat.strongRecOn with
            | _ j ihj =>
              intro hj
              cases hx : listed.getD j false with
              | true => rfl
              | false =>
                exfalso
                have hm2 : j ∈ Region.ready .any ops listed := by
                  refine mem_ready.2 ⟨?_, ops[j], by simp [hj], fun e he hb => ?_⟩
                  · have hlt : j < listed.size := by omega
                    simpa [hlt] using hx
                  · have hlt := hf.back (i := j) (by simp [hj]) e he hb
                    exact ihj e.on hlt (by omega)
                rw [hnil] at hm2
                cases hm2
          exact fun j hj => this j (by omega)
        · have him := hready i hi
          obtain ⟨hun, o, ho, hdep⟩ := mem_ready.1 hi
          have hio := (Array.getElem?_eq_some_iff.1 ho).1
          have hlt : i < listed.size := by omega
          have hli : listed[i] = false := by simpa [hlt] using hun
          have hl := looks_eq hf him (fun j h1 h2 => ⟨htl j h1 h2, by simp; omega⟩) ho hat (hfull v) hdep (fun e he hb => by have := hf.back ho e he hb; simp; omega)
          have hop := hops.get (k := i) (o := o) (by rw [List.getElem?_take_of_lt him]; simpa using ho)
          rw [Nat.zero_add] at hop
          have next : ∀ (x : Value) (u' : World), S u' ∧ G u u' ∧ R i x u' → any0 P ops Q fuel (listed.setIfInBounds i true) (b.put o.dst x) u' := by
            rintro x u' ⟨hS', hG, hRi⟩
            refine ih _ _ _ (updV v i x) (by simpa using hsz) (hc.set ho hdep) (fun j hj hjn => by rw [getD_set_ne false (by omega)]; exact htl j hj hjn) ?_ (hat.put hf ho x (fun j hj => getD_set_ne false (Ne.symm hj)) (by simp [hlt])) hS' ?_
            · rw [Array.toList_setIfInBounds, List.count_set (by simpa using hlt)]
              simp only [Array.getElem_toList, hli]
              simp only [BEq.rfl, if_true, show (false == true) = false from rfl, Bool.false_eq_true, if_false, Nat.sub_zero]
              omega
            · intro j hj hlj
              by_cases hji : j = i
              · subst hji; simpa [updV] using hRi
              · rw [getD_set_ne false (Ne.symm hji)] at hlj
                simp only [updV, if_neg hji]
                exact hstab _ _ _ _ hG (hR j hj hlj)
          have hR' : ∀ e ∈ o.after.toList, Region.binds .any e = true → R e.on (v e.on) u := fun e he hb => by
            have he' : e ∈ o.after := by simpa using he
            exact hR e.on (Nat.lt_trans (hf.back ho e he' hb) hio) (hdep e he' hb)
          have hsize : (aF v).tmps.size = b.tmps.size := (hfull v).2.1.trans hat.2.1.symm
          have h := hop v u hSu (waited_of hR') (fun a' w' => ∃ x, a' = (aF v).put o.dst x ∧ (S w' ∧ G u w' ∧ R i x w')) (fun x w' hx => ⟨x, rfl, hx⟩)
          rw [← wanted_same hl] at h
          unfold step0
          simp only [ho]
          split
          · rename_i hw
            rw [if_pos hw] at h
            exact wp_moved (exec_same (fun cs b => Region.noSelect_spec hf.sel i o cs b ho) hl).symm hsize h (fun x w' hx => next x w' hx)
          · rename_i hw
            rw [if_neg hw] at h
            obtain ⟨x, e, hx⟩ := h
            rw [put_same e hsize]
            exact next x u hx
  refine key _ _ _ _ (fun _ => undef) (by simp) ?_ ?_ (by omega) ?_ hS ?_
  · intro i o ho h
    have := (Array.getElem?_eq_some_iff.1 ho).1
    simp [this] at h
  · intro j _ hj
    simp [hj]
  · refine ⟨rfl, rfl, fun t _ => ?_⟩
    cases hp : putter ops t with
    | none => rfl
    | some j =>
      obtain ⟨oj, hoj, _⟩ := putter_some hp
      have := (Array.getElem?_eq_some_iff.1 hoj).1
      simp [this]
  · intro j hj h
    simp [hj] at h
theorem region_tail0 {id : Nat} {a : Act} {w : World} {Q : Exit → Act → World → Prop} (m : Nat) (aF : (Nat → Value) → Act) (S : World → Prop) (G : World → World → Prop) (R : Nat → Value → World → Prop)
    (hok : flatOkT ops m = true) (ht : tailOk ops m = true) (hmn : m ≤ ops.size) (haF : ∀ v, putsV (ops.toList.take m) 0 v a = aF v)
    (hstab : ∀ j x w w', G w w' → R j x w → R j x w') (hS : S w)
    (hops : FlatOps P ops aF S G R (ops.toList.take m) 0)
    (hQ : ∀ v w', S w' → holdAll R v w' m → seqOps P ops Q (ops.toList.drop m) (aF v) w') : (Code.region id ops false).wp P Q a w := by
  refine wp_region ?_
  have h := tail_core0 m aF S G R hok ht hmn haF hstab hS hops hQ
  have hback : ∀ (i : Nat) (o : Oper), ops[i]? = some o → ∀ e ∈ o.after, Region.binds .any e = true → e.on < i := fun i o ho e he hb => (flat_of hok).back ho e he hb
  rw [List.range_eq_range']
  exact seq_of_any0 hback ops.size 0 _ a w (by simp) (fun j hj => by simp [hj]) (by omega) h
end
end Go.Proofs.YtmnfmgoolimlmaaDoor
end
section
/- A drawn region as in XFlat, where a value's fact may end with the operation that takes it. -/
namespace Go.Proofs.YtmnfmgoolimlmaaDoor
open Go.RowKit
section
variable {P : Program} {ops : Array Oper}
/-! ### What a value stands for may end with the operation that takes it. -/
def FlatOpL (P : Program) (ops : Array Oper) (aF : (Nat → Value) → Act) (S : World → Prop) (G : Nat → World → World → Prop) (R : (Nat → Bool) → Nat → Value → World → Prop) (i : Nat) (o : Oper) : Prop :=
  ∀ L : Nat → Bool, L i = false → ∀ (v : Nat → Value) (w : World), S w → waited (R L) v w o.after.toList → ∀ K : Act → World → Prop, Hid (∀ x w', S w' ∧ G i w w' ∧ R L i x w' → K ((aF v).put o.dst x) w') →
    if Region.wanted o (yielded ops (aF v).tmps) then o.wp P (aF v) w K (fun _ _ _ => False) else K ((aF v).put o.dst undef) w
def FlatOpsL (P : Program) (ops : Array Oper) (aF : (Nat → Value) → Act) (S : World → Prop) (G : Nat → World → World → Prop) (R : (Nat → Bool) → Nat → Value → World → Prop) : List Oper → Nat → Prop
  | [], _ => True
  | o :: os, i => FlatOpL P ops aF S G R i o ∧ FlatOpsL P ops aF S G R os (i + 1)
theorem FlatOpsL.get {aF : (Nat → Value) → Act} {S : World → Prop} {G : Nat → World → World → Prop} {R : (Nat → Bool) → Nat → Value → World → Prop} : ∀ {os : List Oper} {i : Nat}, FlatOpsL P ops aF S G R os i → ∀ {k : Nat} {o : Oper}, os[k]? = some o → FlatOpL P ops aF S G R (i + k) o := by
  intro os
  induction os with
  | nil => intro i _ k o h; simp at h
  | cons x os ih =>
    intro i h k o hk
    cases k with
    | zero => simp at hk; subst hk; exact h.1
    | succ k =>
      rw [List.getElem?_cons_succ] at hk
      have := ih h.2 hk
      rw [show i + (k + 1) = i + 1 + k by omega]
      exact this
theorem flatL_core {a : Act} {w : World} {Q : Exit → Act → World → Prop} (aF : (Nat → Value) → Act) (S : World → Prop) (G : Nat → World → World → Prop) (R : (Nat → Bool) → Nat → Value → World → Prop)
    (hok : flatOk ops = true) (haF : ∀ v, putsV ops.toList 0 v a = aF v)
    (hstab : ∀ i L j x w w', L i = false → i ≠ j → G i w w' → R L j x w → R (fun k => decide (k = i) || L k) j x w') (hself : ∀ i L x w, L i = false → R L i x w → R (fun k => decide (k = i) || L k) i x w) (hS : S w.drew)
    (hops : FlatOpsL P ops aF S G R ops.toList 0)
    (hext : ∀ L L' j x w, (∀ k, k < ops.size → L k = L' k) → R L j x w → R L' j x w) (hQ : ∀ v w', S w' → holdAll (R fun _ => true) v w' ops.size → Q .normal (aF v) w') : any0 P ops Q ops.size (Array.replicate ops.size false) a w.drew := by
  have hf := flat_of hok
  have key : ∀ (fuel : Nat) (listed : Array Bool) (b : Act) (u : World) (v : Nat → Value), listed.size = ops.size → listed.toList.count false ≤ fuel → PutAt ops (fun j => listed.getD j false) v a b → S u →
      (∀ j, j < ops.size → listed.getD j false = true → R (fun k => listed.getD k false) j (v j) u) → any0 P ops Q fuel listed b u := by
    have hfin : ∀ (listed : Array Bool) (b : Act) (u : World) (v : Nat → Value), (∀ j, j < ops.size → listed.getD j false = true) → PutAt ops (fun j => listed.getD j false) v a b → S u →
        (∀ j, j < ops.size → listed.getD j false = true → R (fun k => listed.getD k false) j (v j) u) → Q .normal b u := by
      intro listed b u v hall hat hSu hR
      have e := (hat.congr (L' := fun _ => true) (v' := v) hall (fun _ _ _ => rfl)).ext (full_at hf v a)
      rw [e, haF v]
      exact hQ v u hSu (holdAll_of fun j hj => hext _ _ _ _ _ (fun k hk => hall k hk) (hR j hj (hall j hj)))
    intro fuel
    induction fuel with
    | zero =>
      intro listed b u v hsz hc hat hSu hR
      have hall : ∀ j, j < ops.size → listed.getD j false = true := by
        intro j hj
        have h0 := List.count_eq_zero.1 (Nat.le_zero.1 hc)
        cases hx : listed.getD j false with
        | true => rfl
        | false =>
          refine absurd ?_ h0
          have hlt : j < listed.size := by omega
          have : listed[j] = false := by simpa [hlt] using hx
          rw [← this]
          simp
      refine ⟨?_, hfin listed b u v hall hat hSu hR⟩
      refine List.filter_eq_nil_iff.2 fun i hi => ?_
      have hi2 := List.mem_range.1 hi
      have := hall i hi2
      have hlt : i < listed.size := by omega
      simp [hlt] at this ⊢
      simp [this]
    | succ fuel ih =>
      intro listed b u v hsz hc hat hSu hR
      refine ⟨fun hnil => hfin listed b u v ?_ hat hSu hR, fun i hi => ?_⟩
      · intro j
        induction j using Nat.strongRecOn with
        | _ j ihj =>
          intro hj
          cases hx : listed.getD j false with
          | true => rfl
          | false =>
            exfalso
            have hm2 : j ∈ Region.ready .any ops listed := by
              refine mem_ready.2 ⟨?_, ops[j], by simp [hj], fun e he hb => ?_⟩
              · have hlt : j < listed.size := by omega
                simpa [hlt] using hx
              · have hlt := hf.back (i := j) (by simp [hj]) e he hb
                exact ihj e.on hlt (by omega)
            rw [hnil] at hm2
            cases hm2
      · obtain ⟨hun, o, ho, hdep⟩ := mem_ready.1 hi
        have hio := (Array.getElem?_eq_some_iff.1 ho).1
        have hlt : i < listed.size := by omega
        have hli : listed[i] = false := by simpa [hlt] using hun
        have hfull := full_at hf v a
        rw [haF v] at hfull
        have hl := looks_eq hf hio (fun j h1 h2 => absurd h2 (by omega)) ho hat hfull hdep (fun _ _ _ => rfl)
        have hop := hops.get (k := i) (o := o) (by simpa using ho)
        rw [Nat.zero_add] at hop
        have next : ∀ (x : Value) (u' : World), S u' ∧ G i u u' ∧ R (fun k => listed.getD k false) i x u' → any0 P ops Q fuel (listed.setIfInBounds i true) (b.put o.dst x) u' := by
          rintro x u' ⟨hS', hG, hRi⟩
          refine ih _ _ _ (updV v i x) (by simpa using hsz) ?_ (hat.put hf ho x (fun j hj => getD_set_ne false (Ne.symm hj)) (by simp [hlt])) hS' ?_
          · rw [Array.toList_setIfInBounds, List.count_set (by simpa using hlt)]
            simp only [Array.getElem_toList, hli]
            have : 0 < listed.toList.count false := List.count_pos_iff.2 (by rw [← hli]; simp)
            simp only [BEq.rfl, if_true, show (true == false) = false from rfl, Bool.false_eq_true, if_false, Nat.add_zero]
            omega
          · intro j hj hlj
            have hL' : ∀ k, (listed.setIfInBounds i true).getD k false = (decide (k = i) || listed.getD k false) := fun k => by
              by_cases hki : k = i
              · subst hki; simp [hlt]
              · rw [getD_set_ne false (Ne.symm hki)]; simp [hki]
            have hLi : (fun k => listed.getD k false) i = false := by show listed.getD i false = false; simp [hlt, hli]
            refine hext (fun k => decide (k = i) || listed.getD k false) _ j _ u' (fun k _ => (hL' k).symm) ?_
            by_cases hji : j = i
            · subst hji
              simp only [updV, if_true]
              exact hself _ _ _ _ hLi hRi
            · rw [getD_set_ne false (Ne.symm hji)] at hlj
              simp only [updV, if_neg hji]
              exact hstab i _ j _ _ _ hLi (Ne.symm hji) hG (hR j hj hlj)
        have hR' : ∀ e ∈ o.after.toList, Region.binds .any e = true → R (fun k => listed.getD k false) e.on (v e.on) u := fun e he hb => by
          have he' : e ∈ o.after := by simpa using he
          exact hR e.on (Nat.lt_trans (hf.back ho e he' hb) hio) (hdep e he' hb)
        have hsize : (aF v).tmps.size = b.tmps.size := hfull.2.1.trans hat.2.1.symm
        have h := hop _ (by show listed.getD i false = false; simp [hlt, hli]) v u hSu (waited_of hR') (fun a' w' => ∃ x, a' = (aF v).put o.dst x ∧ (S w' ∧ G i u w' ∧ R (fun k => listed.getD k false) i x w')) (fun x w' hx => ⟨x, rfl, hx⟩)
        rw [← wanted_same hl] at h
        unfold step0
        simp only [ho]
        split
        · rename_i hw
          rw [if_pos hw] at h
          exact wp_moved (exec_same (fun cs b => Region.noSelect_spec hf.sel i o cs b ho) hl).symm hsize h (fun x w' hx => next x w' hx)
        · rename_i hw
          rw [if_neg hw] at h
          obtain ⟨x, e, hx⟩ := h
          rw [put_same e hsize]
          exact next x u hx
  refine key _ _ _ _ (fun _ => undef) (by simp) (by simp) ?_ hS ?_
  · refine ⟨rfl, rfl, fun t _ => ?_⟩
    cases hp : putter ops t with
    | none => rfl
    | some j =>
      obtain ⟨oj, hoj, _⟩ := putter_some hp
      have := (Array.getElem?_eq_some_iff.1 hoj).1
      simp [this]
  · intro j hj h
    simp [hj] at h
theorem region_flatL {id : Nat} {a : Act} {w : World} {Q : Exit → Act → World → Prop} (aF : (Nat → Value) → Act) (S : World → Prop) (G : Nat → World → World → Prop) (R : (Nat → Bool) → Nat → Value → World → Prop)
    (hm : P.follows .mixedOrders = true) (hok : flatOk ops = true) (haF : ∀ v, putsV ops.toList 0 v a = aF v)
    (hstab : ∀ i L j x w w', L i = false → i ≠ j → G i w w' → R L j x w → R (fun k => decide (k = i) || L k) j x w') (hself : ∀ i L x w, L i = false → R L i x w → R (fun k => decide (k = i) || L k) i x w) (hS : S w.drew)
    (hops : FlatOpsL P ops aF S G R ops.toList 0)
    (hext : ∀ L L' j x w, (∀ k, k < ops.size → L k = L' k) → R L j x w → R L' j x w) (hQ : ∀ v w', S w' → holdAll (R fun _ => true) v w' ops.size → Q .normal (aF v) w') : (Code.region id ops true).wp P Q a w :=
  wp_region_any hm (any0_any _ _ _ _ (flatL_core aF S G R hok haF hstab hself hS hops hext hQ))
end
end Go.Proofs.YtmnfmgoolimlmaaDoor
end
section
/- A drawn region as in XFlat2, where what holds of the world may hang on which operations have been carried out: a cell that the region loads first and stores into last. -/
namespace Go.Proofs.YtmnfmgoolimlmaaDoor
open Go.RowKit
section
variable {P : Program} {ops : Array Oper}
/-! ### What a value stands for may end with the operation that takes it. -/
def FlatOpS (P : Program) (ops : Array Oper) (aF : (Nat → Value) → Act) (S : (Nat → Bool) → World → Prop) (G : Nat → World → World → Prop) (R : (Nat → Bool) → Nat → Value → World → Prop) (i : Nat) (o : Oper) : Prop :=
  ∀ L : Nat → Bool, L i = false → (∀ p q, L p = true → reach ops ops.size p q = true → L q = true) → ∀ (v : Nat → Value) (w : World), S L w → waited (R L) v w o.after.toList → ∀ K : Act → World → Prop, Hid (∀ x w', S (fun k => decide (k = i) || L k) w' ∧ G i w w' ∧ R L i x w' → K ((aF v).put o.dst x) w') →
    if Region.wanted o (yielded ops (aF v).tmps) then o.wp P (aF v) w K (fun _ _ _ => False) else K ((aF v).put o.dst undef) w
def FlatOpsS (P : Program) (ops : Array Oper) (aF : (Nat → Value) → Act) (S : (Nat → Bool) → World → Prop) (G : Nat → World → World → Prop) (R : (Nat → Bool) → Nat → Value → World → Prop) : List Oper → Nat → Prop
  | [], _ => True
  | o :: os, i => FlatOpS P ops aF S G R i o ∧ FlatOpsS P ops aF S G R os (i + 1)
theorem FlatOpsS.get {aF : (Nat → Value) → Act} {S : (Nat → Bool) → World → Prop} {G : Nat → World → World → Prop} {R : (Nat → Bool) → Nat → Value → World → Prop} : ∀ {os : List Oper} {i : Nat}, FlatOpsS P ops aF S G R os i → ∀ {k : Nat} {o : Oper}, os[k]? = some o → FlatOpS P ops aF S G R (i + k) o := by
  intro os
  induction os with
  | nil => intro i _ k o h; simp at h
  | cons x os ih =>
    intro i h k o hk
    cases k with
    | zero => simp at hk; subst hk; exact h.1
    | succ k =>
      rw [List.getElem?_cons_succ] at hk
      have := ih h.2 hk
      rw [show i + (k + 1) = i + 1 + k by omega]
      exact this
theorem flatS_core {a : Act} {w : World} {Q : Exit → Act → World → Prop} (aF : (Nat → Value) → Act) (S : (Nat → Bool) → World → Prop) (G : Nat → World → World → Prop) (R : (Nat → Bool) → Nat → Value → World → Prop)
    (hok : flatOk ops = true) (haF : ∀ v, putsV ops.toList 0 v a = aF v)
    (hstab : ∀ i L j x w w', L i = false → i ≠ j → G i w w' → R L j x w → R (fun k => decide (k = i) || L k) j x w') (hself : ∀ i L x w, L i = false → R L i x w → R (fun k => decide (k = i) || L k) i x w) (hS : S (fun _ => false) w.drew)
    (hops : FlatOpsS P ops aF S G R ops.toList 0)
    (hext : ∀ L L' j x w, (∀ k, k < ops.size → L k = L' k) → R L j x w → R L' j x w) (hextS : ∀ L L' w, (∀ k, k < ops.size → L k = L' k) → S L w → S L' w) (hQ : ∀ v w', S (fun _ => true) w' → holdAll (R fun _ => true) v w' ops.size → Q .normal (aF v) w') : any0 P ops Q ops.size (Array.replicate ops.size false) a w.drew := by
  have hf := flat_of hok
  have key : ∀ (fuel : Nat) (listed : Array Bool) (b : Act) (u : World) (v : Nat → Value), listed.size = ops.size → listed.toList.count false ≤ fuel → PutAt ops (fun j => listed.getD j false) v a b → Closed ops listed → S (fun k => listed.getD k false) u →
      (∀ j, j < ops.size → listed.getD j false = true → R (fun k => listed.getD k false) j (v j) u) → any0 P ops Q fuel listed b u := by
    have hfin : ∀ (listed : Array Bool) (b : Act) (u : World) (v : Nat → Value), (∀ j, j < ops.size → listed.getD j false = true) → PutAt ops (fun j => listed.getD j false) v a b → S (fun k => listed.getD k false) u →
        (∀ j, j < ops.size → listed.getD j false = true → R (fun k => listed.getD k false) j (v j) u) → Q .normal b u := by
      intro listed b u v hall hat hSu hR
      have e := (hat.congr (L' := fun _ => true) (v' := v) hall (fun _ _ _ => rfl)).ext (full_at hf v a)
      rw [e, haF v]
      exact hQ v u (hextS _ _ _ (fun k hk => hall k hk) hSu) (holdAll_of fun j hj => hext _ _ _ _ _ (fun k hk => hall k hk) (hR j hj (hall j hj)))
    intro fuel
    induction fuel with
    | zero =>
      intro listed b u v hsz hc hat hcl hSu hR
      have hall : ∀ j, j < ops.size → listed.getD j false = true := by
        intro j hj
        have h0 := List.count_eq_zero.1 (Nat.le_zero.1 hc)
        cases hx : listed.getD j false with
        | true => rfl
        | false =>
          refine absurd ?_ h0
          have hlt : j < listed.size := by omega
          have : listed[j] = false := by simpa [hlt] using hx
          rw [← this]
          simp
      refine ⟨?_, hfin listed b u v hall hat hSu hR⟩
      refine List.filter_eq_nil_iff.2 fun i hi => ?_
      have hi2 := List.mem_range.1 hi
      have := hall i hi2
      have hlt : i < listed.size := by omega
      simp [hlt] at this ⊢
      simp [this]
    | succ fuel ih =>
      intro listed b u v hsz hc hat hcl hSu hR
      refine ⟨fun hnil => hfin listed b u v ?_ hat hSu hR, fun i hi => ?_⟩
      · intro j
        induction j using Nat.strongRecOn with
        | _ j ihj =>
          intro hj
          cases hx : listed.getD j false with
          | true => rfl
          | false =>
            exfalso
            have hm2 : j ∈ Region.ready .any ops listed := by
              refine mem_ready.2 ⟨?_, ops[j], by simp [hj], fun e he hb => ?_⟩
              · have hlt : j < listed.size := by omega
                simpa [hlt] using hx
              · have hlt := hf.back (i := j) (by simp [hj]) e he hb
                exact ihj e.on hlt (by omega)
            rw [hnil] at hm2
            cases hm2
      · obtain ⟨hun, o, ho, hdep⟩ := mem_ready.1 hi
        have hio := (Array.getElem?_eq_some_iff.1 ho).1
        have hlt : i < listed.size := by omega
        have hli : listed[i] = false := by simpa [hlt] using hun
        have hfull := full_at hf v a
        rw [haF v] at hfull
        have hl := looks_eq hf hio (fun j h1 h2 => absurd h2 (by omega)) ho hat hfull hdep (fun _ _ _ => rfl)
        have hop := hops.get (k := i) (o := o) (by simpa using ho)
        rw [Nat.zero_add] at hop
        have hL'0 : ∀ k, (listed.setIfInBounds i true).getD k false = (decide (k = i) || listed.getD k false) := fun k => by
          by_cases hki : k = i
          · subst hki; simp [hlt]
          · rw [getD_set_ne false (Ne.symm hki)]; simp [hki]
        have next : ∀ (x : Value) (u' : World), S (fun k => decide (k = i) || listed.getD k false) u' ∧ G i u u' ∧ R (fun k => listed.getD k false) i x u' → any0 P ops Q fuel (listed.setIfInBounds i true) (b.put o.dst x) u' := by
          rintro x u' ⟨hS', hG, hRi⟩
          refine ih _ _ _ (updV v i x) (by simpa using hsz) ?_ (hat.put hf ho x (fun j hj => getD_set_ne false (Ne.symm hj)) (by simp [hlt])) (hcl.set ho hdep) (hextS _ _ _ (fun k _ => (hL'0 k).symm) hS') ?_
          · rw [Array.toList_setIfInBounds, List.count_set (by simpa using hlt)]
            simp only [Array.getElem_toList, hli]
            have : 0 < listed.toList.count false := List.count_pos_iff.2 (by rw [← hli]; simp)
            simp only [BEq.rfl, if_true, show (true == false) = false from rfl, Bool.false_eq_true, if_false, Nat.add_zero]
            omega
          · intro j hj hlj
            have hL' : ∀ k, (listed.setIfInBounds i true).getD k false = (decide (k = i) || listed.getD k false) := fun k => by
              by_cases hki : k = i
              · subst hki; simp [hlt]
              · rw [getD_set_ne false (Ne.symm hki)]; simp [hki]
            have hLi : (fun k => listed.getD k false) i = false := by show listed.getD i false = false; simp [hlt, hli]
            refine hext (fun k => decide (k = i) || listed.getD k false) _ j _ u' (fun k _ => (hL' k).symm) ?_
            by_cases hji : j = i
            · subst hji
              simp only [updV, if_true]
              exact hself _ _ _ _ hLi hRi
            · rw [getD_set_ne false (Ne.symm hji)] at hlj
              simp only [updV, if_neg hji]
              exact hstab i _ j _ _ _ hLi (Ne.symm hji) hG (hR j hj hlj)
        have hR' : ∀ e ∈ o.after.toList, Region.binds .any e = true → R (fun k => listed.getD k false) e.on (v e.on) u := fun e he hb => by
          have he' : e ∈ o.after := by simpa using he
          exact hR e.on (Nat.lt_trans (hf.back ho e he' hb) hio) (hdep e he' hb)
        have hsize : (aF v).tmps.size = b.tmps.size := hfull.2.1.trans hat.2.1.symm
        have hclL : ∀ p q, listed.getD p false = true → reach ops ops.size p q = true → listed.getD q false = true := fun p q hp hq => by
          cases hop : ops[p]? with
          | none => unfold reach at hq; cases hz : ops.size with | zero => rw [hz] at hq; cases hq | succ n => rw [hz] at hq; simp [hop] at hq
          | some o' => exact reach_listed hcl ops.size p q o' hop (hcl p o' hop hp) hq
        have h := hop _ (by show listed.getD i false = false; simp [hlt, hli]) hclL v u hSu (waited_of hR') (fun a' w' => ∃ x, a' = (aF v).put o.dst x ∧ (S (fun k => decide (k = i) || listed.getD k false) w' ∧ G i u w' ∧ R (fun k => listed.getD k false) i x w')) (fun x w' hx => ⟨x, rfl, hx⟩)
        rw [← wanted_same hl] at h
        unfold step0
        simp only [ho]
        split
        · rename_i hw
          rw [if_pos hw] at h
          exact wp_moved (exec_same (fun cs b => Region.noSelect_spec hf.sel i o cs b ho) hl).symm hsize h (fun x w' hx => next x w' hx)
        · rename_i hw
          rw [if_neg hw] at h
          obtain ⟨x, e, hx⟩ := h
          rw [put_same e hsize]
          exact next x u hx
  refine key _ _ _ _ (fun _ => undef) (by simp) (by simp) ?_ ?_ (hextS _ _ _ (fun k hk => by simp [hk]) hS) ?_
  · refine ⟨rfl, rfl, fun t _ => ?_⟩
    cases hp : putter ops t with
    | none => rfl
    | some j =>
      obtain ⟨oj, hoj, _⟩ := putter_some hp
      have := (Array.getElem?_eq_some_iff.1 hoj).1
      simp [this]
  · intro i o ho h
    have h9 := (Array.getElem?_eq_some_iff.1 ho).1
    simp [h9] at h
  · intro j hj h
    simp [hj] at h
theorem region_flatS {id : Nat} {a : Act} {w : World} {Q : Exit → Act → World → Prop} (aF : (Nat → Value) → Act) (S : (Nat → Bool) → World → Prop) (G : Nat → World → World → Prop) (R : (Nat → Bool) → Nat → Value → World → Prop)
    (hm : P.follows .mixedOrders = true) (hok : flatOk ops = true) (haF : ∀ v, putsV ops.toList 0 v a = aF v)
    (hstab : ∀ i L j x w w', L i = false → i ≠ j → G i w w' → R L j x w → R (fun k => decide (k = i) || L k) j x w') (hself : ∀ i L x w, L i = false → R L i x w → R (fun k => decide (k = i) || L k) i x w) (hS : S (fun _ => false) w.drew)
    (hops : FlatOpsS P ops aF S G R ops.toList 0)
    (hext : ∀ L L' j x w, (∀ k, k < ops.size → L k = L' k) → R L j x w → R L' j x w) (hextS : ∀ L L' w, (∀ k, k < ops.size → L k = L' k) → S L w → S L' w) (hQ : ∀ v w', S (fun _ => true) w' → holdAll (R fun _ => true) v w' ops.size → Q .normal (aF v) w') : (Code.region id ops true).wp P Q a w :=
  wp_region_any hm (any0_any _ _ _ _ (flatS_core aF S G R hok haF hstab hself hS hops hext hextS hQ))
end
end Go.Proofs.YtmnfmgoolimlmaaDoor
end
section
/- A drawn region as in XFlat3, where what holds of the world may hang on the values that have been put: blocks that are made in any order. -/
namespace Go.Proofs.YtmnfmgoolimlmaaDoor
open Go.RowKit
section
variable {P : Program} {ops : Array Oper}
/-! ### What a value stands for may end with the operation that takes it. -/
def FlatOpV (P : Program) (ops : Array Oper) (aF : (Nat → Value) → Act) (S : (Nat → Bool) → (Nat → Value) → World → Prop) (G : Nat → World → World → Prop) (R : (Nat → Bool) → Nat → Value → World → Prop) (i : Nat) (o : Oper) : Prop :=
  ∀ L : Nat → Bool, L i = false → (∀ p q, L p = true → reach ops ops.size p q = true → L q = true) → ∀ (v : Nat → Value) (w : World), S L v w → waited (R L) v w o.after.toList → ∀ K : Act → World → Prop, Hid (∀ x w', S (fun k => decide (k = i) || L k) (updV v i x) w' ∧ G i w w' ∧ R L i x w' → K ((aF v).put o.dst x) w') →
    if Region.wanted o (yielded ops (aF v).tmps) then o.wp P (aF v) w K (fun _ _ _ => False) else K ((aF v).put o.dst undef) w
def FlatOpsV (P : Program) (ops : Array Oper) (aF : (Nat → Value) → Act) (S : (Nat → Bool) → (Nat → Value) → World → Prop) (G : Nat → World → World → Prop) (R : (Nat → Bool) → Nat → Value → World → Prop) : List Oper → Nat → Prop
  | [], _ => True
  | o :: os, i => FlatOpV P ops aF S G R i o ∧ FlatOpsV P ops aF S G R os (i + 1)
theorem FlatOpsV.get {aF : (Nat → Value) → Act} {S : (Nat → Bool) → (Nat → Value) → World → Prop} {G : Nat → World → World → Prop} {R : (Nat → Bool) → Nat → Value → World → Prop} : ∀ {os : List Oper} {i : Nat}, FlatOpsV P ops aF S G R os i → ∀ {k : Nat} {o : Oper}, os[k]? = some o → FlatOpV P ops aF S G R (i + k) o := by
  intro os
  induction os with
  | nil => intro i _ k o h; simp at h
  | cons x os ih =>
    intro i h k o hk
    cases k with
    | zero => simp at hk; subst hk; exact h.1
    | succ k =>
      rw [List.getElem?_cons_succ] at hk
      have := ih h.2 hk
      rw [show i + (k + 1) = i + 1 + k by omega]
      exact this
theorem flatV_core {a : Act} {w : World} {Q : Exit → Act → World → Prop} (aF : (Nat → Value) → Act) (S : (Nat → Bool) → (Nat → Value) → World → Prop) (G : Nat → World → World → Prop) (R : (Nat → Bool) → Nat → Value → World → Prop)
    (hok : flatOk ops = true) (haF : ∀ v, putsV ops.toList 0 v a = aF v)
    (hstab : ∀ i L j x w w', L i = false → i ≠ j → G i w w' → R L j x w → R (fun k => decide (k = i) || L k) j x w') (hself : ∀ i L x w, L i = false → R L i x w → R (fun k => decide (k = i) || L k) i x w) (hS : S (fun _ => false) (fun _ => undef) w)
    (hops : FlatOpsV P ops aF S G R ops.toList 0)
    (hext : ∀ L L' j x w, (∀ k, k < ops.size → L k = L' k) → R L j x w → R L' j x w) (hextS : ∀ L L' v w, (∀ k, k < ops.size → L k = L' k) → S L v w → S L' v w) (hQ : ∀ v w', S (fun _ => true) v w' → holdAll (R fun _ => true) v w' ops.size → Q .normal (aF v) w') : any0 P ops Q ops.size (Array.replicate ops.size false) a w := by
  have hf := flat_of hok
  have key : ∀ (fuel : Nat) (listed : Array Bool) (b : Act) (u : World) (v : Nat → Value), listed.size = ops.size → listed.toList.count false ≤ fuel → PutAt ops (fun j => listed.getD j false) v a b → Closed ops listed → S (fun k => listed.getD k false) v u →
      (∀ j, j < ops.size → listed.getD j false = true → R (fun k => listed.getD k false) j (v j) u) → any0 P ops Q fuel listed b u := by
    have hfin : ∀ (listed : Array Bool) (b : Act) (u : World) (v : Nat → Value), (∀ j, j < ops.size → listed.getD j false = true) → PutAt ops (fun j => listed.getD j false) v a b → S (fun k => listed.getD k false) v u →
        (∀ j, j < ops.size → listed.getD j false = true → R (fun k => listed.getD k false) j (v j) u) → Q .normal b u := by
      intro listed b u v hall hat hSu hR
      have e := (hat.congr (L' := fun _ => true) (v' := v) hall (fun _ _ _ => rfl)).ext (full_at hf v a)
      rw [e, haF v]
      exact hQ v u (hextS _ _ _ _ (fun k hk => hall k hk) hSu) (holdAll_of fun j hj => hext _ _ _ _ _ (fun k hk => hall k hk) (hR j hj (hall j hj)))
    intro fuel
    induction fuel with
    | zero =>
      intro listed b u v hsz hc hat hcl hSu hR
      have hall : ∀ j, j < ops.size → listed.getD j false = true := by
        intro j hj
        have h0 := List.count_eq_zero.1 (Nat.le_zero.1 hc)
        cases hx : listed.getD j false with
        | true => rfl
        | false =>
          refine absurd ?_ h0
          have hlt : j < listed.size := by omega
          have : listed[j] = false := by simpa [hlt] using hx
          rw [← this]
          simp
      refine ⟨?_, hfin listed b u v hall hat hSu hR⟩
      refine List.filter_eq_nil_iff.2 fun i hi => ?_
      have hi2 := List.mem_range.1 hi
      have := hall i hi2
      have hlt : i < listed.size := by omega
      simp [hlt] at this ⊢
      simp [this]
    | succ fuel ih =>
      intro listed b u v hsz hc hat hcl hSu hR
      refine ⟨fun hnil => hfin listed b u v ?_ hat hSu hR, fun i hi => ?_⟩
      · intro j
        induction j using Nat.strongRecOn with
        | _ j ihj =>
          intro hj
          cases hx : listed.getD j false with
          | true => rfl
          | false =>
            exfalso
            have hm2 : j ∈ Region.ready .any ops listed := by
              refine mem_ready.2 ⟨?_, ops[j], by simp [hj], fun e he hb => ?_⟩
              · have hlt : j < listed.size := by omega
                simpa [hlt] using hx
              · have hlt := hf.back (i := j) (by simp [hj]) e he hb
                exact ihj e.on hlt (by omega)
            rw [hnil] at hm2
            cases hm2
      · obtain ⟨hun, o, ho, hdep⟩ := mem_ready.1 hi
        have hio := (Array.getElem?_eq_some_iff.1 ho).1
        have hlt : i < listed.size := by omega
        have hli : listed[i] = false := by simpa [hlt] using hun
        have hfull := full_at hf v a
        rw [haF v] at hfull
        have hl := looks_eq hf hio (fun j h1 h2 => absurd h2 (by omega)) ho hat hfull hdep (fun _ _ _ => rfl)
        have hop := hops.get (k := i) (o := o) (by simpa using ho)
        rw [Nat.zero_add] at hop
        have hL'0 : ∀ k, (listed.setIfInBounds i true).getD k false = (decide (k = i) || listed.getD k false) := fun k => by
          by_cases hki : k = i
          · subst hki; simp [hlt]
          · rw [getD_set_ne false (Ne.symm hki)]; simp [hki]
        have next : ∀ (x : Value) (u' : World), S (fun k => decide (k = i) || listed.getD k false) (updV v i x) u' ∧ G i u u' ∧ R (fun k => listed.getD k false) i x u' → any0 P ops Q fuel (listed.setIfInBounds i true) (b.put o.dst x) u' := by
          rintro x u' ⟨hS', hG, hRi⟩
          refine ih _ _ _ (updV v i x) (by simpa using hsz) ?_ (hat.put hf ho x (fun j hj => getD_set_ne false (Ne.symm hj)) (by simp [hlt])) (hcl.set ho hdep) (hextS _ _ _ _ (fun k _ => (hL'0 k).symm) hS') ?_
          · rw [Array.toList_setIfInBounds, List.count_set (by simpa using hlt)]
            simp only [Array.getElem_toList, hli]
            have : 0 < listed.toList.count false := List.count_pos_iff.2 (by rw [← hli]; simp)
            simp only [BEq.rfl, if_true, show (true == false) = false from rfl, Bool.false_eq_true, if_false, Nat.add_zero]
            omega
          · intro j hj hlj
            have hL' : ∀ k, (listed.setIfInBounds i true).getD k false = (decide (k = i) || listed.getD k false) := fun k => by
              by_cases hki : k = i
              · subst hki; simp [hlt]
              · rw [getD_set_ne false (Ne.symm hki)]; simp [hki]
            have hLi : (fun k => listed.getD k false) i = false := by show listed.getD i false = false; simp [hlt, hli]
            refine hext (fun k => decide (k = i) || listed.getD k false) _ j _ u' (fun k _ => (hL' k).symm) ?_
            by_cases hji : j = i
            · subst hji
              simp only [updV, if_true]
              exact hself _ _ _ _ hLi hRi
            · rw [getD_set_ne false (Ne.symm hji)] at hlj
              simp only [updV, if_neg hji]
              exact hstab i _ j _ _ _ hLi (Ne.symm hji) hG (hR j hj hlj)
        have hR' : ∀ e ∈ o.after.toList, Region.binds .any e = true → R (fun k => listed.getD k false) e.on (v e.on) u := fun e he hb => by
          have he' : e ∈ o.after := by simpa using he
          exact hR e.on (Nat.lt_trans (hf.back ho e he' hb) hio) (hdep e he' hb)
        have hsize : (aF v).tmps.size = b.tmps.size := hfull.2.1.trans hat.2.1.symm
        have hclL : ∀ p q, listed.getD p false = true → reach ops ops.size p q = true → listed.getD q false = true := fun p q hp hq => by
          cases hop : ops[p]? with
          | none => unfold reach at hq; cases hz : ops.size with | zero => rw [hz] at hq; cases hq | succ n => rw [hz] at hq; simp [hop] at hq
          | some o' => exact reach_listed hcl ops.size p q o' hop (hcl p o' hop hp) hq
        have h := hop _ (by show listed.getD i false = false; simp [hlt, hli]) hclL v u hSu (waited_of hR') (fun a' w' => ∃ x, a' = (aF v).put o.dst x ∧ (S (fun k => decide (k = i) || listed.getD k false) (updV v i x) w' ∧ G i u w' ∧ R (fun k => listed.getD k false) i x w')) (fun x w' hx => ⟨x, rfl, hx⟩)
        rw [← wanted_same hl] at h
        unfold step0
        simp only [ho]
        split
        · rename_i hw
          rw [if_pos hw] at h
          exact wp_moved (exec_same (fun cs b => Region.noSelect_spec hf.sel i o cs b ho) hl).symm hsize h (fun x w' hx => next x w' hx)
        · rename_i hw
          rw [if_neg hw] at h
          obtain ⟨x, e, hx⟩ := h
          rw [put_same e hsize]
          exact next x u hx
  refine key _ _ _ _ (fun _ => undef) (by simp) (by simp) ?_ ?_ (hextS _ _ _ _ (fun k hk => by simp [hk]) hS) ?_
  · refine ⟨rfl, rfl, fun t _ => ?_⟩
    cases hp : putter ops t with
    | none => rfl
    | some j =>
      obtain ⟨oj, hoj, _⟩ := putter_some hp
      have := (Array.getElem?_eq_some_iff.1 hoj).1
      simp [this]
  · intro i o ho h
    have h9 := (Array.getElem?_eq_some_iff.1 ho).1
    simp [h9] at h
  · intro j hj h
    simp [hj] at h
theorem region_flatV {id : Nat} {a : Act} {w : World} {Q : Exit → Act → World → Prop} (aF : (Nat → Value) → Act) (S : (Nat → Bool) → (Nat → Value) → World → Prop) (G : Nat → World → World → Prop) (R : (Nat → Bool) → Nat → Value → World → Prop)
    (hm : P.follows .mixedOrders = true) (hok : flatOk ops = true) (haF : ∀ v, putsV ops.toList 0 v a = aF v)
    (hstab : ∀ i L j x w w', L i = false → i ≠ j → G i w w' → R L j x w → R (fun k => decide (k = i) || L k) j x w') (hself : ∀ i L x w, L i = false → R L i x w → R (fun k => decide (k = i) || L k) i x w) (hS : S (fun _ => false) (fun _ => undef) w.drew)
    (hops : FlatOpsV P ops aF S G R ops.toList 0)
    (hext : ∀ L L' j x w, (∀ k, k < ops.size → L k = L' k) → R L j x w → R L' j x w) (hextS : ∀ L L' v w, (∀ k, k < ops.size → L k = L' k) → S L v w → S L' v w) (hQ : ∀ v w', S (fun _ => true) v w' → holdAll (R fun _ => true) v w' ops.size → Q .normal (aF v) w') : (Code.region id ops true).wp P Q a w :=
  wp_region_any hm (any0_any _ _ _ _ (flatV_core aF S G R hok haF hstab hself hS hops hext hextS hQ))
end
end Go.Proofs.YtmnfmgoolimlmaaDoor
end
section
/- A drawn region, its operations looked at one behind the other, in the text's order; the values come out of the walk. -/
namespace Go.Proofs.YtmnfmgoolimlmaaDoor
open Go.RowKit
section
variable {P : Program} {ops : Array Oper}
/-- What is told of a value that is fixed. -/
def eqv (x : Value) : Value → World → Prop := fun v _ => v = x
/-- What is told of the j-th value, i of them told, the last one first. -/
def relR (acc : List (Value → World → Prop)) (i j : Nat) : Value → World → Prop := acc.getD (i - 1 - j) fun _ _ => True
/-- What is told of those that are named. -/
def held (acc : List (Value → World → Prop)) (i : Nat) (v : Nat → Value) (w : World) : List Nat → Prop
  | [] => True
  | [j] => relR acc i j (v j) w
  | j :: js => relR acc i j (v j) w ∧ held acc i v w js
theorem held_of {acc : List (Value → World → Prop)} {i : Nat} {v : Nat → Value} {w : World} : ∀ {l : List Nat}, (∀ j ∈ l, relR acc i j (v j) w) → held acc i v w l
  | [], _ => trivial
  | [j], h => h j (by simp)
  | j :: k :: l, h => ⟨h j (by simp), held_of fun x hx => h x (by simp [hx])⟩
/-- One behind the other: what each puts, told by what is told of those before it. -/
def FlatE (P : Program) (ops : Array Oper) (aF : (Nat → Value) → Act) (S : (Nat → Bool) → (Nat → Value) → World → Prop) (G : Nat → World → World → Prop) (Q : Exit → Act → World → Prop) : List Oper → Nat → List (Value → World → Prop) → Prop
  | [], i, acc => ∀ v w', S (fun _ => true) v w' → holdAll (relR acc i) v w' i → Q .normal (aF v) w'
  | o :: os, i, acc => ∃ Ri : Value → World → Prop, (∀ j x w w', j ≠ i → G j w w' → Ri x w → Ri x w') ∧ FlatOpV P ops aF S G (fun _ => relR (Ri :: acc) (i + 1)) i o ∧ FlatE P ops aF S G Q os (i + 1) (Ri :: acc)
variable {aF : (Nat → Value) → Act} {S : (Nat → Bool) → (Nat → Value) → World → Prop} {G : Nat → World → World → Prop} {Q : Exit → Act → World → Prop}
theorem relR_old {acc : List (Value → World → Prop)} {R : Value → World → Prop} {i j : Nat} (h : j < i) : relR (R :: acc) (i + 1) j = relR acc i j := by
  unfold relR
  rw [show i + 1 - 1 - j = (i - 1 - j) + 1 by omega, List.getD_cons_succ]
theorem relR_new {acc : List (Value → World → Prop)} {R : Value → World → Prop} {i : Nat} : relR (R :: acc) (i + 1) i = R := by
  unfold relR
  rw [show i + 1 - 1 - i = 0 by omega, List.getD_cons_zero]
theorem waited_congr {R R' : Nat → Value → World → Prop} {v : Nat → Value} {w : World} : ∀ {l : List Edge}, (∀ e ∈ l, Region.binds .any e = true → R e.on = R' e.on) → waited R v w l → waited R' v w l
  | [], _, _ => trivial
  | e :: l, h, hw => ⟨fun hb => by rw [← h e (by simp) hb]; exact hw.1 hb, waited_congr (fun x hx => h x (by simp [hx])) hw.2⟩
theorem waited_get {R : Nat → Value → World → Prop} {v : Nat → Value} {w : World} : ∀ {l : List Edge}, waited R v w l → ∀ e ∈ l, Region.binds .any e = true → R e.on (v e.on) w
  | e :: l, h, x, hx, hb => by
    rcases List.mem_cons.1 hx with rfl | hx
    · exact h.1 hb
    · exact waited_get h.2 x hx hb
theorem flatOpV_congr {R R' : (Nat → Bool) → Nat → Value → World → Prop} {i : Nat} {o : Oper} (h : FlatOpV P ops aF S G R i o) (hi : ∀ L, R L i = R' L i) (he : ∀ L, ∀ e ∈ o.after.toList, Region.binds .any e = true → R L e.on = R' L e.on) : FlatOpV P ops aF S G R' i o := by
  intro L h1 h2 v w hS hw K hK
  exact h L h1 h2 v w hS (waited_congr (fun e hm hb => (he L e hm hb).symm) hw) K (fun x w' hx => Hid.out hK x w' ⟨hx.1, hx.2.1, by rw [← hi]; exact hx.2.2⟩)
theorem flatE_gather (hf : Flat ops ops.size) : ∀ (os : List Oper) (i : Nat) (acc : List (Value → World → Prop)), i ≤ ops.size → ops.toList.drop i = os → (∀ k, k < i → ∀ j x w w', j ≠ k → G j w w' → relR acc i k x w → relR acc i k x w') →
    FlatE P ops aF S G Q os i acc → ∃ all : Nat → Value → World → Prop, (∀ k, k < i → all k = relR acc i k) ∧ (∀ k j x w w', k < ops.size → j ≠ k → G j w w' → all k x w → all k x w') ∧ FlatOpsV P ops aF S G (fun _ => all) os i ∧
      ∀ v w', S (fun _ => true) v w' → holdAll all v w' ops.size → Q .normal (aF v) w' := by
  intro os
  induction os with
  | nil =>
    intro i acc hi hd hst h
    obtain rfl : i = ops.size := by
      have := congrArg List.length hd
      simp at this
      omega
    exact ⟨relR acc ops.size, fun _ _ => rfl, fun k j x w w' hk => hst k hk j x w w', trivial, h⟩
  | cons o os ih =>
    intro i acc hi hd hst h
    obtain ⟨Ri, h1, h2, h3⟩ := h
    have hi' : i < ops.size := by
      have := congrArg List.length hd
      simp at this
      omega
    have ho : ops[i]? = some o := by
      have := congrArg (·[0]?) hd
      simp only [List.getElem?_drop, Nat.add_zero, List.getElem?_cons_zero, Array.getElem?_toList] at this
      exact this
    have hd' : ops.toList.drop (i + 1) = os := by
      have := congrArg (List.drop 1) hd
      simpa [List.drop_drop] using this
    obtain ⟨all, k1, k2, k3, k4⟩ := ih (i + 1) (Ri :: acc) (by omega) hd' (fun k hk j x w w' hj hg hr => by
      rcases Nat.lt_or_ge k i with hki | hki
      · rw [relR_old hki] at hr ⊢
        exact hst k hki j x w w' hj hg hr
      · obtain rfl : k = i := by omega
        rw [relR_new] at hr ⊢
        exact h1 j x w w' hj hg hr) h3
    refine ⟨all, fun k hk => by rw [k1 k (by omega), relR_old hk], k2, ⟨flatOpV_congr h2 (fun _ => (k1 i (by omega)).symm) (fun _ e he hb => ?_), k3⟩, k4⟩
    have := hf.back ho e (by simpa using he) hb
    exact (k1 _ (by omega)).symm
theorem flatE_rel (hf : Flat ops ops.size) (h : FlatE P ops aF S G Q ops.toList 0 []) : ∃ all : Nat → Value → World → Prop, (∀ i L j x w w', L i = false → i ≠ j → G i w w' → (fun _ : Nat → Bool => all) L j x w → (fun _ : Nat → Bool => all) (fun k => decide (k = i) || L k) j x w') ∧ FlatOpsV P ops aF S G (fun _ => all) ops.toList 0 ∧
      ∀ v w', S (fun _ => true) v w' → holdAll all v w' ops.size → Q .normal (aF v) w' := by
  obtain ⟨all, -, h2, h3, h4⟩ := flatE_gather hf ops.toList 0 [] (Nat.zero_le _) rfl (fun k hk => by omega) h
  refine ⟨fun j => if j < ops.size then all j else fun _ _ => True, ?_, ?_, ?_⟩
  · intro i L j x w w' _ hij hg hr
    by_cases hj : j < ops.size
    · have hr' : all j x w := by have h9 := hr; simp only [if_pos hj] at h9; exact h9
      show (if j < ops.size then all j else fun _ _ => True) x w'
      rw [if_pos hj]
      exact h2 j i x w w' hj hij hg hr'
    · show (if j < ops.size then all j else fun _ _ => True) x w'
      rw [if_neg hj]
      trivial
  · have : ∀ (os : List Oper) (i : Nat), ops.toList.drop i = os → FlatOpsV P ops aF S G (fun _ => all) os i → FlatOpsV P ops aF S G (fun _ j => if j < ops.size then all j else fun _ _ => True) os i := by
      intro os
      induction os with
      | nil => intro i _ _; trivial
      | cons o os ih =>
        intro i hd h
        have hi' : i < ops.size := by
          have := congrArg List.length hd
          simp at this
          omega
        have ho : ops[i]? = some o := by
          have := congrArg (·[0]?) hd
          simp only [List.getElem?_drop, Nat.add_zero, List.getElem?_cons_zero, Array.getElem?_toList] at this
          exact this
        refine ⟨flatOpV_congr h.1 (fun _ => by show all i = if i < ops.size then all i else _; rw [if_pos hi']) (fun _ e he hb => ?_), ih (i + 1) (by have := congrArg (List.drop 1) hd; simpa [List.drop_drop] using this) h.2⟩
        have := hf.back ho e (by simpa using he) hb
        show all e.on = if e.on < ops.size then all e.on else _
        rw [if_pos (by omega)]
    exact this _ 0 rfl h3
  · intro v w' hS hh
    refine h4 v w' hS ?_
    have : ∀ n, n ≤ ops.size → holdAll (fun j => if j < ops.size then all j else fun _ _ => True) v w' n → holdAll all v w' n := by
      intro n
      induction n with
      | zero => intro _ _; trivial
      | succ n ih =>
        intro hn h
        refine ⟨ih (by omega) h.1, ?_⟩
        have h9 : (if n < ops.size then all n else fun _ _ => True) (v n) w' := h.2
        rw [if_pos (by omega)] at h9
        exact h9
    exact this _ (Nat.le_refl _) hh
/-- The law: a region that draws its order. -/
theorem region_auto {id : Nat} {a : Act} {w : World} (S : (Nat → Bool) → (Nat → Value) → World → Prop) (G : Nat → World → World → Prop) (aF : (Nat → Value) → Act)
    (hm : P.follows .mixedOrders = true) (hok : flatOk ops = true) (haF : ∀ v, putsV ops.toList 0 v a = aF v) (hS : S (fun _ => false) (fun _ => undef) w.drew)
    (hextS : ∀ L L' v w, (∀ k, k < ops.size → L k = L' k) → S L v w → S L' v w) (h : FlatE P ops aF S G Q ops.toList 0 []) : (Code.region id ops true).wp P Q a w := by
  obtain ⟨all, h2, h3, h4⟩ := flatE_rel (flat_of hok) h
  exact region_flatV aF S G (fun _ => all) hm hok haF h2 (fun _ _ _ _ _ h => h) hS h3 (fun _ _ _ _ _ _ h => h) hextS h4
/-- The law: a region that does not draw. -/
theorem region_auto0 {id : Nat} {a : Act} {w : World} (S : (Nat → Bool) → (Nat → Value) → World → Prop) (G : Nat → World → World → Prop) (aF : (Nat → Value) → Act)
    (hok : flatOk ops = true) (haF : ∀ v, putsV ops.toList 0 v a = aF v) (hS : S (fun _ => false) (fun _ => undef) w)
    (hextS : ∀ L L' v w, (∀ k, k < ops.size → L k = L' k) → S L v w → S L' v w) (h : FlatE P ops aF S G Q ops.toList 0 []) : (Code.region id ops false).wp P Q a w := by
  obtain ⟨all, h2, h3, h4⟩ := flatE_rel (flat_of hok) h
  refine wp_region ?_
  have h := flatV_core aF S G (fun _ => all) hok haF h2 (fun _ _ _ _ _ h => h) hS h3 (fun _ _ _ _ _ _ h => h) hextS h4
  have hf := flat_of hok
  rw [List.range_eq_range']
  exact seq_of_any0 (fun i o ho e he hb => hf.back ho e he hb) ops.size 0 _ a w (by simp) (fun j hj => by simp [hj]) (by omega) h
/-- An operation whose value is fixed; 'need': those that it waits for and looks at. -/
theorem flatE_fix (need : List Nat) {o : Oper} {os : List Oper} {i : Nat} {acc : List (Value → World → Prop)} (x : Value)
    (h : ∀ L : Nat → Bool, L i = false → (∀ p q, L p = true → reach ops ops.size p q = true → L q = true) → ∀ (v : Nat → Value) (w : World), S L v w → held acc i v w need → ∀ K : Act → World → Prop,
      Hid (∀ w', S (fun k => decide (k = i) || L k) (updV v i x) w' ∧ G i w w' → K ((aF v).put o.dst x) w') → if Region.wanted o (yielded ops (aF v).tmps) then o.wp P (aF v) w K (fun _ _ _ => False) else K ((aF v).put o.dst undef) w)
    (hb : (need.all fun j => decide (j < i) && o.after.any fun e => Region.binds .any e && e.on == j) = true)
    {j : Nat} (hj : j = i + 1) (hn : FlatE P ops aF S G Q os j (eqv x :: acc)) : FlatE P ops aF S G Q (o :: os) i acc := by
  subst hj
  refine ⟨eqv x, fun _ _ _ _ _ _ h => h, ?_, hn⟩
  intro L h1 h2 v w hS hw K hK
  refine h L h1 h2 v w hS (held_of fun j hj => ?_) K (fun w' hx => Hid.out hK x w' ⟨hx.1, hx.2, ?_⟩)
  · have h3 := List.all_eq_true.1 hb j hj
    rw [Bool.and_eq_true, ← Array.any_toList, List.any_eq_true] at h3
    obtain ⟨h4, e, he, h5⟩ := h3
    rw [Bool.and_eq_true] at h5
    have h6 := waited_get hw e he h5.1
    have h7 : e.on = j := eq_of_beq h5.2
    rw [h7] at h6
    have h8 : relR (eqv x :: acc) (i + 1) j (v j) w := h6
    rw [relR_old (by simpa using h4)] at h8
    exact h8
  · show relR (eqv x :: acc) (i + 1) i x w'
    rw [relR_new]
    rfl
/-- An operation whose value is told by R. -/
theorem flatE_any (need : List Nat) {o : Oper} {os : List Oper} {i : Nat} {acc : List (Value → World → Prop)} (R : Value → World → Prop) (hst : ∀ j x w w', j ≠ i → G j w w' → R x w → R x w')
    (h : ∀ L : Nat → Bool, L i = false → (∀ p q, L p = true → reach ops ops.size p q = true → L q = true) → ∀ (v : Nat → Value) (w : World), S L v w → held acc i v w need → ∀ K : Act → World → Prop,
      Hid (∀ x w', S (fun k => decide (k = i) || L k) (updV v i x) w' ∧ G i w w' ∧ R x w' → K ((aF v).put o.dst x) w') → if Region.wanted o (yielded ops (aF v).tmps) then o.wp P (aF v) w K (fun _ _ _ => False) else K ((aF v).put o.dst undef) w)
    (hb : (need.all fun j => decide (j < i) && o.after.any fun e => Region.binds .any e && e.on == j) = true)
    {j : Nat} (hj : j = i + 1) (hn : FlatE P ops aF S G Q os j (R :: acc)) : FlatE P ops aF S G Q (o :: os) i acc := by
  subst hj
  refine ⟨R, hst, ?_, hn⟩
  intro L h1 h2 v w hS hw K hK
  refine h L h1 h2 v w hS (held_of fun j hj => ?_) K (fun x w' hx => Hid.out hK x w' ⟨hx.1, hx.2.1, ?_⟩)
  · have h3 := List.all_eq_true.1 hb j hj
    rw [Bool.and_eq_true, ← Array.any_toList, List.any_eq_true] at h3
    obtain ⟨h4, e, he, h5⟩ := h3
    rw [Bool.and_eq_true] at h5
    have h6 := waited_get hw e he h5.1
    have h7 : e.on = j := eq_of_beq h5.2
    rw [h7] at h6
    have h8 : relR (R :: acc) (i + 1) j (v j) w := h6
    rw [relR_old (by simpa using h4)] at h8
    exact h8
  · show relR (R :: acc) (i + 1) i x w'
    rw [relR_new]
    exact hx.2.2
theorem holdAll_at {R : Nat → Value → World → Prop} {v : Nat → Value} {w : World} : ∀ {n : Nat}, holdAll R v w n → ∀ j, j < n → R j (v j) w
  | n + 1, h, j, hj => by
    rcases Nat.lt_or_ge j n with h1 | h1
    · exact holdAll_at h.1 j h1
    · obtain rfl : j = n := by omega
      exact h.2
theorem flatE_end (need : List Nat) {i : Nat} {acc : List (Value → World → Prop)} (hb : (need.all fun j => decide (j < i)) = true) (h : ∀ v w', S (fun _ => true) v w' → held acc i v w' need → Q .normal (aF v) w') : FlatE P ops aF S G Q [] i acc :=
  fun v w' hS hh => h v w' hS (held_of fun j hj => holdAll_at hh j (by simpa using List.all_eq_true.1 hb j hj))
end
end Go.Proofs.YtmnfmgoolimlmaaDoor
end
