/- A drawn region whose operations do not get in each other's way: each is looked at once, whatever the order. -/
import Derived.Test.YtmnfmgoolimlmaaDoorBase
import Derived.OrdersHeld
import Derived.OrdersIn
import Derived.OwnWalkIn
namespace Go.Proofs.YtmnfmgoolimlmaaDoor
open Go.RowKit
section
variable {P : Program} {ops : Array Oper}
/-- Which operation puts its value at t. -/
def putter (ops : Array Oper) (t : Tmp) : Option Nat := (List.range ops.size).find? fun j => (ops[j]?.bind (·.dst)) == some t
/-- No two put at one place; what is read of another's is waited for. -/
def flatOkT (ops : Array Oper) (m : Nat) : Bool :=
  Region.noSelect ops && (List.range ops.size).all fun i => match ops[i]? with
    | none => true
    | some o => (o.after.all fun e => !Region.binds .any e || decide (e.on < i)) && (List.range ops.size).all fun j => match (ops[j]?).bind (·.dst) with
      | none => true
      | some d => (i == j || o.dst != some d) && (decide (m ≤ i) || decide (m ≤ j) || !(o.looksAt ops).contains d || (i != j && o.after.any fun e => Region.binds .any e && e.on == j))
def flatOk (ops : Array Oper) : Bool := flatOkT ops ops.size
/-- The values that were put, each at its place. -/
def putsV : List Oper → Nat → (Nat → Value) → Act → Act
  | [], _, _, a => a
  | o :: os, i, v, a => putsV os (i + 1) v (a.put o.dst (v i))
def PutAt (ops : Array Oper) (L : Nat → Bool) (v : Nat → Value) (a0 a : Act) : Prop :=
  a.defers = a0.defers ∧ a.tmps.size = a0.tmps.size ∧ ∀ t, t < a0.tmps.size → a.tmps[t]? = match putter ops t with
    | some j => if L j then some (v j) else a0.tmps[t]?
    | none => a0.tmps[t]?
theorem putter_some {t : Tmp} {j : Nat} (h : putter ops t = some j) : ∃ o, ops[j]? = some o ∧ o.dst = some t := by
  have := List.find?_some h
  cases ho : ops[j]? with
  | none => simp [ho] at this
  | some o => exact ⟨o, rfl, by simpa [ho] using this⟩
theorem putter_none {t : Tmp} (h : putter ops t = none) {j : Nat} {o : Oper} (ho : ops[j]? = some o) : o.dst ≠ some t := by
  have := List.find?_eq_none.1 h j (List.mem_range.2 (Array.getElem?_eq_some_iff.1 ho).1)
  simpa [ho] using this
structure Flat (ops : Array Oper) (m : Nat) : Prop where
  back : ∀ {i : Nat} {o : Oper}, ops[i]? = some o → ∀ e ∈ o.after, Region.binds .any e = true → e.on < i
  sel : Region.noSelect ops = true
  one : ∀ {i j : Nat} {o o' : Oper} {d : Tmp}, ops[i]? = some o → ops[j]? = some o' → o.dst = some d → o'.dst = some d → i = j
  waits : ∀ {i j : Nat} {o o' : Oper} {d : Tmp}, i < m → j < m → ops[i]? = some o → ops[j]? = some o' → o'.dst = some d → d ∈ o.looksAt ops → i ≠ j ∧ ∃ e ∈ o.after, Region.binds .any e = true ∧ e.on = j
theorem flat_of {m : Nat} (h : flatOkT ops m = true) : Flat ops m := by
  unfold flatOkT at h
  rw [Bool.and_eq_true, List.all_eq_true] at h
  obtain ⟨h1, h2⟩ := h
  have key : ∀ {i j : Nat} {o o' : Oper} {d : Tmp}, ops[i]? = some o → ops[j]? = some o' → o'.dst = some d →
      ((i == j || o.dst != some d) && (decide (m ≤ i) || decide (m ≤ j) || !(o.looksAt ops).contains d || (i != j && o.after.any fun e => Region.binds .any e && e.on == j))) = true := by
    intro i j o o' d hi hj hd
    have a := h2 i (List.mem_range.2 (Array.getElem?_eq_some_iff.1 hi).1)
    simp only [hi, Bool.and_eq_true, List.all_eq_true] at a
    have b := a.2 j (List.mem_range.2 (Array.getElem?_eq_some_iff.1 hj).1)
    simp only [hj, Option.bind_some, hd] at b
    exact b
  refine ⟨fun {i o} hi e he hb => ?_, h1, fun {i j o o' d} hi hj hd hd' => ?_, fun {i j o o' d} him hjm hi hj hd hl => ?_⟩
  · have a := h2 i (List.mem_range.2 (Array.getElem?_eq_some_iff.1 hi).1)
    simp only [hi, Bool.and_eq_true] at a
    have b := a.1
    rw [← Array.all_toList, List.all_eq_true] at b
    have c := b e (by simpa using he)
    simpa [hb] using c
  · have := key hi hj hd'
    rw [Bool.and_eq_true] at this
    rcases Bool.or_eq_true .. ▸ this.1 with h | h
    · exact eq_of_beq h
    · rw [hd] at h; simp at h
  · have := key hi hj hd
    rw [Bool.and_eq_true] at this
    rcases Bool.or_eq_true .. ▸ this.2 with h | h
    · have h1 : ¬ m ≤ i := by omega
      have h2 : ¬ m ≤ j := by omega
      simp [hl, h1, h2] at h
    · rw [Bool.and_eq_true] at h
      refine ⟨by simpa using h.1, ?_⟩
      have h3 := h.2
      rw [← Array.any_toList, List.any_eq_true] at h3
      obtain ⟨e, he, hb⟩ := h3
      rw [Array.mem_toList_iff] at he
      rw [Bool.and_eq_true] at hb
      exact ⟨e, he, hb.1, eq_of_beq hb.2⟩
def updV (v : Nat → Value) (i : Nat) (x : Value) : Nat → Value := fun j => if j = i then x else v j
theorem PutAt.put {L L' : Nat → Bool} {v : Nat → Value} {a0 a : Act} {m : Nat} (hf : Flat ops m) (h : PutAt ops L v a0 a) {i : Nat} {o : Oper} (ho : ops[i]? = some o) (x : Value) (hL : ∀ j, j ≠ i → L' j = L j) (hLi : L' i = true) :
    PutAt ops L' (updV v i x) a0 (a.put o.dst x) := by
  obtain ⟨h1, h2, h3⟩ := h
  cases hd : o.dst with
  | none =>
    refine ⟨h1, h2, fun t ht => ?_⟩
    rw [show (a.put none x).tmps[t]? = a.tmps[t]? from rfl, h3 t ht]
    cases hp : putter ops t with
    | none => rfl
    | some j =>
      obtain ⟨oj, hoj, hdj⟩ := putter_some hp
      have hji : j ≠ i := by
        intro e
        subst e
        rw [ho] at hoj
        injection hoj with hoj
        rw [← hoj, hd] at hdj
        cases hdj
      simp only [hL j hji, updV, if_neg hji]
  | some d =>
    refine ⟨h1, by simpa [Act.put] using h2, fun t ht => ?_⟩
    by_cases htd : t = d
    · subst htd
      have e1 : (a.put (some t) x).tmps[t]? = some x := by simp [Act.put, h2, ht]
      rw [e1]
      cases hp : putter ops t with
      | none => exact absurd hd (putter_none hp ho)
      | some j =>
        obtain ⟨oj, hoj, hdj⟩ := putter_some hp
        have := hf.one hoj ho hdj hd
        subst this
        simp [hLi, updV]
    · have e1 : (a.put (some d) x).tmps[t]? = a.tmps[t]? := by simp [Act.put, Array.getElem?_setIfInBounds_ne (Ne.symm htd)]
      rw [e1, h3 t ht]
      cases hp : putter ops t with
      | none => rfl
      | some j =>
        obtain ⟨oj, hoj, hdj⟩ := putter_some hp
        have hji : j ≠ i := by
          intro e
          subst e
          rw [ho] at hoj
          injection hoj with hoj
          rw [← hoj, hd] at hdj
          injection hdj with hdj
          exact htd hdj.symm
        simp only [hL j hji, updV, if_neg hji]
theorem PutAt.ext {v : Nat → Value} {a0 a b : Act} {L : Nat → Bool} (h : PutAt ops L v a0 a) (k : PutAt ops L v a0 b) : a = b := by
  obtain ⟨ta, da⟩ := a
  obtain ⟨tb, db⟩ := b
  obtain ⟨h1, h2, h3⟩ := h
  obtain ⟨k1, k2, k3⟩ := k
  simp only at h1 h2 h3 k1 k2 k3
  have : ta = tb := by
    apply Array.ext_getElem?
    intro t
    rcases Nat.lt_or_ge t a0.tmps.size with ht | ht
    · rw [h3 t ht, k3 t ht]
    · rw [Array.getElem?_eq_none (by omega), Array.getElem?_eq_none (by omega)]
  rw [this, h1, k1]
theorem PutAt.congr {L L' : Nat → Bool} {v v' : Nat → Value} {a0 a : Act} (h : PutAt ops L v a0 a) (hL : ∀ j, j < ops.size → L j = L' j) (hv : ∀ j, j < ops.size → L j = true → v j = v' j) : PutAt ops L' v' a0 a := by
  refine ⟨h.1, h.2.1, fun t ht => ?_⟩
  rw [h.2.2 t ht]
  cases hp : putter ops t with
  | none => rfl
  | some j =>
    obtain ⟨oj, hoj, hdj⟩ := putter_some hp
    have hj := (Array.getElem?_eq_some_iff.1 hoj).1
    simp only [← hL j hj]
    cases hLj : L j with
    | true => simp [hv j hj hLj]
    | false => rfl
theorem putsV_at {m : Nat} (hf : Flat ops m) (v : Nat → Value) (a0 : Act) : ∀ (os : List Oper) (i : Nat) (a : Act), (∀ k, k < os.length → os[k]? = ops[i + k]?) → PutAt ops (fun j => decide (j < i)) v a0 a →
    PutAt ops (fun j => decide (j < i + os.length)) v a0 (putsV os i v a) := by
  intro os
  induction os with
  | nil => intro i a _ h; exact h
  | cons o os ih =>
    intro i a hk h
    have ho : ops[i]? = some o := by have := hk 0 (by simp); simpa using this.symm
    have h1 := (h.put hf ho (v i) (L' := fun j => decide (j < i + 1)) (fun j hj => by simp; omega) (by simp)).congr (L' := fun j => decide (j < i + 1)) (v' := v) (fun _ _ => rfl) (fun j _ _ => by
      unfold updV; split
      · next e => rw [e]
      · rfl)
    have h2 := ih (i + 1) _ (fun k hkl => by have := hk (k + 1) (by simp; omega); rw [List.getElem?_cons_succ] at this; rw [this]; congr 1; omega) h1
    have e : i + 1 + os.length = i + (o :: os).length := by simp; omega
    rw [e] at h2
    exact h2
theorem full_at {m : Nat} (hf : Flat ops m) (v : Nat → Value) (a0 : Act) : PutAt ops (fun _ => true) v a0 (putsV ops.toList 0 v a0) := by
  have h0 : PutAt ops (fun j => decide (j < 0)) v a0 a0 := ⟨rfl, rfl, fun t _ => by
    cases putter ops t <;> simp⟩
  have := putsV_at hf v a0 ops.toList 0 a0 (fun k _ => by simp) h0
  refine this.congr (fun j hj => ?_) (fun _ _ _ => rfl)
  simp
  omega
theorem put_same {A b : Act} {d : Option Tmp} {x y : Value} (h : A.put d x = A.put d y) (hs : A.tmps.size = b.tmps.size) : b.put d x = b.put d y := by
  cases d with
  | none => rfl
  | some d =>
    rcases Nat.lt_or_ge d A.tmps.size with hlt | hge
    · have h1 := congrArg (fun a => a.tmps[d]?) h
      simp [Act.put, hlt] at h1
      rw [h1]
    · have hn : ¬ d < b.tmps.size := Nat.not_lt.2 (hs ▸ hge)
      simp only [Act.put, Array.setIfInBounds, dif_neg hn]
theorem wp_moved {o : Oper} {A b : Act} {w : World} {T : Value → World → Prop} {next : Act → World → Prop} {Q : Exit → Act → World → Prop} (he : execOp A.eval o = execOp b.eval o) (hs : A.tmps.size = b.tmps.size)
    (h : o.wp P A w (fun a' w' => ∃ x, a' = A.put o.dst x ∧ T x w') (fun _ _ _ => False)) (hn : ∀ x w', T x w' → next (b.put o.dst x) w') : o.wp P b w next Q := by
  unfold Oper.wp at *
  rw [he] at h
  generalize (execOp b.eval o).run P w = r at *
  cases r with
  | ok n w' =>
    cases n <;> simp only [Oper.upon] at h ⊢
    case value u =>
      obtain ⟨x, e, ht⟩ := h
      rw [put_same e hs]
      exact hn _ _ ht
    case skip =>
      obtain ⟨x, e, ht⟩ := h
      rw [put_same e hs]
      exact hn _ _ ht
    case defer d =>
      obtain ⟨x, e, _⟩ := h
      have h1 := congrArg (fun a => a.defers.length) e
      exfalso
      cases hd : o.dst <;> simp [Act.put, hd] at h1
    case enter f args =>
      refine Calls.mono h fun e w'' he => ?_
      cases e with
      | returned u =>
        obtain ⟨x, e, ht⟩ := he
        show next _ _
        rw [put_same e hs]
        exact hn _ _ ht
      | panicked c => exact he.elim
      | outgrown => obtain ⟨_, _, hh⟩ := he; exact hh.elim
    case row row args =>
      refine Rows.mono h fun u w'' he => ?_
      obtain ⟨x, e, ht⟩ := he
      rw [put_same e hs]
      exact hn _ _ ht
  | halt x w' => cases x <;> simp only [Oper.upon] at h ⊢
def rel (l : List (Value → World → Prop)) (j : Nat) : Value → World → Prop := l.getD j (fun _ _ => True)
def waited (R : Nat → Value → World → Prop) (v : Nat → Value) (w : World) : List Edge → Prop
  | [] => True
  | e :: es => (Region.binds .any e = true → R e.on (v e.on) w) ∧ waited R v w es
theorem waited_of {R : Nat → Value → World → Prop} {v : Nat → Value} {w : World} : ∀ {l : List Edge}, (∀ e ∈ l, Region.binds .any e = true → R e.on (v e.on) w) → waited R v w l
  | [], _ => trivial
  | e :: _, h => ⟨h e (by simp), waited_of fun x hx => h x (by simp [hx])⟩
def holdAll (R : Nat → Value → World → Prop) (v : Nat → Value) (w : World) : Nat → Prop
  | 0 => True
  | n + 1 => holdAll R v w n ∧ R n (v n) w
theorem holdAll_of {R : Nat → Value → World → Prop} {v : Nat → Value} {w : World} : ∀ {n : Nat}, (∀ j, j < n → R j (v j) w) → holdAll R v w n
  | 0, _ => trivial
  | n + 1, h => ⟨holdAll_of fun j hj => h j (by omega), h n (by omega)⟩
/-- Whatever order is picked, without the ways out. -/
def step0 (P : Program) (ops : Array Oper) (Q : Exit → Act → World → Prop) (i : Nat) (K : Act → World → Prop) (a : Act) (w : World) : Prop :=
  match ops[i]? with
  | none => K a w
  | some o => if Region.wanted o (yielded ops a.tmps) then o.wp P a w K Q else K (a.put o.dst undef) w
def any0 (P : Program) (ops : Array Oper) (Q : Exit → Act → World → Prop) : Nat → Array Bool → Act → World → Prop
  | 0, listed, a, w => Region.ready .any ops listed = [] ∧ Q .normal a w
  | fuel + 1, listed, a, w =>
    (Region.ready .any ops listed = [] → Q .normal a w) ∧
    ∀ i ∈ Region.ready .any ops listed, step0 P ops Q i (any0 P ops Q fuel (listed.setIfInBounds i true)) a w
theorem any0_any {Q : Exit → Act → World → Prop} : ∀ (fuel : Nat) (listed : Array Bool) (a : Act) (w : World), any0 P ops Q fuel listed a w → wpAny P .any ops Q fuel listed a w
  | 0, _, _, _, h => h
  | fuel + 1, listed, a, w, h => ⟨h.1, fun i hi => by
    have h2 := h.2 i hi
    unfold step0 at h2
    unfold wpOp
    split
    · next hn => simp only [hn] at h2; exact any0_any fuel _ _ _ h2
    · next o ho =>
      simp only [ho] at h2
      split
      · next hw => rw [if_pos hw] at h2; exact .inl (Oper.wp_mono (fun a' w' h' => any0_any fuel _ a' w' h') h2)
      · next hw => rw [if_neg hw] at h2; exact any0_any fuel _ _ _ h2⟩
/-- A fence that lets everything in. -/
structure Easy (F : Fence) : Prop where
  fn : ∀ f, F.fn f
  deep : F.depth.isSome = true → False
  calls : ∀ (P : Program) (n : Nat) (f : FuncId) (args : Array Value) (w : World) (R : Ending → World → Prop), Calls P f args w R → CallsIn F n P f args w R
  rows : ∀ (P : Program) (n : Nat) (r : String) (args : Array Value) (w : World) (R : Value → World → Prop), Rows P r args w R → RowsIn F n P r args w R
theorem easy_wide : Easy Fence.wide := ⟨fun _ => trivial, (fun h => Bool.noConfusion h), fun _ _ _ _ _ _ h => callsIn_wide.2 h, fun _ _ _ _ _ _ h c cs _ => let ⟨v, w', r, s⟩ := h c cs; ⟨v, w', r, stepsIn_wide.2 s⟩⟩
theorem easy_round (l : Nat) : Easy (Fence.wide.inRound l) := ⟨fun _ => trivial, (fun h => Bool.noConfusion h), fun P n f args w R h => easy_wide.calls P n f args w R h, fun P n f args w R h => easy_wide.rows P n f args w R h⟩
theorem wpIn_of_wp {F : Fence} (hF : Easy F) {n : Nat} {o : Oper} {a : Act} {w : World} {K : Act → World → Prop} {Q : Exit → Act → World → Prop} (hd : ∀ c, o.op ≠ .defer c) (h : o.wp P a w K Q) : o.wpIn F n P a w K Q := by
  unfold Oper.wpIn
  refine ⟨fun f _ => hF.fn f, ?_⟩
  rw [Oper.semAt_eq _ _ _ hd]
  unfold Oper.wp at h
  generalize (execOp a.eval o).run P w = r at *
  cases r with
  | ok x w' =>
    cases x <;> simp only [Oper.upon, Oper.uponIn] at h ⊢ <;>
      first
        | exact h
        | exact ⟨fun h' => (hF.deep h').elim, hF.calls _ _ _ _ _ _ h⟩
        | exact ⟨fun h' => (hF.deep h').elim, hF.rows _ _ _ _ _ _ h⟩
        | exact h.elim
  | halt x w' => cases x <;> simp only [Oper.upon, Oper.uponIn] at h ⊢ <;> first | exact h | exact h.elim
def noDefer (ops : Array Oper) : Bool := ops.all fun o => match o.op with
  | .defer _ => false
  | _ => true
theorem noDefer_spec (h : noDefer ops = true) {i : Nat} {o : Oper} (ho : ops[i]? = some o) : ∀ c, o.op ≠ .defer c := fun c hc => by
  unfold noDefer at h
  rw [← Array.all_toList, List.all_eq_true] at h
  have := h o (by simpa using Array.mem_of_getElem? ho)
  rw [hc] at this
  cases this
theorem any0_in {F : Fence} (hF : Easy F) {n : Nat} (hd : noDefer ops = true) {Q : Exit → Act → World → Prop} : ∀ (fuel : Nat) (listed : Array Bool) (a : Act) (w : World), any0 P ops Q fuel listed a w → wpAnyIn F n P .any ops Q fuel listed a w
  | 0, _, _, _, h => h
  | fuel + 1, listed, a, w, h => ⟨h.1, fun i hi => by
    have h2 := h.2 i hi
    unfold step0 at h2
    unfold wpOpIn
    split
    · next hn => simp only [hn] at h2; exact any0_in hF hd fuel _ _ _ h2
    · next o ho =>
      simp only [ho] at h2
      split
      · next hw => rw [if_pos hw] at h2; exact Oper.wpIn_mono (fun a' w' h' => any0_in hF hd fuel _ a' w' h') (wpIn_of_wp hF (noDefer_spec hd ho) h2)
      · next hw => rw [if_neg hw] at h2; exact ⟨fun f _ => hF.fn f, any0_in hF hd fuel _ _ _ h2⟩⟩
/-- One operation, at a state in which all have come up, in whatever world. -/
def FlatOp (P : Program) (ops : Array Oper) (aF : (Nat → Value) → Act) (S : World → Prop) (G : World → World → Prop) (R : Nat → Value → World → Prop) (i : Nat) (o : Oper) : Prop :=
  ∀ (v : Nat → Value) (w : World), S w → waited R v w o.after.toList → ∀ K : Act → World → Prop, Hid (∀ x w', S w' ∧ G w w' ∧ R i x w' → K ((aF v).put o.dst x) w') →
    if Region.wanted o (yielded ops (aF v).tmps) then o.wp P (aF v) w K (fun _ _ _ => False) else K ((aF v).put o.dst undef) w
def FlatOps (P : Program) (ops : Array Oper) (aF : (Nat → Value) → Act) (S : World → Prop) (G : World → World → Prop) (R : Nat → Value → World → Prop) : List Oper → Nat → Prop
  | [], _ => True
  | o :: os, i => FlatOp P ops aF S G R i o ∧ FlatOps P ops aF S G R os (i + 1)
theorem FlatOps.get {aF : (Nat → Value) → Act} {S : World → Prop} {G : World → World → Prop} {R : Nat → Value → World → Prop} : ∀ {os : List Oper} {i : Nat}, FlatOps P ops aF S G R os i → ∀ {k : Nat} {o : Oper}, os[k]? = some o → FlatOp P ops aF S G R (i + k) o := by
  intro os
  induction os with
  | nil => intro i _ k o h; simp at h
  | cons x os ih =>
    intro i h k o hk
    cases k with
    | zero => simp at hk; subst hk; exact h.1
    | succ k =>
      rw [List.getElem?_cons_succ] at hk
      have := ih h.2 hk
      rw [show i + (k + 1) = i + 1 + k by omega]
      exact this
theorem looks_eq {L L' : Nat → Bool} {v : Nat → Value} {a0 a b : Act} {m : Nat} (hf : Flat ops m) {i : Nat} (him : i < m) (hbig : ∀ j, m ≤ j → j < ops.size → L j = false ∧ L' j = false) {o : Oper} (ho : ops[i]? = some o) (ha : PutAt ops L v a0 a) (hb : PutAt ops L' v a0 b)
    (hdep : ∀ e ∈ o.after, Region.binds .any e = true → L e.on = true) (hdep' : ∀ e ∈ o.after, Region.binds .any e = true → L' e.on = true) : ∀ t ∈ o.looksAt ops, a.tmps[t]? = b.tmps[t]? := by
  intro t ht
  rcases Nat.lt_or_ge t a0.tmps.size with hlt | hge
  · rw [ha.2.2 t hlt, hb.2.2 t hlt]
    cases hp : putter ops t with
    | none => rfl
    | some j =>
      obtain ⟨oj, hoj, hdj⟩ := putter_some hp
      rcases Nat.lt_or_ge j m with hjm | hjm
      case inr =>
        obtain ⟨h1, h2⟩ := hbig j hjm (Array.getElem?_eq_some_iff.1 hoj).1
        simp [h1, h2]
      obtain ⟨_, e, he, hbd, heq⟩ := hf.waits him hjm ho hoj hdj ht
      have := hdep e he hbd
      have h2 := hdep' e he hbd
      rw [heq] at this h2
      simp [this, h2]
  · rw [Array.getElem?_eq_none (by rw [ha.2.1]; exact hge), Array.getElem?_eq_none (by rw [hb.2.1]; exact hge)]
theorem exec_same {a b : Act} {o : Oper} (hs : ∀ cs b, o.op ≠ .select cs b) (h : ∀ t ∈ o.looksAt ops, a.tmps[t]? = b.tmps[t]?) : execOp a.eval o = execOp b.eval o :=
  execOp_congr o hs fun x hx => by
    cases x with
    | tmp t =>
      have := h t (List.mem_append_left _ (List.mem_filterMap.2 ⟨.tmp t, by simpa using hx, rfl⟩))
      simp [Act.eval, this]
    | _ => rfl
theorem wanted_same {a b : Act} {o : Oper} (h : ∀ t ∈ o.looksAt ops, a.tmps[t]? = b.tmps[t]?) : Region.wanted o (yielded ops a.tmps) = Region.wanted o (yielded ops b.tmps) := by
  unfold Region.wanted
  cases hg : o.guard with
  | none => rfl
  | some gw =>
    obtain ⟨g, want⟩ := gw
    have hy : yielded ops a.tmps g = yielded ops b.tmps g := by
      unfold yielded
      cases ht : (ops[g]?).bind (·.dst) with
      | none => rfl
      | some t =>
        have := h t (List.mem_append_right _ (by simp [hg, ht]))
        simp only [Option.bind_some, this]
    simp only [hy]
/-- **The region**: each operation's contract, at the state in which all have come up; R tells of the value that each puts. -/
theorem flat_core {a : Act} {w : World} {Q : Exit → Act → World → Prop} (aF : (Nat → Value) → Act) (S : World → Prop) (G : World → World → Prop) (R : Nat → Value → World → Prop)
    (hok : flatOk ops = true) (haF : ∀ v, putsV ops.toList 0 v a = aF v)
    (hstab : ∀ j x w w', G w w' → R j x w → R j x w') (hS : S w.drew)
    (hops : FlatOps P ops aF S G R ops.toList 0)
    (hQ : ∀ v w', S w' → holdAll R v w' ops.size → Q .normal (aF v) w') : any0 P ops Q ops.size (Array.replicate ops.size false) a w.drew := by
  have hf := flat_of hok
  have key : ∀ (fuel : Nat) (listed : Array Bool) (b : Act) (u : World) (v : Nat → Value), listed.size = ops.size → listed.toList.count false ≤ fuel → PutAt ops (fun j => listed.getD j false) v a b → S u →
      (∀ j, j < ops.size → listed.getD j false = true → R j (v j) u) → any0 P ops Q fuel listed b u := by
    have hfin : ∀ (listed : Array Bool) (b : Act) (u : World) (v : Nat → Value), (∀ j, j < ops.size → listed.getD j false = true) → PutAt ops (fun j => listed.getD j false) v a b → S u →
        (∀ j, j < ops.size → listed.getD j false = true → R j (v j) u) → Q .normal b u := by
      intro listed b u v hall hat hSu hR
      have e := (hat.congr (L' := fun _ => true) (v' := v) hall (fun _ _ _ => rfl)).ext (full_at hf v a)
      rw [e, haF v]
      exact hQ v u hSu (holdAll_of fun j hj => hR j hj (hall j hj))
    intro fuel
    induction fuel with
    | zero =>
      intro listed b u v hsz hc hat hSu hR
      have hall : ∀ j, j < ops.size → listed.getD j false = true := by
        intro j hj
        have h0 := List.count_eq_zero.1 (Nat.le_zero.1 hc)
        cases hx : listed.getD j false with
        | true => rfl
        | false =>
          refine absurd ?_ h0
          have hlt : j < listed.size := by omega
          have : listed[j] = false := by simpa [hlt] using hx
          rw [← this]
          simp
      refine ⟨?_, hfin listed b u v hall hat hSu hR⟩
      refine List.filter_eq_nil_iff.2 fun i hi => ?_
      have hi2 := List.mem_range.1 hi
      have := hall i hi2
      have hlt : i < listed.size := by omega
      simp [hlt] at this ⊢
      simp [this]
    | succ fuel ih =>
      intro listed b u v hsz hc hat hSu hR
      refine ⟨fun hnil => hfin listed b u v ?_ hat hSu hR, fun i hi => ?_⟩
      · intro j
        induction j using Nat.strongRecOn with
        | _ j ihj =>
          intro hj
          cases hx : listed.getD j false with
          | true => rfl
          | false =>
            exfalso
            have hm2 : j ∈ Region.ready .any ops listed := by
              refine mem_ready.2 ⟨?_, ops[j], by simp [hj], fun e he hb => ?_⟩
              · have hlt : j < listed.size := by omega
                simpa [hlt] using hx
              · have hlt := hf.back (i := j) (by simp [hj]) e he hb
                exact ihj e.on hlt (by omega)
            rw [hnil] at hm2
            cases hm2
      · obtain ⟨hun, o, ho, hdep⟩ := mem_ready.1 hi
        have hio := (Array.getElem?_eq_some_iff.1 ho).1
        have hlt : i < listed.size := by omega
        have hli : listed[i] = false := by simpa [hlt] using hun
        have hfull := full_at hf v a
        rw [haF v] at hfull
        have hl := looks_eq hf hio (fun j h1 h2 => absurd h2 (by omega)) ho hat hfull hdep (fun _ _ _ => rfl)
        have hop := hops.get (k := i) (o := o) (by simpa using ho)
        rw [Nat.zero_add] at hop
        have next : ∀ (x : Value) (u' : World), S u' ∧ G u u' ∧ R i x u' → any0 P ops Q fuel (listed.setIfInBounds i true) (b.put o.dst x) u' := by
          rintro x u' ⟨hS', hG, hRi⟩
          refine ih _ _ _ (updV v i x) (by simpa using hsz) ?_ (hat.put hf ho x (fun j hj => getD_set_ne false (Ne.symm hj)) (by simp [hlt])) hS' ?_
          · rw [Array.toList_setIfInBounds, List.count_set (by simpa using hlt)]
            simp only [Array.getElem_toList, hli]
            have : 0 < listed.toList.count false := List.count_pos_iff.2 (by rw [← hli]; simp)
            simp only [BEq.rfl, if_true, show (true == false) = false from rfl, Bool.false_eq_true, if_false, Nat.add_zero]
            omega
          · intro j hj hlj
            by_cases hji : j = i
            · subst hji; simpa [updV] using hRi
            · rw [getD_set_ne false (Ne.symm hji)] at hlj
              simp only [updV, if_neg hji]
              exact hstab _ _ _ _ hG (hR j hj hlj)
        have hR' : ∀ e ∈ o.after.toList, Region.binds .any e = true → R e.on (v e.on) u := fun e he hb => by
          have he' : e ∈ o.after := by simpa using he
          exact hR e.on (Nat.lt_trans (hf.back ho e he' hb) hio) (hdep e he' hb)
        have hsize : (aF v).tmps.size = b.tmps.size := hfull.2.1.trans hat.2.1.symm
        have h := hop v u hSu (waited_of hR') (fun a' w' => ∃ x, a' = (aF v).put o.dst x ∧ (S w' ∧ G u w' ∧ R i x w')) (fun x w' hx => ⟨x, rfl, hx⟩)
        rw [← wanted_same hl] at h
        unfold step0
        simp only [ho]
        split
        · rename_i hw
          rw [if_pos hw] at h
          exact wp_moved (exec_same (fun cs b => Region.noSelect_spec hf.sel i o cs b ho) hl).symm hsize h (fun x w' hx => next x w' hx)
        · rename_i hw
          rw [if_neg hw] at h
          obtain ⟨x, e, hx⟩ := h
          rw [put_same e hsize]
          exact next x u hx
  refine key _ _ _ _ (fun _ => undef) (by simp) (by simp) ?_ hS ?_
  · refine ⟨rfl, rfl, fun t _ => ?_⟩
    cases hp : putter ops t with
    | none => rfl
    | some j =>
      obtain ⟨oj, hoj, _⟩ := putter_some hp
      have := (Array.getElem?_eq_some_iff.1 hoj).1
      simp [this]
  · intro j hj h
    simp [hj] at h
/-! ### With a tail: operations that wait for all the others, carried out one by one -/
def reach (ops : Array Oper) : Nat → Nat → Nat → Bool
  | 0, _, _ => false
  | f + 1, i, j => match ops[i]? with
    | none => false
    | some o => o.after.any fun e => Region.binds .any e && (e.on == j || reach ops f e.on j)
def tailOk (ops : Array Oper) (m : Nat) : Bool := (List.range ops.size).all fun k => decide (k < m) || (List.range k).all fun j => reach ops ops.size k j
def Closed (ops : Array Oper) (listed : Array Bool) : Prop := ∀ (i : Nat) (o : Oper), ops[i]? = some o → listed.getD i false = true → ∀ e ∈ o.after, Region.binds .any e = true → listed.getD e.on false = true
theorem reach_listed {listed : Array Bool} (hc : Closed ops listed) : ∀ (f i j : Nat) (o : Oper), ops[i]? = some o → (∀ e ∈ o.after, Region.binds .any e = true → listed.getD e.on false = true) → reach ops f i j = true → listed.getD j false = true := by
  intro f
  induction f with
  | zero => intro i j o _ _ h; cases h
  | succ f ih =>
    intro i j o ho hd h
    unfold reach at h
    simp only [ho] at h
    rw [← Array.any_toList, List.any_eq_true] at h
    obtain ⟨e, he, hb⟩ := h
    rw [Array.mem_toList_iff] at he
    rw [Bool.and_eq_true, Bool.or_eq_true] at hb
    have hl := hd e he hb.1
    rcases hb.2 with h' | h'
    · rw [← eq_of_beq h']; exact hl
    · cases hoe : ops[e.on]? with
      | none => unfold reach at h'; cases f <;> simp [hoe] at h'
      | some o' => exact ih e.on j o' hoe (hc e.on o' hoe hl) h'
theorem Closed.set {listed : Array Bool} (hc : Closed ops listed) {i : Nat} {o : Oper} (ho : ops[i]? = some o) (hd : ∀ e ∈ o.after, Region.binds .any e = true → listed.getD e.on false = true) : Closed ops (listed.setIfInBounds i true) := by
  intro k ok hk hl e he hb
  refine getD_set_true ?_
  by_cases hki : k = i
  · subst hki
    rw [ho] at hk
    injection hk with hk
    subst hk
    exact hd e he hb
  · rw [getD_set_ne false (Ne.symm hki)] at hl
    exact hc k ok hk hl e he hb
/-- One by one. -/
def seqOps (P : Program) (ops : Array Oper) (Q : Exit → Act → World → Prop) : List Oper → Act → World → Prop
  | [], a, w => Q .normal a w
  | o :: os, a, w => ∀ K : Act → World → Prop, Hid (∀ a' w', seqOps P ops Q os a' w' → K a' w') → if Region.wanted o (yielded ops a.tmps) then o.wp P a w K Q else K (a.put o.dst undef) w
def listedTo (ops : Array Oper) (listed : Array Bool) (k : Nat) : Prop := listed.size = ops.size ∧ ∀ j, j < ops.size → listed.getD j false = decide (j < k)
theorem seq_any {Q : Exit → Act → World → Prop} {m : Nat} (ht : tailOk ops m = true) (hf : Flat ops m) : ∀ (os : List Oper) (k fuel : Nat) (listed : Array Bool) (b : Act) (u : World), m ≤ k → k ≤ ops.size → os = ops.toList.drop k → listedTo ops listed k → Closed ops listed → ops.size ≤ fuel + k →
    seqOps P ops Q os b u → any0 P ops Q fuel listed b u := by
  intro os
  induction os with
  | nil =>
    intro k fuel listed b u hmk hkn hos hl hc hfu h
    have hk : k = ops.size := by
      have := congrArg List.length hos
      simp at this
      omega
    subst hk
    have hnil : Region.ready .any ops listed = [] := by
      refine List.filter_eq_nil_iff.2 fun i hi => ?_
      have hi2 := List.mem_range.1 hi
      have h1 := hl.2 i hi2
      have hlt : i < listed.size := by rw [hl.1]; exact hi2
      simp [hlt, hi2] at h1 ⊢
      simp [h1]
    cases fuel with
    | zero => exact ⟨hnil, h⟩
    | succ fuel => exact ⟨fun _ => h, by rw [hnil]; simp⟩
  | cons o os ih =>
    intro k fuel listed b u hmk hkn hos hl hc hfu h
    have hk : k < ops.size := by
      have := congrArg List.length hos
      simp at this
      omega
    have hok : ops[k]? = some o := by
      have := congrArg (fun l => l[0]?) hos
      simpa using this.symm
    have hos' : os = ops.toList.drop (k + 1) := by
      have := congrArg List.tail hos
      simpa using this
    cases fuel with
    | zero => omega
    | succ fuel =>
      have hkl : k < listed.size := by rw [hl.1]; exact hk
      have hrk : k ∈ Region.ready .any ops listed := mem_ready.2 ⟨by have := hl.2 k hk; simpa [hkl] using this, o, hok, fun e he hb => by
        have := hf.back hok e he hb
        rw [hl.2 e.on (by omega)]
        simpa using this⟩
      refine ⟨fun hnil => by rw [hnil] at hrk; simp at hrk, fun i hi => ?_⟩
      obtain ⟨hun, oi, hoi, hdep⟩ := mem_ready.1 hi
      have hio := (Array.getElem?_eq_some_iff.1 hoi).1
      have hil : i < listed.size := by rw [hl.1]; exact hio
      have hge : ¬ i < k := by
        intro hlt
        have h1 := hl.2 i hio
        simp [hil] at h1 hun
        rw [hun] at h1
        simp at h1
        omega
      have hik : i = k := by
        rcases Nat.lt_or_ge k i with hlt | _
        · exfalso
          have h2 := List.all_eq_true.1 ht i (List.mem_range.2 hio)
          rw [Bool.or_eq_true] at h2
          rcases h2 with h2 | h2
          · have := of_decide_eq_true h2; omega
          · have h3 := List.all_eq_true.1 h2 k (List.mem_range.2 hlt)
            have h4 := reach_listed hc _ _ _ oi hoi hdep h3
            rw [hl.2 k hk] at h4
            simp at h4
        · omega
      subst hik
      rw [hok] at hoi
      injection hoi with hoi
      subst hoi
      have hnext : ∀ (a' : Act) (w' : World), seqOps P ops Q os a' w' → any0 P ops Q fuel (listed.setIfInBounds i true) a' w' := fun a' w' hs =>
        ih (i + 1) fuel _ a' w' (by omega) (by omega) hos' ⟨by simpa using hl.1, fun j hj => by
          by_cases hji : j = i
          · subst hji; simp [hil]
          · rw [getD_set_ne false (Ne.symm hji), hl.2 j hj]
            simp
            omega⟩ (hc.set hok hdep) (by omega) hs
      have hh := h _ hnext
      unfold step0
      simp only [hok]
      split
      · rename_i hw
        rw [if_pos hw] at hh
        exact hh
      · rename_i hw
        rw [if_neg hw] at hh
        exact hh
theorem tail_core {a : Act} {w : World} {Q : Exit → Act → World → Prop} (m : Nat) (aF : (Nat → Value) → Act) (S : World → Prop) (G : World → World → Prop) (R : Nat → Value → World → Prop)
    (hok : flatOkT ops m = true) (ht : tailOk ops m = true) (hmn : m ≤ ops.size) (haF : ∀ v, putsV (ops.toList.take m) 0 v a = aF v)
    (hstab : ∀ j x w w', G w w' → R j x w → R j x w') (hS : S w.drew)
    (hops : FlatOps P ops aF S G R (ops.toList.take m) 0)
    (hQ : ∀ v w', S w' → holdAll R v w' m → seqOps P ops Q (ops.toList.drop m) (aF v) w') : any0 P ops Q ops.size (Array.replicate ops.size false) a w.drew := by
  have hf := flat_of hok
  have hfull : ∀ v, PutAt ops (fun j => decide (j < m)) v a (aF v) := fun v => by
    have h0 : PutAt ops (fun j => decide (j < 0)) v a a := ⟨rfl, rfl, fun t _ => by
      cases putter ops t <;> simp⟩
    have := putsV_at hf v a (ops.toList.take m) 0 a (fun k hk => by
      rw [List.getElem?_take_of_lt (by simp at hk; omega), Nat.zero_add]
      simp) h0
    rw [haF v] at this
    have e : 0 + (ops.toList.take m).length = m := by simp; omega
    rw [e] at this
    exact this
  have key : ∀ (fuel : Nat) (listed : Array Bool) (b : Act) (u : World) (v : Nat → Value), listed.size = ops.size → Closed ops listed → (∀ j, m ≤ j → j < ops.size → listed.getD j false = false) → ops.size ≤ fuel + listed.toList.count true → PutAt ops (fun j => listed.getD j false) v a b → S u →
      (∀ j, j < ops.size → listed.getD j false = true → R j (v j) u) → any0 P ops Q fuel listed b u := by
    intro fuel
    induction fuel with
    | zero =>
      intro listed b u v hsz hc htl hct hat hSu hR
      have hall : ∀ j, j < ops.size → listed.getD j false = true := by
        intro j hj
        have h1 : listed.toList.count true = listed.toList.length := Nat.le_antisymm List.count_le_length (by rw [Array.length_toList, hsz]; omega)
        have hlt : j < listed.size := by omega
        have := List.count_eq_length.1 h1 listed[j] (by simp)
        simp [hlt, ← this]
      have hmn' : m = ops.size := by
        rcases Nat.lt_or_ge m ops.size with h | h
        · have h1 := htl m (Nat.le_refl _) h
          rw [hall m h] at h1
          cases h1
        · omega
      have e := (hat.congr (L' := fun j => decide (j < m)) (v' := v) (fun j hj => by rw [hall j hj]; simp; omega) (fun _ _ _ => rfl)).ext (hfull v)
      rw [e]
      exact seq_any ht hf _ m 0 listed _ u (Nat.le_refl _) hmn rfl ⟨hsz, fun j hj => by rw [hall j hj]; simp; omega⟩ hc (by omega) (hQ v u hSu (holdAll_of fun j hj => hR j (by omega) (hall j (by omega))))
    | succ fuel ih =>
      intro listed b u v hsz hc htl hct hat hSu hR
      by_cases hall : ∀ j, j < m → listed.getD j false = true
      · have hl : ∀ j, j < ops.size → listed.getD j false = decide (j < m) := fun j hj => by
          by_cases hjm : j < m
          · rw [hall j hjm]; simp [hjm]
          · rw [htl j (by omega) hj]; simp [hjm]
        have e := (hat.congr (L' := fun j => decide (j < m)) (v' := v) hl (fun _ _ _ => rfl)).ext (hfull v)
        rw [e]
        refine seq_any ht hf _ m _ listed _ u (Nat.le_refl _) hmn rfl ⟨hsz, hl⟩ hc ?_ (hQ v u hSu (holdAll_of fun j hj => hR j (by omega) (hall j hj)))
        have h1 : listed.toList.count true ≤ m := by
          rw [← List.take_append_drop m listed.toList, List.count_append]
          have h2 : (listed.toList.drop m).count true = 0 := List.count_eq_zero.2 fun hmem => by
            obtain ⟨j, hj⟩ := List.mem_iff_getElem?.1 hmem
            rw [List.getElem?_drop] at hj
            have hlt : m + j < listed.size := by
              rcases Nat.lt_or_ge (m + j) listed.size with h | h
              · exact h
              · rw [List.getElem?_eq_none (by simpa using h)] at hj; cases hj
            have h3 := htl (m + j) (by omega) (by omega)
            simp [hlt] at h3 hj
            rw [h3] at hj
            cases hj
          have h4 : (listed.toList.take m).count true ≤ m := Nat.le_trans List.count_le_length (by simp; omega)
          omega
        omega
      · have hready : ∀ i ∈ Region.ready .any ops listed, i < m := by
          intro i hi
          rcases Nat.lt_or_ge i m with h | h
          · exact h
          · exfalso
            obtain ⟨_, oi, hoi, hdep⟩ := mem_ready.1 hi
            have hio := (Array.getElem?_eq_some_iff.1 hoi).1
            have h2 := List.all_eq_true.1 ht i (List.mem_range.2 hio)
            rw [Bool.or_eq_true] at h2
            rcases h2 with h2 | h2
            · have := of_decide_eq_true h2; omega
            · exact hall fun j hj => reach_listed hc _ _ _ oi hoi hdep (List.all_eq_true.1 h2 j (List.mem_range.2 (by omega)))
        refine ⟨fun hnil => absurd ?_ hall, fun i hi => ?_⟩
        · have : ∀ j, j < ops.size → listed.getD j false = true := by
            intro j
            induction j using Nat.strongRecOn with
            | _ j ihj =>
              intro hj
              cases hx : listed.getD j false with
              | true => rfl
              | false =>
                exfalso
                have hm2 : j ∈ Region.ready .any ops listed := by
                  refine mem_ready.2 ⟨?_, ops[j], by simp [hj], fun e he hb => ?_⟩
                  · have hlt : j < listed.size := by omega
                    simpa [hlt] using hx
                  · have hlt := hf.back (i := j) (by simp [hj]) e he hb
                    exact ihj e.on hlt (by omega)
                rw [hnil] at hm2
                cases hm2
          exact fun j hj => this j (by omega)
        · have him := hready i hi
          obtain ⟨hun, o, ho, hdep⟩ := mem_ready.1 hi
          have hio := (Array.getElem?_eq_some_iff.1 ho).1
          have hlt : i < listed.size := by omega
          have hli : listed[i] = false := by simpa [hlt] using hun
          have hl := looks_eq hf him (fun j h1 h2 => ⟨htl j h1 h2, by simp; omega⟩) ho hat (hfull v) hdep (fun e he hb => by have := hf.back ho e he hb; simp; omega)
          have hop := hops.get (k := i) (o := o) (by rw [List.getElem?_take_of_lt him]; simpa using ho)
          rw [Nat.zero_add] at hop
          have next : ∀ (x : Value) (u' : World), S u' ∧ G u u' ∧ R i x u' → any0 P ops Q fuel (listed.setIfInBounds i true) (b.put o.dst x) u' := by
            rintro x u' ⟨hS', hG, hRi⟩
            refine ih _ _ _ (updV v i x) (by simpa using hsz) (hc.set ho hdep) (fun j hj hjn => by rw [getD_set_ne false (by omega)]; exact htl j hj hjn) ?_ (hat.put hf ho x (fun j hj => getD_set_ne false (Ne.symm hj)) (by simp [hlt])) hS' ?_
            · rw [Array.toList_setIfInBounds, List.count_set (by simpa using hlt)]
              simp only [Array.getElem_toList, hli]
              simp only [BEq.rfl, if_true, show (false == true) = false from rfl, Bool.false_eq_true, if_false, Nat.sub_zero]
              omega
            · intro j hj hlj
              by_cases hji : j = i
              · subst hji; simpa [updV] using hRi
              · rw [getD_set_ne false (Ne.symm hji)] at hlj
                simp only [updV, if_neg hji]
                exact hstab _ _ _ _ hG (hR j hj hlj)
          have hR' : ∀ e ∈ o.after.toList, Region.binds .any e = true → R e.on (v e.on) u := fun e he hb => by
            have he' : e ∈ o.after := by simpa using he
            exact hR e.on (Nat.lt_trans (hf.back ho e he' hb) hio) (hdep e he' hb)
          have hsize : (aF v).tmps.size = b.tmps.size := (hfull v).2.1.trans hat.2.1.symm
          have h := hop v u hSu (waited_of hR') (fun a' w' => ∃ x, a' = (aF v).put o.dst x ∧ (S w' ∧ G u w' ∧ R i x w')) (fun x w' hx => ⟨x, rfl, hx⟩)
          rw [← wanted_same hl] at h
          unfold step0
          simp only [ho]
          split
          · rename_i hw
            rw [if_pos hw] at h
            exact wp_moved (exec_same (fun cs b => Region.noSelect_spec hf.sel i o cs b ho) hl).symm hsize h (fun x w' hx => next x w' hx)
          · rename_i hw
            rw [if_neg hw] at h
            obtain ⟨x, e, hx⟩ := h
            rw [put_same e hsize]
            exact next x u hx
  refine key _ _ _ _ (fun _ => undef) (by simp) ?_ ?_ (by omega) ?_ hS ?_
  · intro i o ho h
    have := (Array.getElem?_eq_some_iff.1 ho).1
    simp [this] at h
  · intro j _ hj
    simp [hj]
  · refine ⟨rfl, rfl, fun t _ => ?_⟩
    cases hp : putter ops t with
    | none => rfl
    | some j =>
      obtain ⟨oj, hoj, _⟩ := putter_some hp
      have := (Array.getElem?_eq_some_iff.1 hoj).1
      simp [this]
  · intro j hj h
    simp [hj] at h
theorem region_flat {id : Nat} {a : Act} {w : World} {Q : Exit → Act → World → Prop} (aF : (Nat → Value) → Act) (S : World → Prop) (G : World → World → Prop) (R : Nat → Value → World → Prop)
    (hm : P.follows .mixedOrders = true) (hok : flatOk ops = true) (haF : ∀ v, putsV ops.toList 0 v a = aF v)
    (hstab : ∀ j x w w', G w w' → R j x w → R j x w') (hS : S w.drew)
    (hops : FlatOps P ops aF S G R ops.toList 0)
    (hQ : ∀ v w', S w' → holdAll R v w' ops.size → Q .normal (aF v) w') : (Code.region id ops true).wp P Q a w :=
  wp_region_any hm (any0_any _ _ _ _ (flat_core aF S G R hok haF hstab hS hops hQ))
theorem region_tail {id : Nat} {a : Act} {w : World} {Q : Exit → Act → World → Prop} (m : Nat) (aF : (Nat → Value) → Act) (S : World → Prop) (G : World → World → Prop) (R : Nat → Value → World → Prop)
    (hm : P.follows .mixedOrders = true) (hok : flatOkT ops m = true) (ht : tailOk ops m = true) (hmn : m ≤ ops.size) (haF : ∀ v, putsV (ops.toList.take m) 0 v a = aF v)
    (hstab : ∀ j x w w', G w w' → R j x w → R j x w') (hS : S w.drew)
    (hops : FlatOps P ops aF S G R (ops.toList.take m) 0)
    (hQ : ∀ v w', S w' → holdAll R v w' m → seqOps P ops Q (ops.toList.drop m) (aF v) w') : (Code.region id ops true).wp P Q a w :=
  wp_region_any hm (any0_any _ _ _ _ (tail_core m aF S G R hok ht hmn haF hstab hS hops hQ))
theorem region_flatIn {F : Fence} (hF : Easy F) {n : Nat} {id : Nat} {a : Act} {w : World} {Q : Exit → Act → World → Prop} (aF : (Nat → Value) → Act) (S : World → Prop) (G : World → World → Prop) (R : Nat → Value → World → Prop)
    (hm : P.follows .mixedOrders = true) (hd : noDefer ops = true) (hok : flatOk ops = true) (haF : ∀ v, putsV ops.toList 0 v a = aF v)
    (hstab : ∀ j x w w', G w w' → R j x w → R j x w') (hS : S w.drew)
    (hops : FlatOps P ops aF S G R ops.toList 0)
    (hQ : ∀ v w', S w' → holdAll R v w' ops.size → Q .normal (aF v) w') : (Code.region id ops true).wpIn F n P Q a w :=
  wpIn_region_any hm (any0_in hF hd _ _ _ _ (flat_core aF S G R hok haF hstab hS hops hQ))
theorem region_tailIn {F : Fence} (hF : Easy F) {n : Nat} {id : Nat} {a : Act} {w : World} {Q : Exit → Act → World → Prop} (m : Nat) (aF : (Nat → Value) → Act) (S : World → Prop) (G : World → World → Prop) (R : Nat → Value → World → Prop)
    (hm : P.follows .mixedOrders = true) (hd : noDefer ops = true) (hok : flatOkT ops m = true) (ht : tailOk ops m = true) (hmn : m ≤ ops.size) (haF : ∀ v, putsV (ops.toList.take m) 0 v a = aF v)
    (hstab : ∀ j x w w', G w w' → R j x w → R j x w') (hS : S w.drew)
    (hops : FlatOps P ops aF S G R (ops.toList.take m) 0)
    (hQ : ∀ v w', S w' → holdAll R v w' m → seqOps P ops Q (ops.toList.drop m) (aF v) w') : (Code.region id ops true).wpIn F n P Q a w :=
  wpIn_region_any hm (any0_in hF hd _ _ _ _ (tail_core m aF S G R hok ht hmn haF hstab hS hops hQ))
theorem seqOps_nil {Q : Exit → Act → World → Prop} {a : Act} {w : World} (h : Q .normal a w) : seqOps P ops Q [] a w := h
theorem seqOps_cons {Q : Exit → Act → World → Prop} {o : Oper} {os : List Oper} {a : Act} {w : World} (h : ∀ K : Act → World → Prop, Hid (∀ a' w', seqOps P ops Q os a' w' → K a' w') → if Region.wanted o (yielded ops a.tmps) then o.wp P a w K Q else K (a.put o.dst undef) w) : seqOps P ops Q (o :: os) a w := h
end
end Go.Proofs.YtmnfmgoolimlmaaDoor
