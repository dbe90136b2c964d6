/- Parts of a proof about the given program: XFlat, XFlat2, XFlat3, XFlat5, XFlat0, XAuto, XPan, XFlat4. -/
import Derived.OrdersHeld
import Derived.OrdersIn
import Derived.OwnWalkIn
import Derived.Test.YtnhooehmcggmdaaGreatDoorZ02
namespace Go.Proofs.YtnhooehmcggmdaaGreatDoor
set_option maxHeartbeats 16000000
set_option linter.unusedVariables false
set_option linter.unusedSimpArgs false
set_option linter.unusedSectionVars false
open Go.RowKit
section
variable {P:Program} {ops:Array Oper}
def Zis (ops:Array Oper) (t:Tmp):Option Nat:=(List.range ops.size).find? fun j=>(ops[j]?.bind (·.dst)) == some t
def Zpv (ops:Array Oper) (m:Nat):Bool:=
 Region.noSelect ops && (List.range ops.size).all fun i=>match ops[i]? with
  | none=>true
  | some o=>(o.after.all fun e=>!Region.binds .any e || decide (e.on < i)) && (List.range ops.size).all fun j=>match (ops[j]?).bind (·.dst) with
    | none=>true
    | some d=>(i == j || o.dst != some d) && (decide (m≤i) || decide (m≤j) || !(o.looksAt ops).contains d || (i != j && o.after.any fun e=>Region.binds .any e && e.on == j))
def Zvu (ops:Array Oper):Bool:=Zpv ops ops.size
def Zbx:List Oper→Nat→(Nat→Value)→Act→Act
 | [],_,_,a=>a
 | o :: os,i,v,a=>Zbx os (i+1) v (a.put o.dst (v i))
def Zic (ops:Array Oper) (L:Nat→Bool) (v:Nat→Value) (a0 a:Act):Prop:=
 a.defers=a0.defers∧a.tmps.size=a0.tmps.size∧∀ t,t < a0.tmps.size→a.tmps[t]?=match Zis ops t with
  | some j=>if L j then some (v j) else a0.tmps[t]?
  | none=>a0.tmps[t]?
theorem Zeq {t:Tmp} {j:Nat} (h:Zis ops t=some j):∃ o,ops[j]?=some o∧o.dst=some t:=by
 have:=List.find?_some h
 cases ho:ops[j]? with
 | none=>simp[ho]at this
 | some o=>exact ⟨o,rfl,by simpa [ho] using this⟩
theorem Zxo {t:Tmp} (h:Zis ops t=none) {j:Nat} {o:Oper} (ho:ops[j]?=some o):o.dst ≠ some t:=by
 have:=List.find?_eq_none.1 h j (List.mem_range.2 (Array.getElem?_eq_some_iff.1 ho).1)
 simpa [ho] using this
structure Flat (ops:Array Oper) (m:Nat):Prop where
 back:∀ {i:Nat} {o:Oper},ops[i]?=some o→∀ e ∈ o.after,Region.binds .any e=true→e.on < i
 sel:Region.noSelect ops=true
 one:∀ {i j:Nat} {o o':Oper} {d:Tmp},ops[i]?=some o→ops[j]?=some o'→o.dst=some d→o'.dst=some d→i=j
 waits:∀ {i j:Nat} {o o':Oper} {d:Tmp},i < m→j < m→ops[i]?=some o→ops[j]?=some o'→o'.dst=some d→d ∈ o.looksAt ops→i ≠ j∧∃ e ∈ o.after,Region.binds .any e=true∧e.on=j
theorem Zng {m:Nat} (h:Zpv ops m=true):Flat ops m:=by
 unfold Zpv at h
 rw[Bool.and_eq_true,List.all_eq_true]at h
 obtain ⟨h1,h2⟩:=h
 have key:∀ {i j:Nat} {o o':Oper} {d:Tmp},ops[i]?=some o→ops[j]?=some o'→o'.dst=some d →
  ((i == j || o.dst != some d) && (decide (m≤i) || decide (m≤j) || !(o.looksAt ops).contains d || (i != j && o.after.any fun e=>Region.binds .any e && e.on == j)))=true:=by
  intro i j o o' d hi hj hd
  have a:=h2 i (List.mem_range.2 (Array.getElem?_eq_some_iff.1 hi).1)
  simp only[hi,Bool.and_eq_true,List.all_eq_true]at a
  have b:=a.2 j (List.mem_range.2 (Array.getElem?_eq_some_iff.1 hj).1)
  simp only[hj,Option.bind_some,hd]at b
  exact b
 refine ⟨fun {i o} hi e he hb=>?_,h1,fun {i j o o' d} hi hj hd hd'=>?_,fun {i j o o' d} him hjm hi hj hd hl=>?_⟩
 · have a:=h2 i (List.mem_range.2 (Array.getElem?_eq_some_iff.1 hi).1)
   simp only[hi,Bool.and_eq_true]at a
   have b:=a.1
   rw[←Array.all_toList,List.all_eq_true]at b
   have c:=b e (by simpa using he)
   simpa [hb] using c
 · have:=key hi hj hd'
   rw[Bool.and_eq_true]at this
   rcases Bool.or_eq_true .. ▸ this.1 with h|h
   · exact eq_of_beq h
   · rw[hd]at h;simp at h
 · have:=key hi hj hd
   rw[Bool.and_eq_true]at this
   rcases Bool.or_eq_true .. ▸ this.2 with h|h
   · have h1:¬ m≤i:=by omega
     have h2:¬ m≤j:=by omega
     simp[hl,h1,h2]at h
   · rw[Bool.and_eq_true]at h
     refine ⟨by simpa using h.1,?_⟩
     have h3:=h.2
     rw[←Array.any_toList,List.any_eq_true]at h3
     obtain ⟨e,he,hb⟩:=h3
     rw[Array.mem_toList_iff]at he
     rw[Bool.and_eq_true]at hb
     exact ⟨e,he,hb.1,eq_of_beq hb.2⟩
def Zcq (v:Nat→Value) (i:Nat) (x:Value):Nat→Value:=fun j=>if j=i then x else v j
theorem Zic.put {L L':Nat→Bool} {v:Nat→Value} {a0 a:Act} {m:Nat} (hf:Flat ops m) (h:Zic ops L v a0 a) {i:Nat} {o:Oper} (ho:ops[i]?=some o) (x:Value) (hL:∀ j,j ≠ i→L' j=L j) (hLi:L' i=true) :
 Zic ops L' (Zcq v i x) a0 (a.put o.dst x):=by
 obtain ⟨h1,h2,h3⟩:=h
 cases hd:o.dst with
 | none=>
   refine ⟨h1,h2,fun t ht=>?_⟩
   rw[show (a.put none x).tmps[t]?=a.tmps[t]? from rfl,h3 t ht]
   cases hp:Zis ops t with
   | none=>rfl
   | some j=>
     obtain ⟨oj,hoj,hdj⟩:=Zeq hp
     have hji:j ≠ i:=by
      intro e
      subst e
      rw[ho]at hoj
      injection hoj with hoj
      rw[←hoj,hd]at hdj
      cases hdj
     simp only[hL j hji,Zcq,if_neg hji]
 | some d=>
   refine ⟨h1,by simpa [Act.put] using h2,fun t ht=>?_⟩
   by_cases htd:t=d
   · subst htd
     have e1:(a.put (some t) x).tmps[t]?=some x:=by simp[Act.put,h2,ht]
     rw[e1]
     cases hp:Zis ops t with
     | none=>exact absurd hd (Zxo hp ho)
     | some j=>
       obtain ⟨oj,hoj,hdj⟩:=Zeq hp
       have:=hf.one hoj ho hdj hd
       subst this
       simp[hLi,Zcq]
   · have e1:(a.put (some d) x).tmps[t]?=a.tmps[t]?:=by simp[Act.put,Array.getElem?_setIfInBounds_ne (Ne.symm htd)]
     rw[e1,h3 t ht]
     cases hp:Zis ops t with
     | none=>rfl
     | some j=>
       obtain ⟨oj,hoj,hdj⟩:=Zeq hp
       have hji:j ≠ i:=by
        intro e
        subst e
        rw[ho]at hoj
        injection hoj with hoj
        rw[←hoj,hd]at hdj
        injection hdj with hdj
        exact htd hdj.symm
       simp only[hL j hji,Zcq,if_neg hji]
theorem Zic.ext {v:Nat→Value} {a0 a b:Act} {L:Nat→Bool} (h:Zic ops L v a0 a) (k:Zic ops L v a0 b):a=b:=by
 obtain ⟨ta,da⟩:=a
 obtain ⟨tb,db⟩:=b
 obtain ⟨h1,h2,h3⟩:=h
 obtain ⟨k1,k2,k3⟩:=k
 simp only at h1 h2 h3 k1 k2 k3
 have:ta=tb:=by
  apply Array.ext_getElem?
  intro t
  rcases Nat.lt_or_ge t a0.tmps.size with ht|ht
  · rw[h3 t ht,k3 t ht]
  · rw[Array.getElem?_eq_none (by omega),Array.getElem?_eq_none (by omega)]
 rw[this,h1,k1]
theorem Zic.congr {L L':Nat→Bool} {v v':Nat→Value} {a0 a:Act} (h:Zic ops L v a0 a) (hL:∀ j,j < ops.size→L j=L' j) (hv:∀ j,j < ops.size→L j=true→v j=v' j):Zic ops L' v' a0 a:=by
 refine ⟨h.1,h.2.1,fun t ht=>?_⟩
 rw[h.2.2 t ht]
 cases hp:Zis ops t with
 | none=>rfl
 | some j=>
   obtain ⟨oj,hoj,hdj⟩:=Zeq hp
   have hj:=(Array.getElem?_eq_some_iff.1 hoj).1
   simp only[←hL j hj]
   cases hLj:L j with
   | true=>simp[hv j hj hLj]
   | false=>rfl
theorem Zzs {m:Nat} (hf:Flat ops m) (v:Nat→Value) (a0:Act):∀ (os:List Oper) (i:Nat) (a:Act),(∀ k,k < os.length→os[k]?=ops[i+k]?)→Zic ops (fun j=>decide (j < i)) v a0 a →
 Zic ops (fun j=>decide (j < i+os.length)) v a0 (Zbx os i v a):=by
 intro os
 induction os with
 | nil=>intro i a _ h;exact h
 | cons o os ih=>
   intro i a hk h
   have ho:ops[i]?=some o:=by have:=hk 0 (by simp);simpa using this.symm
   have h1:=(h.put hf ho (v i) (L':=fun j=>decide (j < i+1)) (fun j hj=>by simp;omega) (by simp)).congr (L':=fun j=>decide (j < i+1)) (v':=v) (fun _ _=>rfl) (fun j _ _=>by
    unfold Zcq;split
    · next e=>rw[e]
    · rfl)
   have h2:=ih (i+1) _ (fun k hkl=>by have:=hk (k+1) (by simp;omega);rw[List.getElem?_cons_succ]at this;rw[this];congr 1;omega) h1
   have e:i+1+os.length=i+(o :: os).length:=by simp;omega
   rw[e]at h2
   exact h2
theorem Ztb {m:Nat} (hf:Flat ops m) (v:Nat→Value) (a0:Act):Zic ops (fun _=>true) v a0 (Zbx ops.toList 0 v a0):=by
 have h0:Zic ops (fun j=>decide (j < 0)) v a0 a0:=⟨rfl,rfl,fun t _=>by
  cases Zis ops t <;> simp⟩
 have:=Zzs hf v a0 ops.toList 0 a0 (fun k _=>by simp) h0
 refine this.congr (fun j hj=>?_) (fun _ _ _=>rfl)
 simp
 omega
theorem Zfv {A b:Act} {d:Option Tmp} {x y:Value} (h:A.put d x=A.put d y) (hs:A.tmps.size=b.tmps.size):b.put d x=b.put d y:=by
 cases d with
 | none=>rfl
 | some d=>
   rcases Nat.lt_or_ge d A.tmps.size with hlt|hge
   · have h1:=congrArg (fun a=>a.tmps[d]?) h
     simp[Act.put,hlt]at h1
     rw[h1]
   · have hn:¬ d < b.tmps.size:=Nat.not_lt.2 (hs ▸ hge)
     simp only[Act.put,Array.setIfInBounds,dif_neg hn]
theorem wp_moved {o:Oper} {A b:Act} {w:World} {T:Value→World→Prop} {next:Act→World→Prop} {Q:Exit→Act→World→Prop} (he:execOp A.eval o=execOp b.eval o) (hs:A.tmps.size=b.tmps.size)
 (h:o.wp P A w (fun a' w'=>∃ x,a'=A.put o.dst x∧T x w') (fun _ _ _=>False)) (hn:∀ x w',T x w'→next (b.put o.dst x) w'):o.wp P b w next Q:=by
 unfold Oper.wp at *
 rw[he]at h
 generalize (execOp b.eval o).run P w=r at *
 cases r with
 | ok n w'=>
   cases n <;> simp only[Oper.upon]at h ⊢
   case value u=>
    obtain ⟨x,e,ht⟩:=h
    rw[Zfv e hs]
    exact hn _ _ ht
   case skip=>
    obtain ⟨x,e,ht⟩:=h
    rw[Zfv e hs]
    exact hn _ _ ht
   case defer d=>
    obtain ⟨x,e,_⟩:=h
    have h1:=congrArg (fun a=>a.defers.length) e
    exfalso
    cases hd:o.dst <;> simp[Act.put,hd]at h1
   case enter f args=>
    refine Calls.mono h fun e w'' he=>?_
    cases e with
    | returned u=>
      obtain ⟨x,e,ht⟩:=he
      show next _ _
      rw[Zfv e hs]
      exact hn _ _ ht
    | panicked c=>exact he.elim
    | outgrown=>obtain ⟨_,_,hh⟩:=he;exact hh.elim
   case row row args=>
    refine Rows.mono h fun u w'' he=>?_
    obtain ⟨x,e,ht⟩:=he
    rw[Zfv e hs]
    exact hn _ _ ht
 | halt x w'=>cases x <;> simp only[Oper.upon]at h ⊢
def rel (l:List (Value→World→Prop)) (j:Nat):Value→World→Prop:=l.getD j (fun _ _=>True)
def Zjs (R:Nat→Value→World→Prop) (v:Nat→Value) (w:World):List Edge→Prop
 | []=>True
 | e :: es=>(Region.binds .any e=true→R e.on (v e.on) w)∧Zjs R v w es
theorem Zlq {R:Nat→Value→World→Prop} {v:Nat→Value} {w:World}:∀ {l:List Edge},(∀ e ∈ l,Region.binds .any e=true→R e.on (v e.on) w)→Zjs R v w l
 | [],_=>trivial
 | e :: _,h=>⟨h e (by simp),Zlq fun x hx=>h x (by simp[hx])⟩
def Zdj (R:Nat→Value→World→Prop) (v:Nat→Value) (w:World):Nat→Prop
 | 0=>True
 | n+1=>Zdj R v w n∧R n (v n) w
theorem Ziy {R:Nat→Value→World→Prop} {v:Nat→Value} {w:World}:∀ {n:Nat},(∀ j,j < n→R j (v j) w)→Zdj R v w n
 | 0,_=>trivial
 | n+1,h=>⟨Ziy fun j hj=>h j (by omega),h n (by omega)⟩
def step0 (P:Program) (ops:Array Oper) (Q:Exit→Act→World→Prop) (i:Nat) (K:Act→World→Prop) (a:Act) (w:World):Prop:=
 match ops[i]? with
 | none=>K a w
 | some o=>if Region.wanted o (yielded ops a.tmps) then o.wp P a w K Q else K (a.put o.dst undef) w
def any0 (P:Program) (ops:Array Oper) (Q:Exit→Act→World→Prop):Nat→Array Bool→Act→World→Prop
 | 0,listed,a,w=>Region.ready .any ops listed=[]∧Q .normal a w
 | fuel+1,listed,a,w=>
   (Region.ready .any ops listed=[]→Q .normal a w) ∧
   ∀ i ∈ Region.ready .any ops listed,step0 P ops Q i (any0 P ops Q fuel (listed.setIfInBounds i true)) a w
theorem Zkt {Q:Exit→Act→World→Prop}:∀ (fuel:Nat) (listed:Array Bool) (a:Act) (w:World),any0 P ops Q fuel listed a w→wpAny P .any ops Q fuel listed a w
 | 0,_,_,_,h=>h
 | fuel+1,listed,a,w,h=>⟨h.1,fun i hi=>by
   have h2:=h.2 i hi
   unfold step0 at h2
   unfold wpOp
   split
   · next hn=>simp only[hn]at h2;exact Zkt fuel _ _ _ h2
   · next o ho=>
     simp only[ho]at h2
     split
     · next hw=>rw[if_pos hw]at h2;exact .inl (Oper.wp_mono (fun a' w' h'=>Zkt fuel _ a' w' h') h2)
     · next hw=>rw[if_neg hw]at h2;exact Zkt fuel _ _ _ h2⟩
def FlatOp (P:Program) (ops:Array Oper) (aF:(Nat→Value)→Act) (S:World→Prop) (G:World→World→Prop) (R:Nat→Value→World→Prop) (i:Nat) (o:Oper):Prop:=
 ∀ (v:Nat→Value) (w:World),S w→Zjs R v w o.after.toList→∀ K:Act→World→Prop,Hid (∀ x w',S w'∧G w w'∧R i x w'→K ((aF v).put o.dst x) w') →
   if Region.wanted o (yielded ops (aF v).tmps) then o.wp P (aF v) w K (fun _ _ _=>False) else K ((aF v).put o.dst undef) w
def Zys (P:Program) (ops:Array Oper) (aF:(Nat→Value)→Act) (S:World→Prop) (G:World→World→Prop) (R:Nat→Value→World→Prop):List Oper→Nat→Prop
 | [],_=>True
 | o :: os,i=>FlatOp P ops aF S G R i o∧Zys P ops aF S G R os (i+1)
theorem Zys.get {aF:(Nat→Value)→Act} {S:World→Prop} {G:World→World→Prop} {R:Nat→Value→World→Prop}:∀ {os:List Oper} {i:Nat},Zys P ops aF S G R os i→∀ {k:Nat} {o:Oper},os[k]?=some o→FlatOp P ops aF S G R (i+k) o:=by
 intro os
 induction os with
 | nil=>intro i _ k o h;simp at h
 | cons x os ih=>
   intro i h k o hk
   cases k with
   | zero=>simp at hk;subst hk;exact h.1
   | succ k=>
     rw[List.getElem?_cons_succ]at hk
     have:=ih h.2 hk
     rw[show i+(k+1)=i+1+k by omega]
     exact this
theorem Zsu {L L':Nat→Bool} {v:Nat→Value} {a0 a b:Act} {m:Nat} (hf:Flat ops m) {i:Nat} (him:i < m) (hbig:∀ j,m≤j→j < ops.size→L j=false∧L' j=false) {o:Oper} (ho:ops[i]?=some o) (ha:Zic ops L v a0 a) (hb:Zic ops L' v a0 b)
 (hdep:∀ e ∈ o.after,Region.binds .any e=true→L e.on=true) (hdep':∀ e ∈ o.after,Region.binds .any e=true→L' e.on=true):∀ t ∈ o.looksAt ops,a.tmps[t]?=b.tmps[t]?:=by
 intro t ht
 rcases Nat.lt_or_ge t a0.tmps.size with hlt|hge
 · rw[ha.2.2 t hlt,hb.2.2 t hlt]
   cases hp:Zis ops t with
   | none=>rfl
   | some j=>
     obtain ⟨oj,hoj,hdj⟩:=Zeq hp
     rcases Nat.lt_or_ge j m with hjm|hjm
     case inr=>
      obtain ⟨h1,h2⟩:=hbig j hjm (Array.getElem?_eq_some_iff.1 hoj).1
      simp[h1,h2]
     obtain ⟨_,e,he,hbd,heq⟩:=hf.waits him hjm ho hoj hdj ht
     have:=hdep e he hbd
     have h2:=hdep' e he hbd
     rw[heq]at this h2
     simp[this,h2]
 · rw[Array.getElem?_eq_none (by rw[ha.2.1];exact hge),Array.getElem?_eq_none (by rw[hb.2.1];exact hge)]
theorem Zpw {a b:Act} {o:Oper} (hs:∀ cs b,o.op ≠ .select cs b) (h:∀ t ∈ o.looksAt ops,a.tmps[t]?=b.tmps[t]?):execOp a.eval o=execOp b.eval o:=
 execOp_congr o hs fun x hx=>by
  cases x with
  | tmp t=>
    have:=h t (List.mem_append_left _ (List.mem_filterMap.2 ⟨.tmp t,by simpa using hx,rfl⟩))
    simp[Act.eval,this]
  | _=>rfl
theorem Zle {a b:Act} {o:Oper} (h:∀ t ∈ o.looksAt ops,a.tmps[t]?=b.tmps[t]?):Region.wanted o (yielded ops a.tmps)=Region.wanted o (yielded ops b.tmps):=by
 unfold Region.wanted
 cases hg:o.guard with
 | none=>rfl
 | some gw=>
   obtain ⟨g,want⟩:=gw
   have hy:yielded ops a.tmps g=yielded ops b.tmps g:=by
    unfold yielded
    cases ht:(ops[g]?).bind (·.dst) with
    | none=>rfl
    | some t=>
      have:=h t (List.mem_append_right _ (by simp[hg,ht]))
      simp only[Option.bind_some,this]
   simp only[hy]
def Zii (ops:Array Oper):Nat→Nat→Nat→Bool
 | 0,_,_=>false
 | f+1,i,j=>match ops[i]? with
   | none=>false
   | some o=>o.after.any fun e=>Region.binds .any e && (e.on == j || Zii ops f e.on j)
def tailOk (ops:Array Oper) (m:Nat):Bool:=(List.range ops.size).all fun k=>decide (k < m) || (List.range k).all fun j=>Zii ops ops.size k j
def Znv (ops:Array Oper) (listed:Array Bool):Prop:=∀ (i:Nat) (o:Oper),ops[i]?=some o→listed.getD i false=true→∀ e ∈ o.after,Region.binds .any e=true→listed.getD e.on false=true
theorem Zgq {listed:Array Bool} (hc:Znv ops listed):∀ (f i j:Nat) (o:Oper),ops[i]?=some o→(∀ e ∈ o.after,Region.binds .any e=true→listed.getD e.on false=true)→Zii ops f i j=true→listed.getD j false=true:=by
 intro f
 induction f with
 | zero=>intro i j o _ _ h;cases h
 | succ f ih=>
   intro i j o ho hd h
   unfold Zii at h
   simp only[ho]at h
   rw[←Array.any_toList,List.any_eq_true]at h
   obtain ⟨e,he,hb⟩:=h
   rw[Array.mem_toList_iff]at he
   rw[Bool.and_eq_true,Bool.or_eq_true]at hb
   have hl:=hd e he hb.1
   rcases hb.2 with h'|h'
   · rw[←eq_of_beq h'];exact hl
   · cases hoe:ops[e.on]? with
     | none=>unfold Zii at h';cases f <;> simp[hoe]at h'
     | some o'=>exact ih e.on j o' hoe (hc e.on o' hoe hl) h'
theorem Znv.set {listed:Array Bool} (hc:Znv ops listed) {i:Nat} {o:Oper} (ho:ops[i]?=some o) (hd:∀ e ∈ o.after,Region.binds .any e=true→listed.getD e.on false=true):Znv ops (listed.setIfInBounds i true):=by
 intro k ok hk hl e he hb
 refine getD_set_true ?_
 by_cases hki:k=i
 · subst hki
   rw[ho]at hk
   injection hk with hk
   subst hk
   exact hd e he hb
 · rw[getD_set_ne false (Ne.symm hki)]at hl
   exact hc k ok hk hl e he hb
def Znr (P:Program) (ops:Array Oper) (Q:Exit→Act→World→Prop):List Oper→Act→World→Prop
 | [],a,w=>Q .normal a w
 | o :: os,a,w=>∀ K:Act→World→Prop,Hid (∀ a' w',Znr P ops Q os a' w'→K a' w')→if Region.wanted o (yielded ops a.tmps) then o.wp P a w K Q else K (a.put o.dst undef) w
def listedTo (ops:Array Oper) (listed:Array Bool) (k:Nat):Prop:=listed.size=ops.size∧∀ j,j < ops.size→listed.getD j false=decide (j < k)
theorem seq_any {Q:Exit→Act→World→Prop} {m:Nat} (ht:tailOk ops m=true) (hf:Flat ops m):∀ (os:List Oper) (k fuel:Nat) (listed:Array Bool) (b:Act) (u:World),m≤k→k≤ops.size→os=ops.toList.drop k→listedTo ops listed k→Znv ops listed→ops.size≤fuel+k →
 Znr P ops Q os b u→any0 P ops Q fuel listed b u:=by
 intro os
 induction os with
 | nil=>
   intro k fuel listed b u hmk hkn hos hl hc hfu h
   have hk:k=ops.size:=by
    have:=congrArg List.length hos
    simp at this
    omega
   subst hk
   have hnil:Region.ready .any ops listed=[]:=by
    refine List.filter_eq_nil_iff.2 fun i hi=>?_
    have hi2:=List.mem_range.1 hi
    have h1:=hl.2 i hi2
    have hlt:i < listed.size:=by rw[hl.1];exact hi2
    simp[hlt,hi2]at h1 ⊢
    simp[h1]
   cases fuel with
   | zero=>exact ⟨hnil,h⟩
   | succ fuel=>exact ⟨fun _=>h,by rw[hnil];simp⟩
 | cons o os ih=>
   intro k fuel listed b u hmk hkn hos hl hc hfu h
   have hk:k < ops.size:=by
    have:=congrArg List.length hos
    simp at this
    omega
   have hok:ops[k]?=some o:=by
    have:=congrArg (fun l=>l[0]?) hos
    simpa using this.symm
   have hos':os=ops.toList.drop (k+1):=by
    have:=congrArg List.tail hos
    simpa using this
   cases fuel with
   | zero=>omega
   | succ fuel=>
     have hkl:k < listed.size:=by rw[hl.1];exact hk
     have hrk:k ∈ Region.ready .any ops listed:=mem_ready.2 ⟨by have:=hl.2 k hk;simpa [hkl] using this,o,hok,fun e he hb=>by
      have:=hf.back hok e he hb
      rw[hl.2 e.on (by omega)]
      simpa using this⟩
     refine ⟨fun hnil=>by rw[hnil]at hrk;simp at hrk,fun i hi=>?_⟩
     obtain ⟨hun,oi,hoi,hdep⟩:=mem_ready.1 hi
     have hio:=(Array.getElem?_eq_some_iff.1 hoi).1
     have hil:i < listed.size:=by rw[hl.1];exact hio
     have hge:¬ i < k:=by
      intro hlt
      have h1:=hl.2 i hio
      simp[hil]at h1 hun
      rw[hun]at h1
      simp at h1
      omega
     have hik:i=k:=by
      rcases Nat.lt_or_ge k i with hlt|_
      · exfalso
        have h2:=List.all_eq_true.1 ht i (List.mem_range.2 hio)
        rw[Bool.or_eq_true]at h2
        rcases h2 with h2|h2
        · have:=of_decide_eq_true h2;omega
        · have h3:=List.all_eq_true.1 h2 k (List.mem_range.2 hlt)
          have h4:=Zgq hc _ _ _ oi hoi hdep h3
          rw[hl.2 k hk]at h4
          simp at h4
      · omega
     subst hik
     rw[hok]at hoi
     injection hoi with hoi
     subst hoi
     have hnext:∀ (a':Act) (w':World),Znr P ops Q os a' w'→any0 P ops Q fuel (listed.setIfInBounds i true) a' w':=fun a' w' hs=>
      ih (i+1) fuel _ a' w' (by omega) (by omega) hos' ⟨by simpa using hl.1,fun j hj=>by
       by_cases hji:j=i
       · subst hji;simp[hil]
       · rw[getD_set_ne false (Ne.symm hji),hl.2 j hj]
         simp
         omega⟩ (hc.set hok hdep) (by omega) hs
     have hh:=h _ hnext
     unfold step0
     simp only[hok]
     split
     · rename_i hw
       rw[if_pos hw]at hh
       exact hh
     · rename_i hw
       rw[if_neg hw]at hh
       exact hh
theorem seqOps_nil {Q:Exit→Act→World→Prop} {a:Act} {w:World} (h:Q .normal a w):Znr P ops Q [] a w:=h
theorem Zpg {Q:Exit→Act→World→Prop} {o:Oper} {os:List Oper} {a:Act} {w:World} (h:∀ K:Act→World→Prop,Hid (∀ a' w',Znr P ops Q os a' w'→K a' w')→if Region.wanted o (yielded ops a.tmps) then o.wp P a w K Q else K (a.put o.dst undef) w):Znr P ops Q (o :: os) a w:=h
end
section
variable {P:Program} {ops:Array Oper}
def FlatOpL (P:Program) (ops:Array Oper) (aF:(Nat→Value)→Act) (S:World→Prop) (G:Nat→World→World→Prop) (R:(Nat→Bool)→Nat→Value→World→Prop) (i:Nat) (o:Oper):Prop:=
 ∀ L:Nat→Bool,L i=false→∀ (v:Nat→Value) (w:World),S w→Zjs (R L) v w o.after.toList→∀ K:Act→World→Prop,Hid (∀ x w',S w'∧G i w w'∧R L i x w'→K ((aF v).put o.dst x) w') →
   if Region.wanted o (yielded ops (aF v).tmps) then o.wp P (aF v) w K (fun _ _ _=>False) else K ((aF v).put o.dst undef) w
def Zts (P:Program) (ops:Array Oper) (aF:(Nat→Value)→Act) (S:World→Prop) (G:Nat→World→World→Prop) (R:(Nat→Bool)→Nat→Value→World→Prop):List Oper→Nat→Prop
 | [],_=>True
 | o :: os,i=>FlatOpL P ops aF S G R i o∧Zts P ops aF S G R os (i+1)
theorem Zts.get {aF:(Nat→Value)→Act} {S:World→Prop} {G:Nat→World→World→Prop} {R:(Nat→Bool)→Nat→Value→World→Prop}:∀ {os:List Oper} {i:Nat},Zts P ops aF S G R os i→∀ {k:Nat} {o:Oper},os[k]?=some o→FlatOpL P ops aF S G R (i+k) o:=by
 intro os
 induction os with
 | nil=>intro i _ k o h;simp at h
 | cons x os ih=>
   intro i h k o hk
   cases k with
   | zero=>simp at hk;subst hk;exact h.1
   | succ k=>
     rw[List.getElem?_cons_succ]at hk
     have:=ih h.2 hk
     rw[show i+(k+1)=i+1+k by omega]
     exact this
end
section
variable {P:Program} {ops:Array Oper}
def FlatOpS (P:Program) (ops:Array Oper) (aF:(Nat→Value)→Act) (S:(Nat→Bool)→World→Prop) (G:Nat→World→World→Prop) (R:(Nat→Bool)→Nat→Value→World→Prop) (i:Nat) (o:Oper):Prop:=
 ∀ L:Nat→Bool,L i=false→(∀ p q,L p=true→Zii ops ops.size p q=true→L q=true)→∀ (v:Nat→Value) (w:World),S L w→Zjs (R L) v w o.after.toList→∀ K:Act→World→Prop,Hid (∀ x w',S (fun k=>decide (k=i) || L k) w'∧G i w w'∧R L i x w'→K ((aF v).put o.dst x) w') →
   if Region.wanted o (yielded ops (aF v).tmps) then o.wp P (aF v) w K (fun _ _ _=>False) else K ((aF v).put o.dst undef) w
def Ztr (P:Program) (ops:Array Oper) (aF:(Nat→Value)→Act) (S:(Nat→Bool)→World→Prop) (G:Nat→World→World→Prop) (R:(Nat→Bool)→Nat→Value→World→Prop):List Oper→Nat→Prop
 | [],_=>True
 | o :: os,i=>FlatOpS P ops aF S G R i o∧Ztr P ops aF S G R os (i+1)
theorem Ztr.get {aF:(Nat→Value)→Act} {S:(Nat→Bool)→World→Prop} {G:Nat→World→World→Prop} {R:(Nat→Bool)→Nat→Value→World→Prop}:∀ {os:List Oper} {i:Nat},Ztr P ops aF S G R os i→∀ {k:Nat} {o:Oper},os[k]?=some o→FlatOpS P ops aF S G R (i+k) o:=by
 intro os
 induction os with
 | nil=>intro i _ k o h;simp at h
 | cons x os ih=>
   intro i h k o hk
   cases k with
   | zero=>simp at hk;subst hk;exact h.1
   | succ k=>
     rw[List.getElem?_cons_succ]at hk
     have:=ih h.2 hk
     rw[show i+(k+1)=i+1+k by omega]
     exact this
end
section
variable {P:Program} {ops:Array Oper}
def Zqg (P:Program) (ops:Array Oper) (aF:(Nat→Value)→Act) (S:(Nat→Bool)→(Nat→Value)→World→Prop) (G:Nat→World→World→Prop) (R:(Nat→Bool)→Nat→Value→World→Prop) (i:Nat) (o:Oper):Prop:=
 ∀ L:Nat→Bool,L i=false→(∀ p q,L p=true→Zii ops ops.size p q=true→L q=true)→∀ (v:Nat→Value) (w:World),S L v w→Zjs (R L) v w o.after.toList→∀ K:Act→World→Prop,Hid (∀ x w',S (fun k=>decide (k=i) || L k) (Zcq v i x) w'∧G i w w'∧R L i x w'→K ((aF v).put o.dst x) w') →
   if Region.wanted o (yielded ops (aF v).tmps) then o.wp P (aF v) w K (fun _ _ _=>False) else K ((aF v).put o.dst undef) w
def Zhl (P:Program) (ops:Array Oper) (aF:(Nat→Value)→Act) (S:(Nat→Bool)→(Nat→Value)→World→Prop) (G:Nat→World→World→Prop) (R:(Nat→Bool)→Nat→Value→World→Prop):List Oper→Nat→Prop
 | [],_=>True
 | o :: os,i=>Zqg P ops aF S G R i o∧Zhl P ops aF S G R os (i+1)
theorem Zhl.get {aF:(Nat→Value)→Act} {S:(Nat→Bool)→(Nat→Value)→World→Prop} {G:Nat→World→World→Prop} {R:(Nat→Bool)→Nat→Value→World→Prop}:∀ {os:List Oper} {i:Nat},Zhl P ops aF S G R os i→∀ {k:Nat} {o:Oper},os[k]?=some o→Zqg P ops aF S G R (i+k) o:=by
 intro os
 induction os with
 | nil=>intro i _ k o h;simp at h
 | cons x os ih=>
   intro i h k o hk
   cases k with
   | zero=>simp at hk;subst hk;exact h.1
   | succ k=>
     rw[List.getElem?_cons_succ]at hk
     have:=ih h.2 hk
     rw[show i+(k+1)=i+1+k by omega]
     exact this
theorem flatV_core {a:Act} {w:World} {Q:Exit→Act→World→Prop} (aF:(Nat→Value)→Act) (S:(Nat→Bool)→(Nat→Value)→World→Prop) (G:Nat→World→World→Prop) (R:(Nat→Bool)→Nat→Value→World→Prop)
 (hok:Zvu ops=true) (haF:∀ v,Zbx ops.toList 0 v a=aF v)
 (hstab:∀ i L j x w w',L i=false→i ≠ j→G i w w'→R L j x w→R (fun k=>decide (k=i) || L k) j x w') (hself:∀ i L x w,L i=false→R L i x w→R (fun k=>decide (k=i) || L k) i x w) (hS:S (fun _=>false) (fun _=>undef) w)
 (hops:Zhl P ops aF S G R ops.toList 0)
 (hext:∀ L L' j x w,(∀ k,k < ops.size→L k=L' k)→R L j x w→R L' j x w) (hextS:∀ L L' v w,(∀ k,k < ops.size→L k=L' k)→S L v w→S L' v w) (hQ:∀ v w',S (fun _=>true) v w'→Zdj (R fun _=>true) v w' ops.size→Q .normal (aF v) w'):any0 P ops Q ops.size (Array.replicate ops.size false) a w:=by
 have hf:=Zng hok
 have key:∀ (fuel:Nat) (listed:Array Bool) (b:Act) (u:World) (v:Nat→Value),listed.size=ops.size→listed.toList.count false≤fuel→Zic ops (fun j=>listed.getD j false) v a b→Znv ops listed→S (fun k=>listed.getD k false) v u →
  (∀ j,j < ops.size→listed.getD j false=true→R (fun k=>listed.getD k false) j (v j) u)→any0 P ops Q fuel listed b u:=by
  have hfin:∀ (listed:Array Bool) (b:Act) (u:World) (v:Nat→Value),(∀ j,j < ops.size→listed.getD j false=true)→Zic ops (fun j=>listed.getD j false) v a b→S (fun k=>listed.getD k false) v u →
   (∀ j,j < ops.size→listed.getD j false=true→R (fun k=>listed.getD k false) j (v j) u)→Q .normal b u:=by
   intro listed b u v hall hat hSu hR
   have e:=(hat.congr (L':=fun _=>true) (v':=v) hall (fun _ _ _=>rfl)).ext (Ztb hf v a)
   rw[e,haF v]
   exact hQ v u (hextS _ _ _ _ (fun k hk=>hall k hk) hSu) (Ziy fun j hj=>hext _ _ _ _ _ (fun k hk=>hall k hk) (hR j hj (hall j hj)))
  intro fuel
  induction fuel with
  | zero=>
    intro listed b u v hsz hc hat hcl hSu hR
    have hall:∀ j,j < ops.size→listed.getD j false=true:=by
     intro j hj
     have h0:=List.count_eq_zero.1 (Nat.le_zero.1 hc)
     cases hx:listed.getD j false with
     | true=>rfl
     | false=>
       refine absurd ?_ h0
       have hlt:j < listed.size:=by omega
       have:listed[j]=false:=by simpa [hlt] using hx
       rw[←this]
       simp
    refine ⟨?_,hfin listed b u v hall hat hSu hR⟩
    refine List.filter_eq_nil_iff.2 fun i hi=>?_
    have hi2:=List.mem_range.1 hi
    have:=hall i hi2
    have hlt:i < listed.size:=by omega
    simp[hlt]at this ⊢
    simp[this]
  | succ fuel ih=>
    intro listed b u v hsz hc hat hcl hSu hR
    refine ⟨fun hnil=>hfin listed b u v ?_ hat hSu hR,fun i hi=>?_⟩
    · intro j
      induction j using Nat.strongRecOn with
      | _ j ihj=>
        intro hj
        cases hx:listed.getD j false with
        | true=>rfl
        | false=>
          exfalso
          have hm2:j ∈ Region.ready .any ops listed:=by
           refine mem_ready.2 ⟨?_,ops[j],by simp[hj],fun e he hb=>?_⟩
           · have hlt:j < listed.size:=by omega
             simpa [hlt] using hx
           · have hlt:=hf.back (i:=j) (by simp[hj]) e he hb
             exact ihj e.on hlt (by omega)
          rw[hnil]at hm2
          cases hm2
    · obtain ⟨hun,o,ho,hdep⟩:=mem_ready.1 hi
      have hio:=(Array.getElem?_eq_some_iff.1 ho).1
      have hlt:i < listed.size:=by omega
      have hli:listed[i]=false:=by simpa [hlt] using hun
      have hfull:=Ztb hf v a
      rw[haF v]at hfull
      have hl:=Zsu hf hio (fun j h1 h2=>absurd h2 (by omega)) ho hat hfull hdep (fun _ _ _=>rfl)
      have hop:=hops.get (k:=i) (o:=o) (by simpa using ho)
      rw[Nat.zero_add]at hop
      have hL'0:∀ k,(listed.setIfInBounds i true).getD k false=(decide (k=i) || listed.getD k false):=fun k=>by
       by_cases hki:k=i
       · subst hki;simp[hlt]
       · rw[getD_set_ne false (Ne.symm hki)];simp[hki]
      have next:∀ (x:Value) (u':World),S (fun k=>decide (k=i) || listed.getD k false) (Zcq v i x) u'∧G i u u'∧R (fun k=>listed.getD k false) i x u'→any0 P ops Q fuel (listed.setIfInBounds i true) (b.put o.dst x) u':=by
       rintro x u' ⟨hS',hG,hRi⟩
       refine ih _ _ _ (Zcq v i x) (by simpa using hsz) ?_ (hat.put hf ho x (fun j hj=>getD_set_ne false (Ne.symm hj)) (by simp[hlt])) (hcl.set ho hdep) (hextS _ _ _ _ (fun k _=>(hL'0 k).symm) hS') ?_
       · rw[Array.toList_setIfInBounds,List.count_set (by simpa using hlt)]
         simp only[Array.getElem_toList,hli]
         have:0 < listed.toList.count false:=List.count_pos_iff.2 (by rw[←hli];simp)
         simp only[BEq.rfl,if_true,show (true == false)=false from rfl,Bool.false_eq_true,if_false,Nat.add_zero]
         omega
       · intro j hj hlj
         have hL':∀ k,(listed.setIfInBounds i true).getD k false=(decide (k=i) || listed.getD k false):=fun k=>by
          by_cases hki:k=i
          · subst hki;simp[hlt]
          · rw[getD_set_ne false (Ne.symm hki)];simp[hki]
         have hLi:(fun k=>listed.getD k false) i=false:=by show listed.getD i false=false;simp[hlt,hli]
         refine hext (fun k=>decide (k=i) || listed.getD k false) _ j _ u' (fun k _=>(hL' k).symm) ?_
         by_cases hji:j=i
         · subst hji
           simp only[Zcq,if_true]
           exact hself _ _ _ _ hLi hRi
         · rw[getD_set_ne false (Ne.symm hji)]at hlj
           simp only[Zcq,if_neg hji]
           exact hstab i _ j _ _ _ hLi (Ne.symm hji) hG (hR j hj hlj)
      have hR':∀ e ∈ o.after.toList,Region.binds .any e=true→R (fun k=>listed.getD k false) e.on (v e.on) u:=fun e he hb=>by
       have he':e ∈ o.after:=by simpa using he
       exact hR e.on (Nat.lt_trans (hf.back ho e he' hb) hio) (hdep e he' hb)
      have hsize:(aF v).tmps.size=b.tmps.size:=hfull.2.1.trans hat.2.1.symm
      have hclL:∀ p q,listed.getD p false=true→Zii ops ops.size p q=true→listed.getD q false=true:=fun p q hp hq=>by
       cases hop:ops[p]? with
       | none=>unfold Zii at hq;cases hz:ops.size with|zero=>rw[hz]at hq;cases hq|succ n=>rw[hz]at hq;simp[hop]at hq
       | some o'=>exact Zgq hcl ops.size p q o' hop (hcl p o' hop hp) hq
      have h:=hop _ (by show listed.getD i false=false;simp[hlt,hli]) hclL v u hSu (Zlq hR') (fun a' w'=>∃ x,a'=(aF v).put o.dst x∧(S (fun k=>decide (k=i) || listed.getD k false) (Zcq v i x) w'∧G i u w'∧R (fun k=>listed.getD k false) i x w')) (fun x w' hx=>⟨x,rfl,hx⟩)
      rw[←Zle hl]at h
      unfold step0
      simp only[ho]
      split
      · rename_i hw
        rw[if_pos hw]at h
        exact wp_moved (Zpw (fun cs b=>Region.noSelect_spec hf.sel i o cs b ho) hl).symm hsize h (fun x w' hx=>next x w' hx)
      · rename_i hw
        rw[if_neg hw]at h
        obtain ⟨x,e,hx⟩:=h
        rw[Zfv e hsize]
        exact next x u hx
 refine key _ _ _ _ (fun _=>undef) (by simp) (by simp) ?_ ?_ (hextS _ _ _ _ (fun k hk=>by simp[hk]) hS) ?_
 · refine ⟨rfl,rfl,fun t _=>?_⟩
   cases hp:Zis ops t with
   | none=>rfl
   | some j=>
     obtain ⟨oj,hoj,_⟩:=Zeq hp
     have:=(Array.getElem?_eq_some_iff.1 hoj).1
     simp[this]
 · intro i o ho h
   have h9:=(Array.getElem?_eq_some_iff.1 ho).1
   simp[h9]at h
 · intro j hj h
   simp[hj]at h
theorem Zut {id:Nat} {a:Act} {w:World} {Q:Exit→Act→World→Prop} (aF:(Nat→Value)→Act) (S:(Nat→Bool)→(Nat→Value)→World→Prop) (G:Nat→World→World→Prop) (R:(Nat→Bool)→Nat→Value→World→Prop)
 (hm:P.follows .mixedOrders=true) (hok:Zvu ops=true) (haF:∀ v,Zbx ops.toList 0 v a=aF v)
 (hstab:∀ i L j x w w',L i=false→i ≠ j→G i w w'→R L j x w→R (fun k=>decide (k=i) || L k) j x w') (hself:∀ i L x w,L i=false→R L i x w→R (fun k=>decide (k=i) || L k) i x w) (hS:S (fun _=>false) (fun _=>undef) w.drew)
 (hops:Zhl P ops aF S G R ops.toList 0)
 (hext:∀ L L' j x w,(∀ k,k < ops.size→L k=L' k)→R L j x w→R L' j x w) (hextS:∀ L L' v w,(∀ k,k < ops.size→L k=L' k)→S L v w→S L' v w) (hQ:∀ v w',S (fun _=>true) v w'→Zdj (R fun _=>true) v w' ops.size→Q .normal (aF v) w'):(Code.region id ops true).wp P Q a w:=
 wp_region_any hm (Zkt _ _ _ _ (flatV_core aF S G R hok haF hstab hself hS hops hext hextS hQ))
end
section
variable {P:Program} {ops:Array Oper}
end
section
variable {P:Program} {ops:Array Oper}
def eqv (x:Value):Value→World→Prop:=fun v _=>v=x
def Zak (acc:List (Value→World→Prop)) (i j:Nat):Value→World→Prop:=acc.getD (i - 1 - j) fun _ _=>True
def Zal (acc:List (Value→World→Prop)) (i:Nat) (v:Nat→Value) (w:World):List Nat→Prop
 | []=>True
 | [j]=>Zak acc i j (v j) w
 | j :: js=>Zak acc i j (v j) w∧Zal acc i v w js
theorem Zik {acc:List (Value→World→Prop)} {i:Nat} {v:Nat→Value} {w:World}:∀ {l:List Nat},(∀ j ∈ l,Zak acc i j (v j) w)→Zal acc i v w l
 | [],_=>trivial
 | [j],h=>h j (by simp)
 | j :: k :: l,h=>⟨h j (by simp),Zik fun x hx=>h x (by simp[hx])⟩
def Ztt (P:Program) (ops:Array Oper) (aF:(Nat→Value)→Act) (S:(Nat→Bool)→(Nat→Value)→World→Prop) (G:Nat→World→World→Prop) (Q:Exit→Act→World→Prop):List Oper→Nat→List (Value→World→Prop)→Prop
 | [],i,acc=>∀ v w',S (fun _=>true) v w'→Zdj (Zak acc i) v w' i→Q .normal (aF v) w'
 | o :: os,i,acc=>∃ Ri:Value→World→Prop,(∀ j x w w',j ≠ i→G j w w'→Ri x w→Ri x w')∧Zqg P ops aF S G (fun _=>Zak (Ri :: acc) (i+1)) i o∧Ztt P ops aF S G Q os (i+1) (Ri :: acc)
variable {aF:(Nat→Value)→Act} {S:(Nat→Bool)→(Nat→Value)→World→Prop} {G:Nat→World→World→Prop} {Q:Exit→Act→World→Prop}
theorem Zff {acc:List (Value→World→Prop)} {R:Value→World→Prop} {i j:Nat} (h:j < i):Zak (R :: acc) (i+1) j=Zak acc i j:=by
 unfold Zak
 rw[show i+1 - 1 - j=(i - 1 - j)+1 by omega,Zl4]
theorem Zhg {acc:List (Value→World→Prop)} {R:Value→World→Prop} {i:Nat}:Zak (R :: acc) (i+1) i=R:=by
 unfold Zak
 rw[show i+1 - 1 - i=0 by omega,Zl3]
theorem Zjr {R R':Nat→Value→World→Prop} {v:Nat→Value} {w:World}:∀ {l:List Edge},(∀ e ∈ l,Region.binds .any e=true→R e.on=R' e.on)→Zjs R v w l→Zjs R' v w l
 | [],_,_=>trivial
 | e :: l,h,hw=>⟨fun hb=>by rw[←h e (by simp) hb];exact hw.1 hb,Zjr (fun x hx=>h x (by simp[hx])) hw.2⟩
theorem Zgb {R:Nat→Value→World→Prop} {v:Nat→Value} {w:World}:∀ {l:List Edge},Zjs R v w l→∀ e ∈ l,Region.binds .any e=true→R e.on (v e.on) w
 | e :: l,h,x,hx,hb=>by
   rcases List.mem_cons.1 hx with rfl|hx
   · exact h.1 hb
   · exact Zgb h.2 x hx hb
theorem Zmh {R R':(Nat→Bool)→Nat→Value→World→Prop} {i:Nat} {o:Oper} (h:Zqg P ops aF S G R i o) (hi:∀ L,R L i=R' L i) (he:∀ L,∀ e ∈ o.after.toList,Region.binds .any e=true→R L e.on=R' L e.on):Zqg P ops aF S G R' i o:=by
 intro L h1 h2 v w hS hw K hK
 exact h L h1 h2 v w hS (Zjr (fun e hm hb=>(he L e hm hb).symm) hw) K (fun x w' hx=>Hid.out hK x w' ⟨hx.1,hx.2.1,by rw[←hi];exact hx.2.2⟩)
theorem Zvv (hf:Flat ops ops.size):∀ (os:List Oper) (i:Nat) (acc:List (Value→World→Prop)),i≤ops.size→ops.toList.drop i=os→(∀ k,k < i→∀ j x w w',j ≠ k→G j w w'→Zak acc i k x w→Zak acc i k x w') →
 Ztt P ops aF S G Q os i acc→∃ all:Nat→Value→World→Prop,(∀ k,k < i→all k=Zak acc i k)∧(∀ k j x w w',k < ops.size→j ≠ k→G j w w'→all k x w→all k x w')∧Zhl P ops aF S G (fun _=>all) os i ∧
  ∀ v w',S (fun _=>true) v w'→Zdj all v w' ops.size→Q .normal (aF v) w':=by
 intro os
 induction os with
 | nil=>
   intro i acc hi hd hst h
   obtain rfl:i=ops.size:=by
    have:=congrArg List.length hd
    simp at this
    omega
   exact ⟨Zak acc ops.size,fun _ _=>rfl,fun k j x w w' hk=>hst k hk j x w w',trivial,h⟩
 | cons o os ih=>
   intro i acc hi hd hst h
   obtain ⟨Ri,h1,h2,h3⟩:=h
   have hi':i < ops.size:=by
    have:=congrArg List.length hd
    simp at this
    omega
   have ho:ops[i]?=some o:=by
    have:=congrArg (·[0]?) hd
    simp only[List.getElem?_drop,Nat.add_zero,List.getElem?_cons_zero,Array.getElem?_toList]at this
    exact this
   have hd':ops.toList.drop (i+1)=os:=by
    have:=congrArg (List.drop 1) hd
    simpa [List.drop_drop] using this
   obtain ⟨all,k1,k2,k3,k4⟩:=ih (i+1) (Ri :: acc) (by omega) hd' (fun k hk j x w w' hj hg hr=>by
    rcases Nat.lt_or_ge k i with hki|hki
    · rw[Zff hki]at hr ⊢
      exact hst k hki j x w w' hj hg hr
    · obtain rfl:k=i:=by omega
      rw[Zhg]at hr ⊢
      exact h1 j x w w' hj hg hr) h3
   refine ⟨all,fun k hk=>by rw[k1 k (by omega),Zff hk],k2,⟨Zmh h2 (fun _=>(k1 i (by omega)).symm) (fun _ e he hb=>?_),k3⟩,k4⟩
   have:=hf.back ho e (by simpa using he) hb
   exact (k1 _ (by omega)).symm
theorem flatE_rel (hf:Flat ops ops.size) (h:Ztt P ops aF S G Q ops.toList 0 []):∃ all:Nat→Value→World→Prop,(∀ i L j x w w',L i=false→i ≠ j→G i w w'→(fun _:Nat→Bool=>all) L j x w→(fun _:Nat→Bool=>all) (fun k=>decide (k=i) || L k) j x w')∧Zhl P ops aF S G (fun _=>all) ops.toList 0 ∧
 ∀ v w',S (fun _=>true) v w'→Zdj all v w' ops.size→Q .normal (aF v) w':=by
 obtain ⟨all,-,h2,h3,h4⟩:=Zvv hf ops.toList 0 [] (Nat.zero_le _) rfl (fun k hk=>by omega) h
 refine ⟨fun j=>if j < ops.size then all j else fun _ _=>True,?_,?_,?_⟩
 · intro i L j x w w' _ hij hg hr
   by_cases hj:j < ops.size
   · have hr':all j x w:=by have h9:=hr;simp only[if_pos hj]at h9;exact h9
     show (if j < ops.size then all j else fun _ _=>True) x w'
     rw[if_pos hj]
     exact h2 j i x w w' hj hij hg hr'
   · show (if j < ops.size then all j else fun _ _=>True) x w'
     rw[if_neg hj]
     trivial
 · have:∀ (os:List Oper) (i:Nat),ops.toList.drop i=os→Zhl P ops aF S G (fun _=>all) os i→Zhl P ops aF S G (fun _ j=>if j < ops.size then all j else fun _ _=>True) os i:=by
    intro os
    induction os with
    | nil=>intro i _ _;trivial
    | cons o os ih=>
      intro i hd h
      have hi':i < ops.size:=by
       have:=congrArg List.length hd
       simp at this
       omega
      have ho:ops[i]?=some o:=by
       have:=congrArg (·[0]?) hd
       simp only[List.getElem?_drop,Nat.add_zero,List.getElem?_cons_zero,Array.getElem?_toList]at this
       exact this
      refine ⟨Zmh h.1 (fun _=>by show all i=if i < ops.size then all i else _;rw[if_pos hi']) (fun _ e he hb=>?_),ih (i+1) (by have:=congrArg (List.drop 1) hd;simpa [List.drop_drop] using this) h.2⟩
      have:=hf.back ho e (by simpa using he) hb
      show all e.on=if e.on < ops.size then all e.on else _
      rw[if_pos (by omega)]
   exact this _ 0 rfl h3
 · intro v w' hS hh
   refine h4 v w' hS ?_
   have:∀ n,n≤ops.size→Zdj (fun j=>if j < ops.size then all j else fun _ _=>True) v w' n→Zdj all v w' n:=by
    intro n
    induction n with
    | zero=>intro _ _;trivial
    | succ n ih=>
      intro hn h
      refine ⟨ih (by omega) h.1,?_⟩
      have h9:(if n < ops.size then all n else fun _ _=>True) (v n) w':=h.2
      rw[if_pos (by omega)]at h9
      exact h9
   exact this _ (Nat.le_refl _) hh
theorem Zap {id:Nat} {a:Act} {w:World} (S:(Nat→Bool)→(Nat→Value)→World→Prop) (G:Nat→World→World→Prop) (aF:(Nat→Value)→Act)
 (hm:P.follows .mixedOrders=true) (hok:Zvu ops=true) (haF:∀ v,Zbx ops.toList 0 v a=aF v) (hS:S (fun _=>false) (fun _=>undef) w.drew)
 (hextS:∀ L L' v w,(∀ k,k < ops.size→L k=L' k)→S L v w→S L' v w) (h:Ztt P ops aF S G Q ops.toList 0 []):(Code.region id ops true).wp P Q a w:=by
 obtain ⟨all,h2,h3,h4⟩:=flatE_rel (Zng hok) h
 exact Zut aF S G (fun _=>all) hm hok haF h2 (fun _ _ _ _ _ h=>h) hS h3 (fun _ _ _ _ _ _ h=>h) hextS h4
theorem Zaa (Zim:List Nat) {o:Oper} {os:List Oper} {i:Nat} {acc:List (Value→World→Prop)} (x:Value)
 (h:∀ L:Nat→Bool,L i=false→(∀ p q,L p=true→Zii ops ops.size p q=true→L q=true)→∀ (v:Nat→Value) (w:World),S L v w→Zal acc i v w Zim→∀ K:Act→World→Prop,
   Hid (∀ w',S (fun k=>decide (k=i) || L k) (Zcq v i x) w'∧G i w w'→K ((aF v).put o.dst x) w')→if Region.wanted o (yielded ops (aF v).tmps) then o.wp P (aF v) w K (fun _ _ _=>False) else K ((aF v).put o.dst undef) w)
 (hb:(Zim.all fun j=>decide (j < i) && o.after.any fun e=>Region.binds .any e && e.on == j)=true)
 {j:Nat} (hj:j=i+1) (hn:Ztt P ops aF S G Q os j (eqv x :: acc)):Ztt P ops aF S G Q (o :: os) i acc:=by
 subst hj
 refine ⟨eqv x,fun _ _ _ _ _ _ h=>h,?_,hn⟩
 intro L h1 h2 v w hS hw K hK
 refine h L h1 h2 v w hS (Zik fun j hj=>?_) K (fun w' hx=>Hid.out hK x w' ⟨hx.1,hx.2,?_⟩)
 · have h3:=List.all_eq_true.1 hb j hj
   rw[Bool.and_eq_true,←Array.any_toList,List.any_eq_true]at h3
   obtain ⟨h4,e,he,h5⟩:=h3
   rw[Bool.and_eq_true]at h5
   have h6:=Zgb hw e he h5.1
   have h7:e.on=j:=eq_of_beq h5.2
   rw[h7]at h6
   have h8:Zak (eqv x :: acc) (i+1) j (v j) w:=h6
   rw[Zff (by simpa using h4)]at h8
   exact h8
 · show Zak (eqv x :: acc) (i+1) i x w'
   rw[Zhg]
   rfl
theorem Zam (Zim:List Nat) {o:Oper} {os:List Oper} {i:Nat} {acc:List (Value→World→Prop)} (R:Value→World→Prop) (hst:∀ j x w w',j ≠ i→G j w w'→R x w→R x w')
 (h:∀ L:Nat→Bool,L i=false→(∀ p q,L p=true→Zii ops ops.size p q=true→L q=true)→∀ (v:Nat→Value) (w:World),S L v w→Zal acc i v w Zim→∀ K:Act→World→Prop,
   Hid (∀ x w',S (fun k=>decide (k=i) || L k) (Zcq v i x) w'∧G i w w'∧R x w'→K ((aF v).put o.dst x) w')→if Region.wanted o (yielded ops (aF v).tmps) then o.wp P (aF v) w K (fun _ _ _=>False) else K ((aF v).put o.dst undef) w)
 (hb:(Zim.all fun j=>decide (j < i) && o.after.any fun e=>Region.binds .any e && e.on == j)=true)
 {j:Nat} (hj:j=i+1) (hn:Ztt P ops aF S G Q os j (R :: acc)):Ztt P ops aF S G Q (o :: os) i acc:=by
 subst hj
 refine ⟨R,hst,?_,hn⟩
 intro L h1 h2 v w hS hw K hK
 refine h L h1 h2 v w hS (Zik fun j hj=>?_) K (fun x w' hx=>Hid.out hK x w' ⟨hx.1,hx.2.1,?_⟩)
 · have h3:=List.all_eq_true.1 hb j hj
   rw[Bool.and_eq_true,←Array.any_toList,List.any_eq_true]at h3
   obtain ⟨h4,e,he,h5⟩:=h3
   rw[Bool.and_eq_true]at h5
   have h6:=Zgb hw e he h5.1
   have h7:e.on=j:=eq_of_beq h5.2
   rw[h7]at h6
   have h8:Zak (R :: acc) (i+1) j (v j) w:=h6
   rw[Zff (by simpa using h4)]at h8
   exact h8
 · show Zak (R :: acc) (i+1) i x w'
   rw[Zhg]
   exact hx.2.2
theorem Zkq {R:Nat→Value→World→Prop} {v:Nat→Value} {w:World}:∀ {n:Nat},Zdj R v w n→∀ j,j < n→R j (v j) w
 | n+1,h,j,hj=>by
   rcases Nat.lt_or_ge j n with h1|h1
   · exact Zkq h.1 j h1
   · obtain rfl:j=n:=by omega
     exact h.2
theorem Zau (Zim:List Nat) {i:Nat} {acc:List (Value→World→Prop)} (hb:(Zim.all fun j=>decide (j < i))=true) (h:∀ v w',S (fun _=>true) v w'→Zal acc i v w' Zim→Q .normal (aF v) w'):Ztt P ops aF S G Q [] i acc:=
 fun v w' hS hh=>h v w' hS (Zik fun j hj=>Zkq hh j (by simpa using List.all_eq_true.1 hb j hj))
end
section
variable {P:Program} {ops:Array Oper} {X:Exit→World→Prop} {Q:Exit→Act→World→Prop}
theorem Ztw {X:Exit→World→Prop} {o:Oper} {A b:Act} {w:World} {T:Value→World→Prop} {next:Act→World→Prop} {Q:Exit→Act→World→Prop} (hX:∀ e w,X e w→Q e b w) (he:execOp A.eval o=execOp b.eval o) (hs:A.tmps.size=b.tmps.size)
 (h:o.wp P A w (fun a' w'=>∃ x,a'=A.put o.dst x∧T x w') (fun e _ w'=>X e w')) (hn:∀ x w',T x w'→next (b.put o.dst x) w'):o.wp P b w next Q:=by
 unfold Oper.wp at *
 rw[he]at h
 generalize (execOp b.eval o).run P w=r at *
 cases r with
 | ok n w'=>
   cases n <;> simp only[Oper.upon]at h ⊢
   case value u=>
    obtain ⟨x,e,ht⟩:=h
    rw[Zfv e hs]
    exact hn _ _ ht
   case skip=>
    obtain ⟨x,e,ht⟩:=h
    rw[Zfv e hs]
    exact hn _ _ ht
   case defer d=>
    obtain ⟨x,e,_⟩:=h
    have h1:=congrArg (fun a=>a.defers.length) e
    exfalso
    cases hd:o.dst <;> simp[Act.put,hd]at h1
   case enter f args=>
    refine Calls.mono h fun e w'' he=>?_
    cases e with
    | returned u=>
      obtain ⟨x,e,ht⟩:=he
      show next _ _
      rw[Zfv e hs]
      exact hn _ _ ht
    | panicked c=>exact hX _ _ he
    | outgrown=>obtain ⟨a',w',hh⟩:=he;exact ⟨b,w',hX _ _ hh⟩
   case row row args=>
    refine Rows.mono h fun u w'' he=>?_
    obtain ⟨x,e,ht⟩:=he
    rw[Zfv e hs]
    exact hn _ _ ht
 | halt x w'=>
   cases x <;> simp only[Oper.upon]at h ⊢
   exact hX _ _ h
def Zku (X:Exit→World→Prop) (P:Program) (ops:Array Oper) (aF:(Nat→Value)→Act) (S:(Nat→Bool)→(Nat→Value)→World→Prop) (G:Nat→World→World→Prop) (R:(Nat→Bool)→Nat→Value→World→Prop) (i:Nat) (o:Oper):Prop:=
 ∀ L:Nat→Bool,L i=false→(∀ p q,L p=true→Zii ops ops.size p q=true→L q=true)→∀ (v:Nat→Value) (w:World),S L v w→Zjs (R L) v w o.after.toList→∀ K:Act→World→Prop,Hid (∀ x w',S (fun k=>decide (k=i) || L k) (Zcq v i x) w'∧G i w w'∧R L i x w'→K ((aF v).put o.dst x) w') →
   if Region.wanted o (yielded ops (aF v).tmps) then o.wp P (aF v) w K (fun e _ w'=>X e w') else K ((aF v).put o.dst undef) w
def Zds (X:Exit→World→Prop) (P:Program) (ops:Array Oper) (aF:(Nat→Value)→Act) (S:(Nat→Bool)→(Nat→Value)→World→Prop) (G:Nat→World→World→Prop) (R:(Nat→Bool)→Nat→Value→World→Prop):List Oper→Nat→Prop
 | [],_=>True
 | o :: os,i=>Zku X P ops aF S G R i o∧Zds X P ops aF S G R os (i+1)
theorem Zds.get {aF:(Nat→Value)→Act} {S:(Nat→Bool)→(Nat→Value)→World→Prop} {G:Nat→World→World→Prop} {R:(Nat→Bool)→Nat→Value→World→Prop}:∀ {os:List Oper} {i:Nat},Zds X P ops aF S G R os i→∀ {k:Nat} {o:Oper},os[k]?=some o→Zku X P ops aF S G R (i+k) o:=by
 intro os
 induction os with
 | nil=>intro i _ k o h;simp at h
 | cons x os ih=>
   intro i h k o hk
   cases k with
   | zero=>simp at hk;subst hk;exact h.1
   | succ k=>
     rw[List.getElem?_cons_succ]at hk
     have:=ih h.2 hk
     rw[show i+(k+1)=i+1+k by omega]
     exact this
theorem Zye {a:Act} {w:World} (hX:∀ e b w,b.defers=a.defers→X e w→Q e b w) (aF:(Nat→Value)→Act) (S:(Nat→Bool)→(Nat→Value)→World→Prop) (G:Nat→World→World→Prop) (R:(Nat→Bool)→Nat→Value→World→Prop)
 (hok:Zvu ops=true) (haF:∀ v,Zbx ops.toList 0 v a=aF v)
 (hstab:∀ i L j x w w',L i=false→i ≠ j→G i w w'→R L j x w→R (fun k=>decide (k=i) || L k) j x w') (hself:∀ i L x w,L i=false→R L i x w→R (fun k=>decide (k=i) || L k) i x w) (hS:S (fun _=>false) (fun _=>undef) w)
 (hops:Zds X P ops aF S G R ops.toList 0)
 (hext:∀ L L' j x w,(∀ k,k < ops.size→L k=L' k)→R L j x w→R L' j x w) (hextS:∀ L L' v w,(∀ k,k < ops.size→L k=L' k)→S L v w→S L' v w) (hQ:∀ v w',S (fun _=>true) v w'→Zdj (R fun _=>true) v w' ops.size→Q .normal (aF v) w'):any0 P ops Q ops.size (Array.replicate ops.size false) a w:=by
 have hf:=Zng hok
 have key:∀ (fuel:Nat) (listed:Array Bool) (b:Act) (u:World) (v:Nat→Value),listed.size=ops.size→listed.toList.count false≤fuel→Zic ops (fun j=>listed.getD j false) v a b→Znv ops listed→S (fun k=>listed.getD k false) v u →
  (∀ j,j < ops.size→listed.getD j false=true→R (fun k=>listed.getD k false) j (v j) u)→any0 P ops Q fuel listed b u:=by
  have hfin:∀ (listed:Array Bool) (b:Act) (u:World) (v:Nat→Value),(∀ j,j < ops.size→listed.getD j false=true)→Zic ops (fun j=>listed.getD j false) v a b→S (fun k=>listed.getD k false) v u →
   (∀ j,j < ops.size→listed.getD j false=true→R (fun k=>listed.getD k false) j (v j) u)→Q .normal b u:=by
   intro listed b u v hall hat hSu hR
   have e:=(hat.congr (L':=fun _=>true) (v':=v) hall (fun _ _ _=>rfl)).ext (Ztb hf v a)
   rw[e,haF v]
   exact hQ v u (hextS _ _ _ _ (fun k hk=>hall k hk) hSu) (Ziy fun j hj=>hext _ _ _ _ _ (fun k hk=>hall k hk) (hR j hj (hall j hj)))
  intro fuel
  induction fuel with
  | zero=>
    intro listed b u v hsz hc hat hcl hSu hR
    have hall:∀ j,j < ops.size→listed.getD j false=true:=by
     intro j hj
     have h0:=List.count_eq_zero.1 (Nat.le_zero.1 hc)
     cases hx:listed.getD j false with
     | true=>rfl
     | false=>
       refine absurd ?_ h0
       have hlt:j < listed.size:=by omega
       have:listed[j]=false:=by simpa [hlt] using hx
       rw[←this]
       simp
    refine ⟨?_,hfin listed b u v hall hat hSu hR⟩
    refine List.filter_eq_nil_iff.2 fun i hi=>?_
    have hi2:=List.mem_range.1 hi
    have:=hall i hi2
    have hlt:i < listed.size:=by omega
    simp[hlt]at this ⊢
    simp[this]
  | succ fuel ih=>
    intro listed b u v hsz hc hat hcl hSu hR
    refine ⟨fun hnil=>hfin listed b u v ?_ hat hSu hR,fun i hi=>?_⟩
    · intro j
      induction j using Nat.strongRecOn with
      | _ j ihj=>
        intro hj
        cases hx:listed.getD j false with
        | true=>rfl
        | false=>
          exfalso
          have hm2:j ∈ Region.ready .any ops listed:=by
           refine mem_ready.2 ⟨?_,ops[j],by simp[hj],fun e he hb=>?_⟩
           · have hlt:j < listed.size:=by omega
             simpa [hlt] using hx
           · have hlt:=hf.back (i:=j) (by simp[hj]) e he hb
             exact ihj e.on hlt (by omega)
          rw[hnil]at hm2
          cases hm2
    · obtain ⟨hun,o,ho,hdep⟩:=mem_ready.1 hi
      have hio:=(Array.getElem?_eq_some_iff.1 ho).1
      have hlt:i < listed.size:=by omega
      have hli:listed[i]=false:=by simpa [hlt] using hun
      have hfull:=Ztb hf v a
      rw[haF v]at hfull
      have hl:=Zsu hf hio (fun j h1 h2=>absurd h2 (by omega)) ho hat hfull hdep (fun _ _ _=>rfl)
      have hop:=hops.get (k:=i) (o:=o) (by simpa using ho)
      rw[Nat.zero_add]at hop
      have hL'0:∀ k,(listed.setIfInBounds i true).getD k false=(decide (k=i) || listed.getD k false):=fun k=>by
       by_cases hki:k=i
       · subst hki;simp[hlt]
       · rw[getD_set_ne false (Ne.symm hki)];simp[hki]
      have next:∀ (x:Value) (u':World),S (fun k=>decide (k=i) || listed.getD k false) (Zcq v i x) u'∧G i u u'∧R (fun k=>listed.getD k false) i x u'→any0 P ops Q fuel (listed.setIfInBounds i true) (b.put o.dst x) u':=by
       rintro x u' ⟨hS',hG,hRi⟩
       refine ih _ _ _ (Zcq v i x) (by simpa using hsz) ?_ (hat.put hf ho x (fun j hj=>getD_set_ne false (Ne.symm hj)) (by simp[hlt])) (hcl.set ho hdep) (hextS _ _ _ _ (fun k _=>(hL'0 k).symm) hS') ?_
       · rw[Array.toList_setIfInBounds,List.count_set (by simpa using hlt)]
         simp only[Array.getElem_toList,hli]
         have:0 < listed.toList.count false:=List.count_pos_iff.2 (by rw[←hli];simp)
         simp only[BEq.rfl,if_true,show (true == false)=false from rfl,Bool.false_eq_true,if_false,Nat.add_zero]
         omega
       · intro j hj hlj
         have hL':∀ k,(listed.setIfInBounds i true).getD k false=(decide (k=i) || listed.getD k false):=fun k=>by
          by_cases hki:k=i
          · subst hki;simp[hlt]
          · rw[getD_set_ne false (Ne.symm hki)];simp[hki]
         have hLi:(fun k=>listed.getD k false) i=false:=by show listed.getD i false=false;simp[hlt,hli]
         refine hext (fun k=>decide (k=i) || listed.getD k false) _ j _ u' (fun k _=>(hL' k).symm) ?_
         by_cases hji:j=i
         · subst hji
           simp only[Zcq,if_true]
           exact hself _ _ _ _ hLi hRi
         · rw[getD_set_ne false (Ne.symm hji)]at hlj
           simp only[Zcq,if_neg hji]
           exact hstab i _ j _ _ _ hLi (Ne.symm hji) hG (hR j hj hlj)
      have hR':∀ e ∈ o.after.toList,Region.binds .any e=true→R (fun k=>listed.getD k false) e.on (v e.on) u:=fun e he hb=>by
       have he':e ∈ o.after:=by simpa using he
       exact hR e.on (Nat.lt_trans (hf.back ho e he' hb) hio) (hdep e he' hb)
      have hsize:(aF v).tmps.size=b.tmps.size:=hfull.2.1.trans hat.2.1.symm
      have hclL:∀ p q,listed.getD p false=true→Zii ops ops.size p q=true→listed.getD q false=true:=fun p q hp hq=>by
       cases hop:ops[p]? with
       | none=>unfold Zii at hq;cases hz:ops.size with|zero=>rw[hz]at hq;cases hq|succ n=>rw[hz]at hq;simp[hop]at hq
       | some o'=>exact Zgq hcl ops.size p q o' hop (hcl p o' hop hp) hq
      have h:=hop _ (by show listed.getD i false=false;simp[hlt,hli]) hclL v u hSu (Zlq hR') (fun a' w'=>∃ x,a'=(aF v).put o.dst x∧(S (fun k=>decide (k=i) || listed.getD k false) (Zcq v i x) w'∧G i u w'∧R (fun k=>listed.getD k false) i x w')) (fun x w' hx=>⟨x,rfl,hx⟩)
      rw[←Zle hl]at h
      unfold step0
      simp only[ho]
      split
      · rename_i hw
        rw[if_pos hw]at h
        exact Ztw (fun e w h=>hX e b w hat.1 h) (Zpw (fun cs b=>Region.noSelect_spec hf.sel i o cs b ho) hl).symm hsize h (fun x w' hx=>next x w' hx)
      · rename_i hw
        rw[if_neg hw]at h
        obtain ⟨x,e,hx⟩:=h
        rw[Zfv e hsize]
        exact next x u hx
 refine key _ _ _ _ (fun _=>undef) (by simp) (by simp) ?_ ?_ (hextS _ _ _ _ (fun k hk=>by simp[hk]) hS) ?_
 · refine ⟨rfl,rfl,fun t _=>?_⟩
   cases hp:Zis ops t with
   | none=>rfl
   | some j=>
     obtain ⟨oj,hoj,_⟩:=Zeq hp
     have:=(Array.getElem?_eq_some_iff.1 hoj).1
     simp[this]
 · intro i o ho h
   have h9:=(Array.getElem?_eq_some_iff.1 ho).1
   simp[h9]at h
 · intro j hj h
   simp[hj]at h
def Zmn (X:Exit→World→Prop) (P:Program) (ops:Array Oper) (aF:(Nat→Value)→Act) (S:(Nat→Bool)→(Nat→Value)→World→Prop) (G:Nat→World→World→Prop) (Q:Exit→Act→World→Prop):List Oper→Nat→List (Value→World→Prop)→Prop
 | [],i,acc=>∀ v w',S (fun _=>true) v w'→Zdj (Zak acc i) v w' i→Q .normal (aF v) w'
 | o :: os,i,acc=>∃ Ri:Value→World→Prop,(∀ j x w w',j ≠ i→G j w w'→Ri x w→Ri x w')∧Zku X P ops aF S G (fun _=>Zak (Ri :: acc) (i+1)) i o∧Zmn X P ops aF S G Q os (i+1) (Ri :: acc)
variable {aF:(Nat→Value)→Act} {S:(Nat→Bool)→(Nat→Value)→World→Prop} {G:Nat→World→World→Prop}
theorem Zgk {R R':(Nat→Bool)→Nat→Value→World→Prop} {i:Nat} {o:Oper} (h:Zku X P ops aF S G R i o) (hi:∀ L,R L i=R' L i) (he:∀ L,∀ e ∈ o.after.toList,Region.binds .any e=true→R L e.on=R' L e.on):Zku X P ops aF S G R' i o:=by
 intro L h1 h2 v w hS hw K hK
 exact h L h1 h2 v w hS (Zjr (fun e hm hb=>(he L e hm hb).symm) hw) K (fun x w' hx=>Hid.out hK x w' ⟨hx.1,hx.2.1,by rw[←hi];exact hx.2.2⟩)
theorem Ztd (hf:Flat ops ops.size):∀ (os:List Oper) (i:Nat) (acc:List (Value→World→Prop)),i≤ops.size→ops.toList.drop i=os→(∀ k,k < i→∀ j x w w',j ≠ k→G j w w'→Zak acc i k x w→Zak acc i k x w') →
 Zmn X P ops aF S G Q os i acc→∃ all:Nat→Value→World→Prop,(∀ k,k < i→all k=Zak acc i k)∧(∀ k j x w w',k < ops.size→j ≠ k→G j w w'→all k x w→all k x w')∧Zds X P ops aF S G (fun _=>all) os i ∧
  ∀ v w',S (fun _=>true) v w'→Zdj all v w' ops.size→Q .normal (aF v) w':=by
 intro os
 induction os with
 | nil=>
   intro i acc hi hd hst h
   obtain rfl:i=ops.size:=by
    have:=congrArg List.length hd
    simp at this
    omega
   exact ⟨Zak acc ops.size,fun _ _=>rfl,fun k j x w w' hk=>hst k hk j x w w',trivial,h⟩
 | cons o os ih=>
   intro i acc hi hd hst h
   obtain ⟨Ri,h1,h2,h3⟩:=h
   have hi':i < ops.size:=by
    have:=congrArg List.length hd
    simp at this
    omega
   have ho:ops[i]?=some o:=by
    have:=congrArg (·[0]?) hd
    simp only[List.getElem?_drop,Nat.add_zero,List.getElem?_cons_zero,Array.getElem?_toList]at this
    exact this
   have hd':ops.toList.drop (i+1)=os:=by
    have:=congrArg (List.drop 1) hd
    simpa [List.drop_drop] using this
   obtain ⟨all,k1,k2,k3,k4⟩:=ih (i+1) (Ri :: acc) (by omega) hd' (fun k hk j x w w' hj hg hr=>by
    rcases Nat.lt_or_ge k i with hki|hki
    · rw[Zff hki]at hr ⊢
      exact hst k hki j x w w' hj hg hr
    · obtain rfl:k=i:=by omega
      rw[Zhg]at hr ⊢
      exact h1 j x w w' hj hg hr) h3
   refine ⟨all,fun k hk=>by rw[k1 k (by omega),Zff hk],k2,⟨Zgk h2 (fun _=>(k1 i (by omega)).symm) (fun _ e he hb=>?_),k3⟩,k4⟩
   have:=hf.back ho e (by simpa using he) hb
   exact (k1 _ (by omega)).symm
theorem flatE_relX (hf:Flat ops ops.size) (h:Zmn X P ops aF S G Q ops.toList 0 []):∃ all:Nat→Value→World→Prop,(∀ i L j x w w',L i=false→i ≠ j→G i w w'→(fun _:Nat→Bool=>all) L j x w→(fun _:Nat→Bool=>all) (fun k=>decide (k=i) || L k) j x w')∧Zds X P ops aF S G (fun _=>all) ops.toList 0 ∧
 ∀ v w',S (fun _=>true) v w'→Zdj all v w' ops.size→Q .normal (aF v) w':=by
 obtain ⟨all,-,h2,h3,h4⟩:=Ztd hf ops.toList 0 [] (Nat.zero_le _) rfl (fun k hk=>by omega) h
 refine ⟨fun j=>if j < ops.size then all j else fun _ _=>True,?_,?_,?_⟩
 · intro i L j x w w' _ hij hg hr
   by_cases hj:j < ops.size
   · have hr':all j x w:=by have h9:=hr;simp only[if_pos hj]at h9;exact h9
     show (if j < ops.size then all j else fun _ _=>True) x w'
     rw[if_pos hj]
     exact h2 j i x w w' hj hij hg hr'
   · show (if j < ops.size then all j else fun _ _=>True) x w'
     rw[if_neg hj]
     trivial
 · have:∀ (os:List Oper) (i:Nat),ops.toList.drop i=os→Zds X P ops aF S G (fun _=>all) os i→Zds X P ops aF S G (fun _ j=>if j < ops.size then all j else fun _ _=>True) os i:=by
    intro os
    induction os with
    | nil=>intro i _ _;trivial
    | cons o os ih=>
      intro i hd h
      have hi':i < ops.size:=by
       have:=congrArg List.length hd
       simp at this
       omega
      have ho:ops[i]?=some o:=by
       have:=congrArg (·[0]?) hd
       simp only[List.getElem?_drop,Nat.add_zero,List.getElem?_cons_zero,Array.getElem?_toList]at this
       exact this
      refine ⟨Zgk h.1 (fun _=>by show all i=if i < ops.size then all i else _;rw[if_pos hi']) (fun _ e he hb=>?_),ih (i+1) (by have:=congrArg (List.drop 1) hd;simpa [List.drop_drop] using this) h.2⟩
      have:=hf.back ho e (by simpa using he) hb
      show all e.on=if e.on < ops.size then all e.on else _
      rw[if_pos (by omega)]
   exact this _ 0 rfl h3
 · intro v w' hS hh
   refine h4 v w' hS ?_
   have:∀ n,n≤ops.size→Zdj (fun j=>if j < ops.size then all j else fun _ _=>True) v w' n→Zdj all v w' n:=by
    intro n
    induction n with
    | zero=>intro _ _;trivial
    | succ n ih=>
      intro hn h
      refine ⟨ih (by omega) h.1,?_⟩
      have h9:(if n < ops.size then all n else fun _ _=>True) (v n) w':=h.2
      rw[if_pos (by omega)]at h9
      exact h9
   exact this _ (Nat.le_refl _) hh
theorem Zcz {id:Nat} {a:Act} {w:World} (X:Exit→World→Prop) (hX:∀ e b w,b.defers=a.defers→X e w→Q e b w) (S:(Nat→Bool)→(Nat→Value)→World→Prop) (G:Nat→World→World→Prop) (aF:(Nat→Value)→Act)
 (hm:P.follows .mixedOrders=true) (hok:Zvu ops=true) (haF:∀ v,Zbx ops.toList 0 v a=aF v) (hS:S (fun _=>false) (fun _=>undef) w.drew)
 (hextS:∀ L L' v w,(∀ k,k < ops.size→L k=L' k)→S L v w→S L' v w) (h:Zmn X P ops aF S G Q ops.toList 0 []):(Code.region id ops true).wp P Q a w:=by
 obtain ⟨all,h2,h3,h4⟩:=flatE_relX (Zng hok) h
 refine wp_region_any hm (Zkt _ _ _ _ ?_)
 exact Zye hX aF S G (fun _=>all) hok haF h2 (fun _ _ _ _ _ h=>h) hS h3 (fun _ _ _ _ _ _ h=>h) hextS h4
theorem Zat (Zim:List Nat) {o:Oper} {os:List Oper} {i:Nat} {acc:List (Value→World→Prop)} (x:Value)
 (h:∀ L:Nat→Bool,L i=false→(∀ p q,L p=true→Zii ops ops.size p q=true→L q=true)→∀ (v:Nat→Value) (w:World),S L v w→Zal acc i v w Zim→∀ K:Act→World→Prop,
   Hid (∀ w',S (fun k=>decide (k=i) || L k) (Zcq v i x) w'∧G i w w'→K ((aF v).put o.dst x) w')→if Region.wanted o (yielded ops (aF v).tmps) then o.wp P (aF v) w K (fun e _ w'=>X e w') else K ((aF v).put o.dst undef) w)
 (hb:(Zim.all fun j=>decide (j < i) && o.after.any fun e=>Region.binds .any e && e.on == j)=true)
 {j:Nat} (hj:j=i+1) (hn:Zmn X P ops aF S G Q os j (eqv x :: acc)):Zmn X P ops aF S G Q (o :: os) i acc:=by
 subst hj
 refine ⟨eqv x,fun _ _ _ _ _ _ h=>h,?_,hn⟩
 intro L h1 h2 v w hS hw K hK
 refine h L h1 h2 v w hS (Zik fun j hj=>?_) K (fun w' hx=>Hid.out hK x w' ⟨hx.1,hx.2,?_⟩)
 · have h3:=List.all_eq_true.1 hb j hj
   rw[Bool.and_eq_true,←Array.any_toList,List.any_eq_true]at h3
   obtain ⟨h4,e,he,h5⟩:=h3
   rw[Bool.and_eq_true]at h5
   have h6:=Zgb hw e he h5.1
   have h7:e.on=j:=eq_of_beq h5.2
   rw[h7]at h6
   have h8:Zak (eqv x :: acc) (i+1) j (v j) w:=h6
   rw[Zff (by simpa using h4)]at h8
   exact h8
 · show Zak (eqv x :: acc) (i+1) i x w'
   rw[Zhg]
   rfl
theorem Zar (Zim:List Nat) {o:Oper} {os:List Oper} {i:Nat} {acc:List (Value→World→Prop)} (R:Value→World→Prop) (hst:∀ j x w w',j ≠ i→G j w w'→R x w→R x w')
 (h:∀ L:Nat→Bool,L i=false→(∀ p q,L p=true→Zii ops ops.size p q=true→L q=true)→∀ (v:Nat→Value) (w:World),S L v w→Zal acc i v w Zim→∀ K:Act→World→Prop,
   Hid (∀ x w',S (fun k=>decide (k=i) || L k) (Zcq v i x) w'∧G i w w'∧R x w'→K ((aF v).put o.dst x) w')→if Region.wanted o (yielded ops (aF v).tmps) then o.wp P (aF v) w K (fun e _ w'=>X e w') else K ((aF v).put o.dst undef) w)
 (hb:(Zim.all fun j=>decide (j < i) && o.after.any fun e=>Region.binds .any e && e.on == j)=true)
 {j:Nat} (hj:j=i+1) (hn:Zmn X P ops aF S G Q os j (R :: acc)):Zmn X P ops aF S G Q (o :: os) i acc:=by
 subst hj
 refine ⟨R,hst,?_,hn⟩
 intro L h1 h2 v w hS hw K hK
 refine h L h1 h2 v w hS (Zik fun j hj=>?_) K (fun x w' hx=>Hid.out hK x w' ⟨hx.1,hx.2.1,?_⟩)
 · have h3:=List.all_eq_true.1 hb j hj
   rw[Bool.and_eq_true,←Array.any_toList,List.any_eq_true]at h3
   obtain ⟨h4,e,he,h5⟩:=h3
   rw[Bool.and_eq_true]at h5
   have h6:=Zgb hw e he h5.1
   have h7:e.on=j:=eq_of_beq h5.2
   rw[h7]at h6
   have h8:Zak (R :: acc) (i+1) j (v j) w:=h6
   rw[Zff (by simpa using h4)]at h8
   exact h8
 · show Zak (R :: acc) (i+1) i x w'
   rw[Zhg]
   exact hx.2.2
theorem Zee (Zim:List Nat) {i:Nat} {acc:List (Value→World→Prop)} (hb:(Zim.all fun j=>decide (j < i))=true) (h:∀ v w',S (fun _=>true) v w'→Zal acc i v w' Zim→Q .normal (aF v) w'):Zmn X P ops aF S G Q [] i acc:=
 fun v w' hS hh=>h v w' hS (Zik fun j hj=>Zkq hh j (by simpa using List.all_eq_true.1 hb j hj))
end
section
variable {P:Program} {ops:Array Oper}
def FlatOpT (P:Program) (ops:Array Oper) (aF:(Nat→Value)→Act) (S:(Nat→Bool)→World→Prop) (G:Nat→World→World→Prop) (R:(Nat→Bool)→Nat→Value→World→Prop) (i:Nat) (o:Oper):Prop:=
 ∀ L:Nat→Bool,L i=false→(∀ p q,L p=true→Zii ops ops.size p q=true→L q=true)→(∀ e ∈ o.after.toList,Region.binds .any e=true→L e.on=true)→∀ (v:Nat→Value) (w:World),S L w→Zjs (R L) v w o.after.toList→∀ K:Act→World→Prop,Hid (∀ x w',S (fun k=>decide (k=i) || L k) w'∧G i w w'∧R L i x w'→K ((aF v).put o.dst x) w') →
   if Region.wanted o (yielded ops (aF v).tmps) then o.wp P (aF v) w K (fun _ _ _=>False) else K ((aF v).put o.dst undef) w
def Ztq (P:Program) (ops:Array Oper) (aF:(Nat→Value)→Act) (S:(Nat→Bool)→World→Prop) (G:Nat→World→World→Prop) (R:(Nat→Bool)→Nat→Value→World→Prop):List Oper→Nat→Prop
 | [],_=>True
 | o :: os,i=>FlatOpT P ops aF S G R i o∧Ztq P ops aF S G R os (i+1)
theorem Ztq.get {aF:(Nat→Value)→Act} {S:(Nat→Bool)→World→Prop} {G:Nat→World→World→Prop} {R:(Nat→Bool)→Nat→Value→World→Prop}:∀ {os:List Oper} {i:Nat},Ztq P ops aF S G R os i→∀ {k:Nat} {o:Oper},os[k]?=some o→FlatOpT P ops aF S G R (i+k) o:=by
 intro os
 induction os with
 | nil=>intro i _ k o h;simp at h
 | cons x os ih=>
   intro i h k o hk
   cases k with
   | zero=>simp at hk;subst hk;exact h.1
   | succ k=>
     rw[List.getElem?_cons_succ]at hk
     have:=ih h.2 hk
     rw[show i+(k+1)=i+1+k by omega]
     exact this
end
end Go.Proofs.YtnhooehmcggmdaaGreatDoor
