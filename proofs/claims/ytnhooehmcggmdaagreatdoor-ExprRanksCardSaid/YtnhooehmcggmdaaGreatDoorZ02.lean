/- Parts of a proof about the given program: XBase, XMem. -/
import Derived.Test.YtnhooehmcggmdaaGreatDoorRows
import Derived.WalkKit
import Derived.WalkSpells
import Derived.WalkLawsBesides
import Derived.ProofKit
import Derived.OpenShut
import Derived.ShutString
import Derived.ChangeOld
import Derived.ChangeSame
import Derived.JoinedCond
import Derived.Lib.Strings
import Derived.SizedLaws
import Derived.Laws.EntriesVeiled
import Derived.Deep.QuietTactic
import Derived.BigQuiet
namespace Go.Proofs.YtnhooehmcggmdaaGreatDoor
set_option maxHeartbeats 16000000
set_option linter.unusedVariables false
set_option linter.unusedSimpArgs false
set_option linter.unusedSectionVars false
theorem Zl0 {α : Type} {a b : α} {l : List α} : (a :: l).set 0 b = b :: l := rfl
theorem Zl1 {α : Type} {a b : α} {l : List α} {n : Nat} : (a :: l).set (n + 1) b = a :: l.set n b := rfl
theorem Zl2 {α : Type} (l : List α) (i : Nat) (a : α) : l.toArray.setIfInBounds i a = (l.set i a).toArray := List.setIfInBounds_toArray l i a
theorem Zl3 {α : Type} {a d : α} {l : List α} : (a :: l).getD 0 d = a := rfl
theorem Zl4 {α : Type} {a d : α} {l : List α} {n : Nat} : (a :: l).getD (n + 1) d = l.getD n d := rfl
open Go.ChangeShapes Go.WideShapes Go.ChangeAt Go.RowKit
theorem ret_int {k:IntKind} {a b:Int} (h:a=b):Ending.returned (.int k a)=.returned (.int k b):=by rw[h]
theorem Zaf {α:Type} (a:α):∃ x,Hid (x=a):=⟨a,rfl⟩
theorem Zai {p:Prop} (h:p):Hid p:=h
theorem bt {a b c:World} (h:Below a.heap.size a b) (k:Below b.heap.size b c):Below a.heap.size a c:=h.trans (k.mono h.size)
theorem Zbz {B:Nat} {a w:World} (h:Below B a w) (n:Nat):Below B a (w.drewN n):=⟨h.os,h.tape,h.output,h.size,h.block⟩
theorem take_snoc (s:ByteArray) (k:Nat) (h:k < s.size):s.data.toList.take (k+1)=s.data.toList.take k ++ [s[k]]:=by
 rw[List.take_succ_eq_append_getElem (by simpa using h)];rfl
theorem quiet_left {P:Program} {f:FuncId} {args:Array Value} {w:World} {n:Nat} {v:Value}
 (h:Calls P f args (w.drewN n) fun e w'=>e=.returned v∧w.drewN n=w'):Calls P f args (w.drewN n) fun e w''=>e=.returned v∧∃ m,w''=w.drewN m:=
 h.mono fun _ _ ⟨he,hm⟩=>⟨he,n,hm.symm⟩
theorem Zja (s:ByteArray) (k:Nat) (h:k < s.size):s.data.toList.drop k=s[k] :: s.data.toList.drop (k+1):=by
 rw[List.drop_eq_getElem_cons (by simpa using h)];rfl
theorem nat_u8 {a:Int} (h:(Lit.int .u8 a).wf=true):∃ n:Nat,a=(n:Int)∧n < 256:=by
 have:0≤a∧a≤255:=by simpa [Lit.wf,IntKind.min,IntKind.max,IntKind.signed,IntKind.bits] using h
 exact ⟨a.toNat,by omega,by omega⟩
theorem bnd_i64 {a:Int} (h:(Lit.int .i64 a).wf=true):-9223372036854775808≤a∧a≤9223372036854775807:=by
 simpa [Lit.wf,IntKind.min,IntKind.max,IntKind.signed,IntKind.bits] using h
def str (l:List UInt8):ByteArray:=⟨l.toArray⟩
theorem Zbo (l:List UInt8):(str l).size=l.length:=by simp[str,ByteArray.size]
theorem Zax (l:List UInt8):(str l).data.toList=l:=by simp[str]
theorem Zgc (l:List UInt8):(str l).toList=l:=by rw[ByteArray.toList_eq,Zax]
theorem Zdh (s:ByteArray):str s.data.toList=s:=by simp[str]
theorem Zxd (l:List UInt8) (a b:Nat):(str l).extract a b=str ((l.drop a).take (b - a)):=by
 apply ByteArray.ext
 apply Array.toList_inj.1
 rw[Lib.extract_data,Zax,Zax]
theorem Zdy (s:ByteArray) (a b:Nat):s.extract a b=str ((s.data.toList.drop a).take (b - a)):=by
 rw[←Zxd,Zdh]
theorem str_append (a b:List UInt8):str a ++ str b=str (a ++ b):=by
 apply ByteArray.ext
 apply Array.toList_inj.1
 simp[str]
theorem str_inj {a b:List UInt8} (h:str a=str b):a=b:=by
 have:=congrArg (fun s:ByteArray=>s.data.toList) h
 simpa [str] using this
def Znj (l:List UInt8):List Value:=l.map fun b=>Value.int .u8 (b.toNat:Int)
theorem back_cells {P:Program} (w:World) (src dst e E:TypeId) (l:List UInt8) (n:Nat) (hn:l.length=n) (hs:P.underlying src=some (.slice e)) (he:P.underlying e=some (.int .u8)) (hd:P.underlying dst=some .string) (cap:Nat) :
 (convert src dst (.slice (some ⟨w.heap.size,0,none⟩) n cap)).run P (w.alloc (.cells (Znj l).toArray E))=.ok (.string (str l)) (w.alloc (.cells (Znj l).toArray E)):=by
 subst hn
 refine run_convert_bytes_back _ src dst e _ cap l hs he hd ?_
 intro j hj
 have:(⟨w.heap.size,0,none⟩:Addr).add j=⟨w.heap.size,j,none⟩:=by cases j <;> simp[Addr.add]
 rw[this]
 simp[hj,Znj]
section
variable {H:Type} {enc:TypeId × Value→H} {P:Program}
theorem Zrz (hl:laidOutB P=true) {W W':World} (hb:Below W.heap.size W W') :
 ∀ (ts:List TypeId) (vs:List Value) (ds:List (DataW H)) (ps:List MemPlace),(ts.all fun t=>P.readableRec t && decide (t < P.types.size))=true →
   DataW.TrodAll enc P W 0 (fun _=>true) true ts vs ds ps→(∀ x ∈ ps,x.block < W.heap.size)→∀ sp:Nat→Bool,(∀ x ∈ ps,sp x.block=true)→DataW.TrodAll enc P W' 0 sp true ts vs ds ps:=by
 intro ts
 induction ts with
 | nil=>intro vs ds ps _ h _ sp _;cases vs <;> cases ds <;> simp[DataW.TrodAll]at h ⊢;exact h
 | cons t ts ih=>
   intro vs ds ps ht h hlt sp hsp
   simp only[List.all_cons,Bool.and_eq_true,decide_eq_true_eq]at ht
   obtain ⟨v,vs',d,ds',p,q,rfl,rfl,rfl,h0,r0⟩:=trodAll_cons h
   refine ⟨p,q,?_,ih vs' ds' q ht.2 r0 (fun x hx=>hlt x (by simp[hx])) sp (fun x hx=>hsp x (by simp[hx])),rfl⟩
   exact WideElems.Trod_stays hl ht.1.1 ht.1.2 h0 (fun x hx=>hb.same (hlt x (by simp[hx]))) (fun x hx=>hsp x (by simp[hx]))
theorem Zlh {ts:List TypeId} {ds:List (DataW H)} (h:(DataW.weightsEach P ts ds).all (·≤reachBytes)=true) (j:Nat) (t:TypeId) {s:ByteArray} (ht:ts[j]?=some t) (hd:ds[j]?=some (.lit (.string s.data.toList))):s.size≤140737488351232:=by
 have:=sized_string h ht hd
 simpa [reachBytes] using this
theorem Zkn (hl:laidOutB P=true) {f:Func} {s:ChangeSpec} {apart fresh handsOn again:Bool} {W W':World} {args:Array Value} {ds gs:List (DataW H)} {before:List MemPlace} {tb:TypeId}
 (hv:s.vars=[]) (htb:P.underlying tb=some .bool) (hres:f.resultTypes=#[tb]) (hread:(f.params.toList.all fun t=>P.readableRec t && decide (t < P.types.size))=true)
 (hs:∀ xs:List (DataW H),xs.length=f.params.size→s.fn H xs={ results:=[.lit (.bool true)],args:=xs })
 (hW:DataW.Whole enc P f.params.toList s.vars apart W args.toList ds gs before) (hb:Below W.heap.size W W') :
 s.post enc P f apart fresh handsOn again W args (.bool true) W':=by
 have hlt:∀ p ∈ before,p.block < W.heap.size:=fun p hp=>hW.lt p hp
 have hold:∀ p ∈ before,(fun b=>decide (b < W.heap.size)) p.block=true:=fun p hp=>by simpa using hlt p hp
 have hW0:=hW
 obtain ⟨p,q,hA,hV,hpq,hz,hn⟩:=hW0
 rw[hv]at hV
 obtain ⟨rfl,rfl⟩:=trodVars_none hV
 have hlen:ds.length=f.params.size:=by
  have:∀ (ts:List TypeId) (vs:List Value) (ds:List (DataW H)) (ps:List MemPlace),DataW.TrodAll enc P W 0 (fun _=>true) true ts vs ds ps→ds.length=ts.length:=by
   intro ts
   induction ts with
   | nil=>intro vs ds ps h;obtain ⟨_,rfl,_⟩:=trodAll_nil h;rfl
   | cons t ts ih=>intro vs ds ps h;obtain ⟨_,_,_,_,_,_,_,rfl,_,_,r⟩:=trodAll_cons h;simp[ih _ _ _ r]
  rw[this _ _ _ _ hA];simp
 have hfn:=hs ds hlen
 have hpb:before=p:=by simpa using hpq
 subst hpb
 have args':∀ sp:Nat→Bool,(∀ x ∈ before,sp x.block=true)→DataW.TrodAll enc P W' 0 sp true f.params.toList args.toList (s.fn H (ds ++ [])).args before:=fun sp hsp=>by
  rw[List.append_nil,hfn]
  exact Zrz hl hb _ _ _ _ hread hA hlt sp hsp
 have res':∀ (b:Nat) (sp:Nat→Bool) (hd:Bool),DataW.TrodAll enc P W' b sp hd f.resultTypes.toList ((Value.bool true).resultList f.resultTypes.size) (s.fn H (ds ++ [])).results []:=fun b sp hd=>by
  rw[List.append_nil,hfn,hres]
  exact trodAll_mk1 (shut_bool htb true)
 have vars':∀ sp:Nat→Bool,DataW.TrodVars enc P W' sp s.vars (s.fn H (ds ++ [])).vars []:=fun sp=>by
  rw[List.append_nil,hfn,hv];exact rfl
 refine ⟨ds,[],before,[],before,[],hW,res' _ _ _,args' _ hold,vars' _,World.keptBut_mono (fun p hp=>⟨hp,?_⟩) (hb.frame (· ∈ before)),fun _=>?_⟩
 · exact Or.inr (by simpa using hp)
 · refine ⟨?_,_,_,([] ++ before) ++ [],⟨[] ++ before,[],trodAll_append (args' _ (fun _ _=>rfl)) (res' _ _ _),vars' _,rfl,?_,?_⟩,?_⟩
   · exact ok_one hres rfl (okWide_bool_mk htb true)
   · intro b off hp
     have hin:MemPlace.cell b off ∈ before:=by simpa using hp
     rw[hb.frozen (hlt _ hin)]
     exact hz b off hin
   · intro ha
     simpa using hn ha
   · intro p hp _
     simpa using hp
end
open Go.RowKit
theorem Zmm (b o j:Nat):(⟨b,o,none⟩:Addr).add j=⟨b,o+j,none⟩:=by unfold Addr.add;split <;> simp_all
def Zek (w:World) (A:Option Addr) (n size:Nat) (xs:List Value):Prop:=
 xs.length=n * size∧(xs ≠ []→∃ b o,A=some ⟨b,o,none⟩∧∀ j u,xs[j]?=some u→w.cell? ⟨b,o+j,none⟩=some u)
section
variable {w w':World} {A:Option Addr} {n size:Nat} {xs:List Value}
theorem Zek.nil (w:World) (A:Option Addr) (size:Nat):Zek w A 0 size []:=⟨by simp,fun h=>absurd rfl h⟩
theorem Zek.keep (h:Zek w A n size xs) (hk:∀ p:Addr,p.block < w.heap.size→w'.cell? p=w.cell? p):Zek w' A n size xs:=by
 refine ⟨h.1,fun hn=>?_⟩
 obtain ⟨b,o,e,hc⟩:=h.2 hn
 refine ⟨b,o,e,fun j u hu=>?_⟩
 have:=hc j u hu
 rw[hk _ (World.block_lt_of_cell? w _ this)]
 exact this
theorem Zek.below (h:Zek w A n size xs) (hb:Below w.heap.size w w'):Zek w' A n size xs:=h.keep fun _ hp=>hb.cell hp
theorem Zek.drew (h:Zek w A n size xs):Zek w.drew A n size xs:=h
theorem Zek.drewN (h:Zek w A n size xs) (k:Nat):Zek (w.drewN k) A n size xs:=h
theorem Zek.alloc (h:Zek w A n size xs) (o:Obj):Zek (w.alloc o) A n size xs:=h.keep fun p hp=>World.cell?_alloc_lt w o p hp
theorem Zek.of_own {base:Nat} {e:TypeId} {v:Value} (h:w.ownsRow base e size v n xs):∃ A c,v=.slice A n c∧n≤c∧c≤maxLen∧Zek w A n size xs∧∀ a,A=some a→base≤a.block:=by
 rcases h.2 with ⟨rfl,rfl⟩|⟨g,cap,cur,rfl,hb,_,hn,hm,_⟩
 · have:xs=[]:=List.eq_nil_of_length_eq_zero (by simpa using h.1)
   subst this
   exact ⟨none,0,rfl,Nat.le_refl _,by decide,Zek.nil _ _ _,fun a h=>by cases h⟩
 · exact ⟨_,cap,rfl,hn,hm,⟨h.1,fun _=>⟨g,0,rfl,fun j u hu=>by
    have:=h.cells (g:=g) rfl j u hu
    rw[Zmm]at this
    exact this⟩⟩,fun a ha=>by cases ha;exact hb⟩
theorem Zek.far (h:Zek w A n size xs) {p:Addr} (hp:∀ a,A=some a→a.block ≠ p.block) (u:Value):Zek (w.setCell p u) A n size xs:=by
 refine ⟨h.1,fun hn=>?_⟩
 obtain ⟨b,o,e,hc⟩:=h.2 hn
 exact ⟨b,o,e,fun j u' hu=>(World.cell?_setCell_other w p _ u (fun e'=>hp _ e (by rw[e']))).trans (hc j u' hu)⟩
end
def Zfo (l:List ByteArray):List Value:=l.map Value.string
theorem Zfk (l:List ByteArray):(Zfo l).length=l.length:=by simp[Zfo]
theorem Zxc (a b:List ByteArray):Zfo (a ++ b)=Zfo a ++ Zfo b:=by simp[Zfo]
theorem strs_one (l:List ByteArray):∀ u ∈ Zfo l,u.oneCell'=true:=by
 intro u hu;simp only[Zfo,List.mem_map]at hu;obtain ⟨_,_,rfl⟩:=hu;rfl
def Zib (w:World) (A:Option Addr) (l:List ByteArray):Prop:=Zek w A l.length 1 (Zfo l)
section
variable {w w':World} {A:Option Addr} {l:List ByteArray}
theorem Zib.below (h:Zib w A l) (hb:Below w.heap.size w w'):Zib w' A l:=Zek.below h hb
theorem Zib.at_ (h:Zib w A l) {k:Nat} (hk:k < l.length):∃ b o,A=some ⟨b,o,none⟩∧w.cell? ⟨b,o+k,none⟩=some (.string l[k]):=by
 obtain ⟨b,o,e,hc⟩:=h.2 (by intro h0;have:=Zfk l;rw[h0]at this;simp at this;omega)
 exact ⟨b,o,e,hc k _ (by simp[Zfo,hk])⟩
end
def Zqf (w:World) (B:Nat) (vs:List Value):Prop:=∀ i u,vs[i]?=some u→w.cell? ⟨B,i,none⟩=some u
theorem Zqf.below {w w':World} {B:Nat} {vs:List Value} (h:Zqf w B vs) (hb:Below w.heap.size w w'):Zqf w' B vs:=fun i u hu=>by
 have:=h i u hu
 rw[hb.cell (World.block_lt_of_cell? w _ this)]
 exact this
theorem Zqf.new (w:World) (vs:List Value) (t:TypeId) (fr:Nat × Nat):Zqf (w.alloc (.cells vs.toArray t fr)) w.heap.size vs:=fun i u hu=>by
 have h:(w.alloc (.cells vs.toArray t fr)).heap[w.heap.size]?=some (.cells vs.toArray t fr):=by
  show (w.heap.push _)[w.heap.size]?=_
  simp
 unfold World.cell?
 simp only[h]
 simpa using hu
theorem Zqf.alloc {w:World} {B:Nat} {vs:List Value} (h:Zqf w B vs) (o:Obj):Zqf (w.alloc o) B vs:=h.below ((Below.refl _ _).alloc (Nat.le_refl _) o)
theorem blk_cell {w:World} {g:Nat} {cs:List Value} {t:TypeId} (h:w.heap[g]?=some (.cells cs.toArray t (0,0))) (i:Nat):w.cell? ⟨g,i,none⟩=cs[i]?:=by
 unfold World.cell?
 simp[h]
theorem blk_free {w:World} {g:Nat} {cs:List Value} {t:TypeId} (h:w.heap[g]?=some (.cells cs.toArray t (0,0))) (i:Nat):w.frozen? ⟨g,i,none⟩=false:=by
 unfold World.frozen?
 simp[h]
theorem blk_new (w:World) (cs:List Value) (t:TypeId):(w.alloc (.cells cs.toArray t)).heap[w.heap.size]?=some (.cells cs.toArray t (0,0)):=heap_alloc_new w _
def Blk (w:World) (g:Nat) (vs:List Value) (t:TypeId):Prop:=w.heap[g]?=some (.cells vs.toArray t (0,0))
section
variable {w w':World} {g:Nat} {vs:List Value} {t:TypeId}
theorem Blk.lt (h:Blk w g vs t):g < w.heap.size:=(Array.getElem?_eq_some_iff.1 h).1
theorem Blk.below (h:Blk w g vs t) (hb:Below w.heap.size w w'):Blk w' g vs t:=(hb.block g h.lt).trans h
theorem Blk.alloc (h:Blk w g vs t) (o:Obj):Blk (w.alloc o) g vs t:=(Below.heap_alloc w o g h.lt).trans h
theorem Blk.new (w:World) (vs:List Value) (t:TypeId):Blk (w.alloc (.cells vs.toArray t)) w.heap.size vs t:=heap_alloc_new w _
theorem Blk.cell (h:Blk w g vs t) (i:Nat):w.cell? ⟨g,i,none⟩=vs[i]?:=blk_cell h i
theorem Blk.free (h:Blk w g vs t) (i:Nat):w.frozen? ⟨g,i,none⟩=false:=blk_free h i
theorem Blk.holds (h:Blk w g vs t):Zqf w g vs:=fun i u hu=>by rw[h.cell];exact hu
theorem Blk.set (h:Blk w g vs t) (i:Nat) (u:Value):Blk (w.setCell ⟨g,i,none⟩ u) g (vs.set i u) t:=by
 unfold Blk at h ⊢
 simp[World.setCell,Array.getElem?_modify,h]
theorem Blk.far (h:Blk w g vs t) {p:Addr} (hp:g ≠ p.block) (u:Value):Blk (w.setCell p u) g vs t:=(Below.heap_setCell w p u g hp).trans h
end
theorem Zac (w:World) (o:Obj):Below w.heap.size w (w.alloc o):=(Below.refl _ _).alloc (Nat.le_refl _) o
end Go.Proofs.YtnhooehmcggmdaaGreatDoor
