/- Parts of a proof about the given program: XRdMap, XRdW9, XRdW10. -/
import Derived.Maps.OwnSet
import Derived.Maps.Views
import Derived.StringKeys
import Derived.Test.YtnhooehmcggmdaaGreatDoorZ22
namespace Go.Proofs.YtnhooehmcggmdaaGreatDoor
set_option maxHeartbeats 16000000
set_option linter.unusedVariables false
set_option linter.unusedSimpArgs false
set_option linter.unusedSectionVars false
open Go.RowKit Go.Maps Go.WideMaps
theorem lawS:Keyed Tryz.prog 9:=string_keyed Tryz.underlying9
def kS (s:List UInt8):Lit:=.string s
def zOp:DataW Value:=.held (.int .u8 0)
def Zmq (B:Nat) (c1 c2:Bool) (v:Nat→Value) (u:World):Prop:=
 (∀ m,v 0=.map (some m)→B≤m∧∃ (D:DataW Value) (n:Nat),IsMap D∧u.ownsMap Tryz.prog 9 Zvq m n D∧n≤(if c1 then 1 else 0)+(if c2 then 1 else 0) ∧
   (v 1=.bool true→D.atKey (kS [33]) zOp=.held (.int .u8 12))∧(v 2=.bool true→D.atKey (kS [45]) zOp=.held (.int .u8 13))) ∧
 ∀ m,v 3=.map (some m)→v 0=.map (some m)∧v 1=.bool true∧v 2=.bool true
theorem Zrk (B:Nat) (c1 c2:Bool) (u:World):Zmq B c1 c2 (fun _=>undef) u:=⟨fun m h=>(by cases h),fun m h=>by cases h⟩
theorem Zmq.step {B k g:Nat} {c1 c2:Bool} {v:Nat→Value} {u u':World} (h:Zmq B c1 c2 v u) (hg:u.grownBy u' (some g)) (hB:g < B) (hk:4≤k) (x:Value):Zmq B c1 c2 (Zcq v k x) u':=by
 have e:∀ j,j < 4→Zcq v k x j=v j:=fun j hj=>if_neg (by omega)
 unfold Zmq
 rw[e 0 (by decide),e 1 (by decide),e 2 (by decide),e 3 (by decide)]
 refine ⟨fun m hm=>?_,h.2⟩
 obtain ⟨h1,D,n,h2,h3,h4⟩:=h.1 m hm
 exact ⟨h1,D,n,h2,h3.kept hg (fun e=>by have:=Option.some.inj e;omega),h4⟩
theorem Zmq.quiet {B k:Nat} {c1 c2:Bool} {v:Nat→Value} {u:World} (h:Zmq B c1 c2 v u) (hk:4≤k) (x:Value):Zmq B c1 c2 (Zcq v k x) u:=by
 have e:∀ j,j < 4→Zcq v k x j=v j:=fun j hj=>if_neg (by omega)
 unfold Zmq
 rw[e 0 (by decide),e 1 (by decide),e 2 (by decide),e 3 (by decide)]
 exact h
theorem Zmq.made {B:Nat} {v:Nat→Value} (u:World) (hB:B≤u.heap.size) (c1 c2:Bool) (h1:v 1 ≠ .bool true) (h2:v 2 ≠ .bool true) (h3:∀ m,v 3 ≠ .map (some m)):Zmq B c1 c2 (Zcq v 0 (.map (some u.heap.size))) (u.alloc (.map #[] 0)):=by
 refine ⟨fun m hm=>?_,fun m hm=>absurd hm (h3 m)⟩
 have e:Value.map (some u.heap.size)=.map (some m):=hm
 have e2:u.heap.size=m:=by cases e;rfl
 subst e2
 exact ⟨hB,.map [],0,⟨_,rfl⟩,World.ownsMap_made u Tryz.prog 9 Zvq,Nat.zero_le _,fun h=>absurd h h1,fun h=>absurd h h2⟩
def Zfa (B:Nat) (u u':World):Prop:=∃ m,B≤m∧(∃ es c,u.heap[m]?=some (.map es c))∧u.grownBy u' (some m)
theorem kS_ne:kS [33] ≠ kS [45]:=fun h=>by unfold kS at h;injection h with h;exact absurd h (by decide)
theorem Zmq.ins1 {B:Nat} {c2:Bool} {v:Nat→Value} {u:World} (h:Zmq B false c2 v u) {m:Nat} (hm:v 0=.map (some m)) (h3:∀ m,v 3 ≠ .map (some m)) :
 ∃ u',(Instr.mapUpdate 232 (.map (some m)) (.string ⟨#[33]⟩) (.int .u8 12)).run Tryz.prog u=.ok () u'∧Zmq B true c2 (Zcq v 1 (.bool true)) u'∧Zfa B u u':=by
 obtain ⟨hB,D,n,hD,ho,hn,-,h2⟩:=h.1 m hm
 obtain ⟨u',r1,r2,r3⟩:=ho.update lawS Tryz.underlying232 (by unfold maxLen;have h9:n≤2:=(by cases c2 <;> simp at hn <;> omega);omega) (key:=.string ⟨#[33]⟩) (val:=.int .u8 12) (kl:=kS [33]) (d:=.held (.int .u8 12)) (ps:=[]) (keyOf_string_mk Tryz.underlying9 (by decide)) rfl
 obtain ⟨es,c,e1,-⟩:=ho
 refine ⟨u',r1,⟨fun m' hm'=>?_,fun m' hm'=>absurd hm' (h3 m')⟩,m,hB,⟨es,c,e1⟩,r3⟩
 have e:v 0=.map (some m'):=hm'
 rw[hm]at e
 cases e
 refine ⟨hB,_,n+1,hD.put _ _,r2,by simp at hn ⊢;omega,fun _=>atKey_put_same hD (by trivial) _ _,fun h4=>?_⟩
 rw[atKey_put_other kS_ne.symm]
 exact h2 h4
theorem Zmq.ins2 {B:Nat} {c1:Bool} {v:Nat→Value} {u:World} (h:Zmq B c1 false v u) {m:Nat} (hm:v 0=.map (some m)) (h3:∀ m,v 3 ≠ .map (some m)) :
 ∃ u',(Instr.mapUpdate 232 (.map (some m)) (.string ⟨#[45]⟩) (.int .u8 13)).run Tryz.prog u=.ok () u'∧Zmq B c1 true (Zcq v 2 (.bool true)) u'∧Zfa B u u':=by
 obtain ⟨hB,D,n,hD,ho,hn,h2,-⟩:=h.1 m hm
 obtain ⟨u',r1,r2,r3⟩:=ho.update lawS Tryz.underlying232 (by unfold maxLen;have h9:n≤2:=(by cases c1 <;> simp at hn <;> omega);omega) (key:=.string ⟨#[45]⟩) (val:=.int .u8 13) (kl:=kS [45]) (d:=.held (.int .u8 13)) (ps:=[]) (keyOf_string_mk Tryz.underlying9 (by decide)) rfl
 obtain ⟨es,c,e1,-⟩:=ho
 refine ⟨u',r1,⟨fun m' hm'=>?_,fun m' hm'=>absurd hm' (h3 m')⟩,m,hB,⟨es,c,e1⟩,r3⟩
 have e:v 0=.map (some m'):=hm'
 rw[hm]at e
 cases e
 refine ⟨hB,_,n+1,hD.put _ _,r2,by simp at hn ⊢;omega,fun h4=>?_,fun _=>atKey_put_same hD (by trivial) _ _⟩
 rw[atKey_put_other kS_ne]
 exact h2 h4
theorem Zmq.ready {B:Nat} {c1 c2:Bool} {v:Nat→Value} {u:World} (h:Zmq B c1 c2 v u) {m:Nat} (hm:v 0=.map (some m)) (h1:v 1=.bool true) (h2:v 2=.bool true):Zmq B c1 c2 (Zcq v 3 (.map (some m))) u:=
 ⟨h.1,fun m' hm'=>by cases (hm':Value.map (some m)=.map (some m'));exact ⟨hm,h1,h2⟩⟩
theorem Zmq.look {B:Nat} {c1 c2:Bool} {v:Nat→Value} {u:World} (h:Zmq B c1 c2 v u) {m:Nat} (hm:v 3=.map (some m)) (s:List UInt8) (o:Nat) (hs:(s=[33]∧o=12)∨(s=[45]∧o=13)) :
 (Instr.lookup 232 (.map (some m)) (.string (str s)) false).run Tryz.prog u=.ok (.int .u8 (o:Int)) u:=by
 obtain ⟨a0,a1,a2⟩:=h.2 m hm
 obtain ⟨-,D,n,hD,ho,-,h1,h2⟩:=h.1 m a0
 have hk:D.atKey (kS s) zOp=.held (.int .u8 (o:Int)):=by
  rcases hs with ⟨rfl,rfl⟩|⟨rfl,rfl⟩
  · exact h1 a1
  · exact h2 a2
 obtain ⟨x,ps,r1,r2⟩:=ho.lookup lawS Tryz.underlying232 (z:=.int .u8 0) (by kernel_rfl) (zd:=zOp) (zp:=[]) rfl (key:=.string (str s)) (kl:=kS s) (by
  have h9:(str s).size≤maxLen:=by rcases hs with ⟨rfl,_⟩|⟨rfl,_⟩ <;> decide
  rw[keyOf_string_mk Tryz.underlying9 h9]
  unfold kS str
  simp)
 have e:=congrArg (fun q=>q.map Prod.fst) r2
 have e2:DataW.held x=D.atKey (kS s) zOp:=Option.some.inj e
 rw[hk]at e2
 cases e2
 exact r1
theorem Zfa.blk {B g:Nat} {u u':World} {vs:List Value} {t:TypeId} (h:Zfa B u u') (hb:Blk u g vs t):Blk u' g vs t:=by
 obtain ⟨m,-,⟨es,c,h1⟩,h2⟩:=h
 refine hb.grown h2 (fun e=>?_)
 subst e
 have:some (Obj.map es c)=some (Obj.cells _ _ _):=h1.symm.trans hb
 cases this
theorem Zfa.cell {B:Nat} {u u':World} (h:Zfa B u u') {a:Addr} {v:Value} (hv:u.cell? a=some v):u'.cell? a=some v:=by
 obtain ⟨m,-,⟨es,c,h1⟩,h2⟩:=h
 refine h2.cell hv (fun e=>?_)
 have e2:=Option.some.inj e
 unfold World.cell? at hv
 rw[←e2]at h1
 rw[h1]at hv
 cases hv
theorem Zfa.eat {B:Nat} {u u':World} {Q:Nat→Prop} {e:Et} {r:List Value} (h:Zfa B u u') (hv:EAt u (Up u Q) e r):EAt u' (Up u' Q) e r:=
 hv.keep (fun p v _ hv=>h.cell hv) (fun b hb=>⟨hb.1,Nat.lt_of_lt_of_le hb.2 (by obtain ⟨m,-,-,h2⟩:=h;exact h2.size)⟩)
theorem Zbg.grownFar {w w':World} {p k:Nat} {ts:List Tok} (h:Zbg w p ts) (hg:w.grownBy w' (some k)) (hk:p < k):Zbg w' p ts:=by
 obtain ⟨A,c,h1,h2,h3,h4⟩:=h
 exact ⟨A,c,h1.grown hg (by omega),h2.grown hg (fun a ha=>by have:=h3 a ha;omega),h3,h4⟩
theorem Zfa.rd {B p:Nat} {u u':World} {ts:List Tok} (h:Zfa B u u') (hp:p < B) (hr:Zbg u p ts):Zbg u' p ts:=by
 obtain ⟨m,hm,-,h2⟩:=h
 exact hr.grownFar h2 (by omega)
theorem Zfa.size {B:Nat} {u u':World} (h:Zfa B u u'):u.heap.size≤u'.heap.size:=by
 obtain ⟨m,hm,-,h2⟩:=h
 exact h2.size
theorem Zfa.gr {B:Nat} {w u u':World} {q:Option Nat} (h:Zfa B u u') (hB:w.heap.size≤B) (hw:w.grownBy u q):w.grownBy u' q:=by
 obtain ⟨m,hm,-,h2⟩:=h
 exact ⟨h2.os.trans hw.os,h2.tape.trans hw.tape,h2.output.trans hw.output,Nat.le_trans hw.size h2.size,fun i hi hne=>(h2.block i (Nat.lt_of_lt_of_le hi hw.size) (fun e=>by have:=Option.some.inj e;omega)).trans (hw.block i hi hne)⟩
open Go.RowKit
theorem unary_go {f:Nat} {ts:List Tok} {y:Zcs Et} (h:pr f (.lv 5) ts=some y):∃ f',f=f'+1∧((nxB 4 [[33],[45]] ts=false∧pr f' (.lv 6) ts=some y) ∨
 (nxB 4 [[33],[45]] ts=true∧∃ t r1 o,ts=t :: r1∧((t.t=[33]∧o=12)∨(t.t=[45]∧o=13))∧Zcn (pr f' (.lv 5) r1) (fun e r2=>okP (Zbk o [e]) r2)=some y)):=by
 cases f with
 | zero=>cases h
 | succ f'=>
   refine ⟨f',rfl,?_⟩
   cases ts with
   | nil=>exact .inl ⟨rfl,h⟩
   | cons t r1=>
     have h2:Zbj (pr f') (.lv 5) (t :: r1)=some y:=h
     rw[Zqj]at h2
     have hn:nxB 4 [[33],[45]] (t :: r1)=(isS t [33] || isS t [45]):=by
      show (decide (t.k=4) && (false || [[33],[45]].contains t.t))=((decide (t.k=4) && t.t == [33]) || (decide (t.k=4) && t.t == [45]))
      simp only[List.contains_cons,List.contains_nil,Bool.or_false,Bool.false_or]
      cases decide (t.k=4) <;> rfl
     have ht:∀ s,isS t s=true→t.t=s:=fun s hs=>by
      have hs2:(decide (t.k=4) && t.t == s)=true:=hs
      rw[Bool.and_eq_true]at hs2
      exact eq_of_beq hs2.2
     rw[hn]
     split at h2
     · next hc=>exact .inr ⟨by rw[hc];rfl,t,r1,12,rfl,.inl ⟨ht _ hc,rfl⟩,h2⟩
     · next hc=>
       split at h2
       · next hc2=>exact .inr ⟨by rw[hc2,Bool.or_true],t,r1,13,rfl,.inr ⟨ht _ hc2,rfl⟩,h2⟩
       · next hc2=>exact .inl ⟨by simp only[hc,hc2,Bool.or_self],h2⟩
set_option maxRecDepth 100000 in
theorem runary_w (n:Nat) (hF:Zla 191 (.lv 5) n) (hM:Zla 200 (.lv 6) n):Zla 191 (.lv 5) (n+1):=by
 intro f hf p w0 w ts y hr hok hE hy
 have hplt:=hr.lt
 have hb0:=Zac w (.cells Zag.toArray 26)
 have k0:=Blk.new w Zag 26
 have hb1:=Zac (w.alloc (.cells Zag.toArray 26)) (.cells #[.string ⟨#[33]⟩,.string ⟨#[45]⟩] 9)
 have hx:TxS ((w.alloc (.cells Zag.toArray 26)).alloc (.cells #[.string ⟨#[33]⟩,.string ⟨#[45]⟩] 9)) (some ⟨w.heap.size+1,0,none⟩) [[33],[45]]:=by
  have:=Zfi (w.alloc (.cells Zag.toArray 26)) [[33],[45]]
  rw[Zkz]at this
  exact this
 obtain ⟨W,hW⟩:=Zaf ((w.alloc (.cells Zag.toArray 26)).alloc (.cells #[.string ⟨#[33]⟩,.string ⟨#[45]⟩] 9))
 have hWl:Hid (W=(w.alloc (.cells #[.int .u8 0,.int .i64 0,.string ⟨#[]⟩,.string ⟨#[]⟩,.slice none 0 0,.slice none 0 0] 26)).alloc (.cells #[.string ⟨#[33]⟩,.string ⟨#[45]⟩] 9)):=hW
 have hb:=hb0.trans (hb1.mono (by rw[Zkz];exact Nat.le_succ _))
 have k1:=k0.below hb1
 rw[←hW.out]at hx hb k1
 have hd:=hr.below hb
 have htk0:=Zft 4 [[33],[45]] _ 2 p W ts hd (by decide) hx hok
 have hgW:=Zad hb (some p)
 have hp2lt:=k1.lt
 obtain ⟨p2,hp2⟩:=Zaf w.heap.size
 have hpp2:p < p2:=by rw[hp2.out];exact hplt
 have HB:=Zai (Nat.le_of_eq hp2.out)
 have HB2:=Zai (Nat.le_of_eq hp2.out.symm)
 rw[←hp2.out]at k1 hp2lt
 clear hx hb0 hb1 k0 hd hW
 obtain ⟨f',rfl,hgo⟩:=unary_go hy
 have hf':f'≤n:=by omega
 clear hy
 rcases hgo with ⟨hn,hy⟩|⟨hn,t,r1,o,rfl,hto,hy⟩
 · have htk:Calls Tryz.prog 97 #[.pointer (some ⟨p,0,none⟩),.int .u8 4,.slice (some ⟨w.heap.size+1,0,none⟩) 2 2] W fun e w'=>e=.returned (.tuple #[.agg (Zae Zan).toArray,.bool false])∧Zbg w' p ts∧W.grownBy w' (some p):=by
    have e1:Zck 4 [[33],[45]] ts=Zan:=by unfold Zck;rw[hn];rfl
    have e2:Zct 4 [[33],[45]] ts=ts:=by unfold Zct;rw[hn];rfl
    rw[hn,e1,e2]at htk0
    exact htk0
   clear htk0 hn
   go_enter Tryz.func191,Tryz.ntmps191
   go_wp2_with (first|(at_builtin;fail))
   try simp only[Zkz]
   rw[←hWl.out,←hp2.out]
   rw[←hp2.out]at htk
   refine htk.mono ?_
   clear htk hWl
   rintro e9 w4 ⟨rfl,hd4,hg4⟩
   have hb5:=Zah (Zac w4 (.cells #[.int .u8 0,.string ⟨#[]⟩,.int .i64 0,.int .i64 0] 46)) (Nat.le_refl _) (Zae Zan).toArray
   have k5:=(k1.grown hg4 (by omega)).below hb5
   have hd5:=hd4.below hb5
   have hg5:=(hgW.trans hg4).trans (Zad hb5 (some p))
   obtain ⟨w5,hw5⟩:=Zaf ((w4.alloc (.cells #[.int .u8 0,.string ⟨#[]⟩,.int .i64 0,.int .i64 0] 46)).setRow w4.heap.size (Zae Zan).toArray)
   rw[←hw5.out]at k5 hd5 hg5
   have hrow:=hM f' hf' p w0 w5 ts y hd5 hok (hE.step hg5) hy
   clear hd5 hb5
   go_wp2_with (first
    | (at_builtin;fail)
    | refine wpList_store_row rfl 46 _ _ rfl _ (Zae Zan).toArray rfl rfl 46 (Zae Zan).toArray (Blk.new w4 (Zae Zan) 46) (kT4 rfl) rfl (Zay _) ?_)
   rw[←hw5.out]
   refine hrow.mono ?_
   clear hrow hw5
   rintro e9 w6 ⟨hg6,h1⟩
   have hg:=hg5.trans hg6
   have k6:=k5.grown hg6 (by omega)
   have hsz5:=k5.lt
   cases y with
   | error e0=>
     obtain ⟨h2,rfl⟩:=h1
     exact ⟨rfl,hg,h2,rfl⟩
   | ok z=>
     obtain ⟨h2,v,rfl,r,rfl,hv,hw⟩:=h1
     have hlen:=Zby hv
     go_wp2_with (first
      | (at_builtin;fail)
      | refine wpList_store_row rfl 26 _ _ rfl _ r.toArray rfl rfl 26 Zag.toArray k6 (kE6 hlen) (zE6 hlen) (Zas (Zcy hv)) ?_)
     have hgr:=Zbc w6 p2 r.toArray
     refine bodyPost_ret (Zfz rfl _ rfl (k6.vrow r) hlen) rfl ?_
     refine ⟨Zaq hg HB2.out _,h2.row hpp2 _,_,rfl,r,rfl,?_,hw.grown hv hgr (fun b hb=>by have:w5.heap.size≤b:=hb.1;omega)⟩
     exact (EAt.up (Q:=fun b=>w5.heap.size≤b) hv hgr (fun b hb=>by have:w5.heap.size≤b:=hb;omega)).imp (fun b hb=>⟨by have:=HB2.out;have:=hb.1;omega,hb.2⟩)
 · have htk:Calls Tryz.prog 97 #[.pointer (some ⟨p,0,none⟩),.int .u8 4,.slice (some ⟨w.heap.size+1,0,none⟩) 2 2] W fun e w'=>e=.returned (.tuple #[.agg (Zae t).toArray,.bool true])∧Zbg w' p r1∧W.grownBy w' (some p):=by
    have e1:Zck 4 [[33],[45]] (t :: r1)=t:=by unfold Zck;rw[hn];rfl
    have e2:Zct 4 [[33],[45]] (t :: r1)=r1:=by unfold Zct;rw[hn];rfl
    rw[hn,e1,e2]at htk0
    exact htk0
   have hok1:=hok.tail
   clear htk0 hn
   go_enter Tryz.func191,Tryz.ntmps191
   go_wp2_with (first|(at_builtin;fail))
   try simp only[Zkz]
   rw[←hWl.out,←hp2.out]
   rw[←hp2.out]at htk
   refine htk.mono ?_
   clear htk hWl
   rintro e9 w4 ⟨rfl,hd4,hg4⟩
   have hb5:=Zah (Zac w4 (.cells #[.int .u8 0,.string ⟨#[]⟩,.int .i64 0,.int .i64 0] 46)) (Nat.le_refl _) (Zae t).toArray
   have k3:Blk ((w4.alloc (.cells #[.int .u8 0,.string ⟨#[]⟩,.int .i64 0,.int .i64 0] 46)).setRow w4.heap.size (Zae t).toArray) w4.heap.size (Zae t) 46:=(Blk.new w4 (Zae Zan) 46).vrow _
   have k5:=(k1.grown hg4 (by omega)).below hb5
   have hlt3:=(k1.grown hg4 (by omega)).lt
   have hd5:=hd4.below hb5
   have hg5:=(hgW.trans hg4).trans (Zad hb5 (some p))
   go_upto_region 3 with (first
    | (at_builtin;fail)
    | refine wpList_store_row rfl 46 _ _ rfl _ (Zae t).toArray rfl rfl 46 (Zae Zan).toArray (Blk.new w4 (Zae Zan) 46) (kT4 rfl) rfl (Zay _) ?_)
   obtain ⟨p3,hp3⟩:=Zaf w4.heap.size
   obtain ⟨w5,hw5n⟩:=Zaf ((w4.alloc (.cells #[.int .u8 0,.string ⟨#[]⟩,.int .i64 0,.int .i64 0] 46)).setRow w4.heap.size (Zae t).toArray)
   rw[←hw5n.out]at k3 k5 hd5 hg5 ⊢
   rw[←hp3.out]at k3 hlt3 ⊢
   have hlt5:=k3.lt
   have HWP:=hg5.size
   clear hw5n hp3 hb5 hd4 hg4 k1 hgW hp2lt hb hr
   rcases Zbp hy with ⟨e0,h1,hq⟩|⟨e2,r2,h1,hnext⟩
   · have hone:∀ (u:World),Zbg u p r1→Env w0 p u→Calls Tryz.prog 191 #[.pointer (some ⟨p,0,none⟩)] u fun e w'=>u.grownBy w' (some p)∧Zbg w' p e0∧e=.panicked Zgu:=fun u a b=>hF f' hf' p w0 u r1 (.error e0) a hok1 b h1
     have hg5d:w5.grownBy w5.drew (some p):=Zad (Zaj (Below.refl _ _)) _
     have hS0:w.grownBy w5.drew (some p)∧w5.heap.size≤w5.drew.heap.size∧Zbg w5.drew p r1∧Blk w5.drew p3 (Zae t) 46∧((fun _:Nat=>false) 11=false→Blk w5.drew p2 Zag 26)∧Zmq w5.heap.size ((fun _:Nat=>false) 1) ((fun _:Nat=>false) 2) (fun _=>undef) w5.drew∧((fun _:Nat=>undef) 1=.bool true→(fun _:Nat=>false) 1=true)∧((fun _:Nat=>undef) 2=.bool true→(fun _:Nat=>false) 2=true)∧(∀ m,(fun _:Nat=>undef) 3=.map (some m)→(fun _:Nat=>false) 3=true):=⟨hg5.trans hg5d,Nat.le_refl _,hd5,k3,fun _=>k5,Zrk _ _ _ _,fun h=>(by cases h),fun h=>(by cases h),fun m h=>by cases h⟩
     refine Zcz (fun ex u=>ex=.panic Zgu∧y=.error e0∧w.grownBy u (some p)∧Zbg u p e0) (by
      rintro ex b u hb ⟨rfl,h1,h2,h3⟩
      refine ⟨hb,?_⟩
      rw[h1]
      exact ⟨h2,h3,rfl⟩) (fun L v u=>w.grownBy u (some p)∧w5.heap.size≤u.heap.size∧Zbg u p r1∧Blk u p3 (Zae t) 46∧(L 11=false→Blk u p2 Zag 26)∧Zmq w5.heap.size (L 1) (L 2) v u∧(v 1=.bool true→L 1=true)∧(v 2=.bool true→L 2=true)∧(∀ m,v 3=.map (some m)→L 3=true)) (fun i u u'=>(i ≠ 1∧i ≠ 2∧i ≠ 11→u.grownBy u' (some p))∧(i=11→u.grownBy u' (some p2))∧(i=1∨i=2→Zfa w5.heap.size u u')) _ (by kernel_rfl) (by kernel_rfl) (fun v=>by simp only[Zbx,Act.put,List.toList_toArray,Zl2,Zl0,Zl1,Nat.reduceAdd,Nat.zero_add];rfl) hS0 (fun L L' v u hL h=>by rw[←hL 1 (by decide),←hL 2 (by decide),←hL 3 (by decide),←hL 11 (by decide)];exact h) ?_
     refine Zar [] (fun v _=>∃ m,v=.map (some m)) ((fun _ _ _ _ _ _ h=>h)) (fun L hL hcl v u hS hd K' hK=>by
      simp only[Act.put,Zl2,Zl0,Zl1]at hK
      have hq1:L 1=false:=by
       cases hq:L 1 with
       | false=>rfl
       | true=>have:=hcl 1 0 hq (by kernel_rfl);rw[hL]at this;cases this
      have hq2:L 2=false:=by
       cases hq:L 2 with
       | false=>rfl
       | true=>have:=hcl 2 0 hq (by kernel_rfl);rw[hL]at this;cases this
      have hq3:L 3=false:=by
       cases hq:L 3 with
       | false=>rfl
       | true=>have:=hcl 3 0 hq (by kernel_rfl);rw[hL]at this;cases this
      have hmm:=run_makeMap (P:=Tryz.prog) 232 u
      go_simp
      have hb9:=Zac u (.map #[] 0)
      have hg9:=Zad hb9 (some p)
      refine hK.out _ _ ⟨⟨hS.1.trans hg9,Nat.le_trans hS.2.1 hg9.size,hS.2.2.1.below hb9,hS.2.2.2.1.grown hg9 (by omega),fun h=>(hS.2.2.2.2.1 h).grown hg9 (by omega),Zmq.made u hS.2.1 _ _ (fun e=>by have:=hS.2.2.2.2.2.2.1 e;rw[hq1]at this;cases this) (fun e=>by have:=hS.2.2.2.2.2.2.2.1 e;rw[hq2]at this;cases this) (fun m e=>by have:=hS.2.2.2.2.2.2.2.2 m e;rw[hq3]at this;cases this),hS.2.2.2.2.2.2.1,hS.2.2.2.2.2.2.2.1,hS.2.2.2.2.2.2.2.2⟩,⟨fun _=>hg9,fun h=>(by cases h),fun h=>by rcases h with h|h <;> cases h⟩,_,rfl⟩) (by kernel_rfl) (j:=1) rfl ?_
     refine Zar [0] (fun v _=>v=.bool true) ((fun _ _ _ _ _ _ h=>h)) (fun L hL hcl v u hS hd K' hK=>by
      simp only[Zal,Zak,eqv,Zl3,Zl4,Nat.reduceSub]at hd
      simp only[Act.put,Zl2,Zl0,Zl1]at hK
      try simp only[hd]at hK
      have hq3:L 3=false:=by
       cases hq:L 3 with
       | false=>rfl
       | true=>have:=hcl 3 1 hq (by kernel_rfl);rw[hL]at this;cases this
      obtain ⟨m,hm⟩:=hd
      have hmp:=hS.2.2.2.2.2.1
      rw[hL]at hmp
      obtain ⟨u',q1,q2,hs9⟩:=hmp.ins1 hm (fun m e=>by have:=hS.2.2.2.2.2.2.2.2 m e;rw[hq3]at this;cases this)
      simp only[hm]at hK ⊢
      go_simp
      refine hK.out (.bool true) _ ⟨⟨hs9.gr (by omega) hS.1,Nat.le_trans hS.2.1 hs9.size,hs9.rd (by omega) hS.2.2.1,hs9.blk hS.2.2.2.1,fun h=>hs9.blk (hS.2.2.2.2.1 h),q2,fun _=>rfl,hS.2.2.2.2.2.2.2.1,hS.2.2.2.2.2.2.2.2⟩,⟨fun h=>absurd rfl h.1,fun h=>(by cases h),fun _=>hs9⟩,rfl⟩) (by kernel_rfl) (j:=2) rfl ?_
     refine Zar [0] (fun v _=>v=.bool true) ((fun _ _ _ _ _ _ h=>h)) (fun L hL hcl v u hS hd K' hK=>by
      simp only[Zal,Zak,eqv,Zl3,Zl4,Nat.reduceSub]at hd
      simp only[Act.put,Zl2,Zl0,Zl1]at hK
      try simp only[hd]at hK
      have hq3:L 3=false:=by
       cases hq:L 3 with
       | false=>rfl
       | true=>have:=hcl 3 2 hq (by kernel_rfl);rw[hL]at this;cases this
      obtain ⟨m,hm⟩:=hd
      have hmp:=hS.2.2.2.2.2.1
      rw[hL]at hmp
      obtain ⟨u',q1,q2,hs9⟩:=hmp.ins2 hm (fun m e=>by have:=hS.2.2.2.2.2.2.2.2 m e;rw[hq3]at this;cases this)
      simp only[hm]at hK ⊢
      go_simp
      refine hK.out (.bool true) _ ⟨⟨hs9.gr (by omega) hS.1,Nat.le_trans hS.2.1 hs9.size,hs9.rd (by omega) hS.2.2.1,hs9.blk hS.2.2.2.1,fun h=>hs9.blk (hS.2.2.2.2.1 h),q2,hS.2.2.2.2.2.2.1,fun _=>rfl,hS.2.2.2.2.2.2.2.2⟩,⟨fun h=>absurd rfl h.2.1,fun h=>(by cases h),fun _=>hs9⟩,rfl⟩) (by kernel_rfl) (j:=3) rfl ?_
     refine Zar [0,1,2] (fun v _=>∃ m,v=.map (some m)) ((fun _ _ _ _ _ _ h=>h)) (fun L hL hcl v u hS hd K' hK=>by
      simp only[Zal,Zak,eqv,Zl3,Zl4,Nat.reduceSub]at hd
      simp only[Act.put,Zl2,Zl0,Zl1]at hK
      try simp only[hd]at hK
      obtain ⟨⟨m,hm⟩,h1,h2⟩:=hd
      simp only[hm]at hK ⊢
      go_simp
      exact hK.out _ _ ⟨⟨hS.1,hS.2.1,hS.2.2.1,hS.2.2.2.1,hS.2.2.2.2.1,hS.2.2.2.2.2.1.ready hm h1 h2,hS.2.2.2.2.2.2.1,hS.2.2.2.2.2.2.2.1,fun _ _=>rfl⟩,⟨fun _=>Zab _ _,fun h=>(by cases h),fun h=>by rcases h with h|h <;> cases h⟩,_,rfl⟩) (by kernel_rfl) (j:=4) rfl ?_
     refine Zat [] _ (fun L hL hcl v u hS hd K' hK=>by
      simp only[Act.put,Zl2,Zl0,Zl1]at hK
      go_simp
      exact hK.out _ ⟨⟨hS.1,hS.2.1,hS.2.2.1,hS.2.2.2.1,hS.2.2.2.2.1,hS.2.2.2.2.2.1.quiet (by decide) _,hS.2.2.2.2.2.2.1,hS.2.2.2.2.2.2.2.1,hS.2.2.2.2.2.2.2.2⟩,⟨fun _=>Zab _ _,fun h=>(by cases h),fun h=>by rcases h with h|h <;> cases h⟩⟩) (by kernel_rfl) (j:=5) rfl ?_
     refine Zat [4] _ (fun L hL hcl v u hS hd K' hK=>by
      simp only[Zal,Zak,eqv,Zl3,Zl4,Nat.reduceSub]at hd
      simp only[Act.put,Zl2,Zl0,Zl1]at hK
      try simp only[hd]at hK
      have c1:u.cell? ⟨p3,1,none⟩=some (.string (str t.t)):=hS.2.2.2.1.cell 1
      go_simp
      exact hK.out _ ⟨⟨hS.1,hS.2.1,hS.2.2.1,hS.2.2.2.1,hS.2.2.2.2.1,hS.2.2.2.2.2.1.quiet (by decide) _,hS.2.2.2.2.2.2.1,hS.2.2.2.2.2.2.2.1,hS.2.2.2.2.2.2.2.2⟩,⟨fun _=>Zab _ _,fun h=>(by cases h),fun h=>by rcases h with h|h <;> cases h⟩⟩) (by kernel_rfl) (j:=6) rfl ?_
     refine Zat [3,5] _ (fun L hL hcl v u hS hd K' hK=>by
      simp only[Zal,Zak,eqv,Zl3,Zl4,Nat.reduceSub]at hd
      simp only[Act.put,Zl2,Zl0,Zl1]at hK
      try simp only[hd]at hK
      obtain ⟨⟨m,hm⟩,h1⟩:=hd
      have hlk:=hS.2.2.2.2.2.1.look hm t.t o hto
      simp only[hm,h1]at hK ⊢
      go_simp
      exact hK.out _ ⟨⟨hS.1,hS.2.1,hS.2.2.1,hS.2.2.2.1,hS.2.2.2.2.1,hS.2.2.2.2.2.1.quiet (by decide) _,hS.2.2.2.2.2.2.1,hS.2.2.2.2.2.2.2.1,hS.2.2.2.2.2.2.2.2⟩,⟨fun _=>Zab _ _,fun h=>(by cases h),fun h=>by rcases h with h|h <;> cases h⟩⟩) (by kernel_rfl) (j:=7) rfl ?_
     refine Zat [] _ (fun L hL hcl v u hS hd K' hK=>by
      simp only[Act.put,Zl2,Zl0,Zl1]at hK
      go_simp
      exact hK.out _ ⟨⟨hS.1,hS.2.1,hS.2.2.1,hS.2.2.2.1,hS.2.2.2.2.1,hS.2.2.2.2.2.1.quiet (by decide) _,hS.2.2.2.2.2.2.1,hS.2.2.2.2.2.2.2.1,hS.2.2.2.2.2.2.2.2⟩,⟨fun _=>Zab _ _,fun h=>(by cases h),fun h=>by rcases h with h|h <;> cases h⟩⟩) (by kernel_rfl) (j:=8) rfl ?_
     refine Zar [7] (fun _ _=>False) ((fun _ _ _ _ _ _ h=>h)) (fun L hL hcl v u hS hd K' hK=>by
      simp only[Zal,Zak,eqv,Zl3,Zl4,Nat.reduceSub]at hd
      simp only[Act.put,Zl2,Zl0,Zl1]at hK
      try simp only[hd]at hK
      go_simp
      refine (hone u hS.2.2.1 (hE.step hS.1)).mono ?_
      rintro e9 u1 ⟨hg9,hd9,rfl⟩
      first|exact ⟨rfl,hq,hS.1.trans hg9,hd9⟩|exact ⟨rfl,hS.1.trans hg9,hd9⟩|exact ⟨hS.1.trans hg9,hd9⟩) (by kernel_rfl) (j:=9) rfl ?_
     refine Zar [8] (fun _ _=>False) ((fun _ _ _ _ _ _ h=>h)) (fun L hL hcl v u hS hd K' hK=>by
      simp only[Zal,Zak,eqv,Zl3,Zl4,Nat.reduceSub]at hd
      try exact hd.elim) (by kernel_rfl) (j:=10) rfl ?_
     refine Zar [6,9] (fun _ _=>False) ((fun _ _ _ _ _ _ h=>h)) (fun L hL hcl v u hS hd K' hK=>by
      simp only[Zal,Zak,eqv,Zl3,Zl4,Nat.reduceSub]at hd
      try exact hd.2.elim) (by kernel_rfl) (j:=11) rfl ?_
     refine Zar [10] (fun _ _=>False) ((fun _ _ _ _ _ _ h=>h)) (fun L hL hcl v u hS hd K' hK=>by
      simp only[Zal,Zak,eqv,Zl3,Zl4,Nat.reduceSub]at hd
      try exact hd.elim) (by kernel_rfl) (j:=12) rfl ?_
     refine Zee [11] (by decide) ?_
     rintro v u hS hR
     simp only[Zal,Zak,eqv,Zl3,Zl4,Nat.reduceSub]at hR
     try exact hR.elim
   · have hone:∀ (u:World),Zbg u p r1→Env w0 p u→Calls Tryz.prog 191 #[.pointer (some ⟨p,0,none⟩)] u fun e w'=>u.grownBy w' (some p)∧Zbg w' p r2∧∃ v,e=.returned v∧ExV u.heap.size e2 w' v:=fun u a b=>hF f' hf' p w0 u r1 (.ok (e2,r2)) a hok1 b h1
     obtain rfl:y=.ok (Zbk o [e2],r2):=(Option.some.inj hnext).symm
     clear hnext
     have hg5d:w5.grownBy w5.drew (some p):=Zad (Zaj (Below.refl _ _)) _
     have hS0:w.grownBy w5.drew (some p)∧w5.heap.size≤w5.drew.heap.size∧Zbg w5.drew p (if (fun _:Nat=>false) 8 then r2 else r1)∧Blk w5.drew p3 (Zae t) 46∧((fun _:Nat=>false) 11=false→Blk w5.drew p2 Zag 26)∧Zmq w5.heap.size ((fun _:Nat=>false) 1) ((fun _:Nat=>false) 2) (fun _=>undef) w5.drew∧((fun _:Nat=>undef) 1=.bool true→(fun _:Nat=>false) 1=true)∧((fun _:Nat=>undef) 2=.bool true→(fun _:Nat=>false) 2=true)∧(∀ m,(fun _:Nat=>undef) 3=.map (some m)→(fun _:Nat=>false) 3=true):=⟨hg5.trans hg5d,Nat.le_refl _,hd5,k3,fun _=>k5,Zrk _ _ _ _,fun h=>(by cases h),fun h=>(by cases h),fun m h=>by cases h⟩
     refine Zap (fun L v u=>w.grownBy u (some p)∧w5.heap.size≤u.heap.size∧Zbg u p (if L 8 then r2 else r1)∧Blk u p3 (Zae t) 46∧(L 11=false→Blk u p2 Zag 26)∧Zmq w5.heap.size (L 1) (L 2) v u∧(v 1=.bool true→L 1=true)∧(v 2=.bool true→L 2=true)∧(∀ m,v 3=.map (some m)→L 3=true)) (fun i u u'=>(i ≠ 1∧i ≠ 2∧i ≠ 11→u.grownBy u' (some p))∧(i=11→u.grownBy u' (some p2))∧(i=1∨i=2→Zfa w5.heap.size u u')) _ (by kernel_rfl) (by kernel_rfl) (fun v=>by simp only[Zbx,Act.put,List.toList_toArray,Zl2,Zl0,Zl1,Nat.reduceAdd,Nat.zero_add];rfl) hS0 (fun L L' v u hL h=>by rw[←hL 1 (by decide),←hL 2 (by decide),←hL 3 (by decide),←hL 8 (by decide),←hL 11 (by decide)];exact h) ?_
     refine Zam [] (fun v _=>∃ m,v=.map (some m)) ((fun _ _ _ _ _ _ h=>h)) (fun L hL hcl v u hS hd K' hK=>by
      simp only[Act.put,Zl2,Zl0,Zl1]at hK
      have hq1:L 1=false:=by
       cases hq:L 1 with
       | false=>rfl
       | true=>have:=hcl 1 0 hq (by kernel_rfl);rw[hL]at this;cases this
      have hq2:L 2=false:=by
       cases hq:L 2 with
       | false=>rfl
       | true=>have:=hcl 2 0 hq (by kernel_rfl);rw[hL]at this;cases this
      have hq3:L 3=false:=by
       cases hq:L 3 with
       | false=>rfl
       | true=>have:=hcl 3 0 hq (by kernel_rfl);rw[hL]at this;cases this
      have hmm:=run_makeMap (P:=Tryz.prog) 232 u
      go_simp
      have hb9:=Zac u (.map #[] 0)
      have hg9:=Zad hb9 (some p)
      refine hK.out _ _ ⟨⟨hS.1.trans hg9,Nat.le_trans hS.2.1 hg9.size,hS.2.2.1.below hb9,hS.2.2.2.1.grown hg9 (by omega),fun h=>(hS.2.2.2.2.1 h).grown hg9 (by omega),Zmq.made u hS.2.1 _ _ (fun e=>by have:=hS.2.2.2.2.2.2.1 e;rw[hq1]at this;cases this) (fun e=>by have:=hS.2.2.2.2.2.2.2.1 e;rw[hq2]at this;cases this) (fun m e=>by have:=hS.2.2.2.2.2.2.2.2 m e;rw[hq3]at this;cases this),hS.2.2.2.2.2.2.1,hS.2.2.2.2.2.2.2.1,hS.2.2.2.2.2.2.2.2⟩,⟨fun _=>hg9,fun h=>(by cases h),fun h=>by rcases h with h|h <;> cases h⟩,_,rfl⟩) (by kernel_rfl) (j:=1) rfl ?_
     refine Zam [0] (fun v _=>v=.bool true) ((fun _ _ _ _ _ _ h=>h)) (fun L hL hcl v u hS hd K' hK=>by
      simp only[Zal,Zak,eqv,Zl3,Zl4,Nat.reduceSub]at hd
      simp only[Act.put,Zl2,Zl0,Zl1]at hK
      try simp only[hd]at hK
      have hq3:L 3=false:=by
       cases hq:L 3 with
       | false=>rfl
       | true=>have:=hcl 3 1 hq (by kernel_rfl);rw[hL]at this;cases this
      obtain ⟨m,hm⟩:=hd
      have hmp:=hS.2.2.2.2.2.1
      rw[hL]at hmp
      obtain ⟨u',q1,q2,hs9⟩:=hmp.ins1 hm (fun m e=>by have:=hS.2.2.2.2.2.2.2.2 m e;rw[hq3]at this;cases this)
      simp only[hm]at hK ⊢
      go_simp
      refine hK.out (.bool true) _ ⟨⟨hs9.gr (by omega) hS.1,Nat.le_trans hS.2.1 hs9.size,hs9.rd (by omega) hS.2.2.1,hs9.blk hS.2.2.2.1,fun h=>hs9.blk (hS.2.2.2.2.1 h),q2,fun _=>rfl,hS.2.2.2.2.2.2.2.1,hS.2.2.2.2.2.2.2.2⟩,⟨fun h=>absurd rfl h.1,fun h=>(by cases h),fun _=>hs9⟩,rfl⟩) (by kernel_rfl) (j:=2) rfl ?_
     refine Zam [0] (fun v _=>v=.bool true) ((fun _ _ _ _ _ _ h=>h)) (fun L hL hcl v u hS hd K' hK=>by
      simp only[Zal,Zak,eqv,Zl3,Zl4,Nat.reduceSub]at hd
      simp only[Act.put,Zl2,Zl0,Zl1]at hK
      try simp only[hd]at hK
      have hq3:L 3=false:=by
       cases hq:L 3 with
       | false=>rfl
       | true=>have:=hcl 3 2 hq (by kernel_rfl);rw[hL]at this;cases this
      obtain ⟨m,hm⟩:=hd
      have hmp:=hS.2.2.2.2.2.1
      rw[hL]at hmp
      obtain ⟨u',q1,q2,hs9⟩:=hmp.ins2 hm (fun m e=>by have:=hS.2.2.2.2.2.2.2.2 m e;rw[hq3]at this;cases this)
      simp only[hm]at hK ⊢
      go_simp
      refine hK.out (.bool true) _ ⟨⟨hs9.gr (by omega) hS.1,Nat.le_trans hS.2.1 hs9.size,hs9.rd (by omega) hS.2.2.1,hs9.blk hS.2.2.2.1,fun h=>hs9.blk (hS.2.2.2.2.1 h),q2,hS.2.2.2.2.2.2.1,fun _=>rfl,hS.2.2.2.2.2.2.2.2⟩,⟨fun h=>absurd rfl h.2.1,fun h=>(by cases h),fun _=>hs9⟩,rfl⟩) (by kernel_rfl) (j:=3) rfl ?_
     refine Zam [0,1,2] (fun v _=>∃ m,v=.map (some m)) ((fun _ _ _ _ _ _ h=>h)) (fun L hL hcl v u hS hd K' hK=>by
      simp only[Zal,Zak,eqv,Zl3,Zl4,Nat.reduceSub]at hd
      simp only[Act.put,Zl2,Zl0,Zl1]at hK
      try simp only[hd]at hK
      obtain ⟨⟨m,hm⟩,h1,h2⟩:=hd
      simp only[hm]at hK ⊢
      go_simp
      exact hK.out _ _ ⟨⟨hS.1,hS.2.1,hS.2.2.1,hS.2.2.2.1,hS.2.2.2.2.1,hS.2.2.2.2.2.1.ready hm h1 h2,hS.2.2.2.2.2.2.1,hS.2.2.2.2.2.2.2.1,fun _ _=>rfl⟩,⟨fun _=>Zab _ _,fun h=>(by cases h),fun h=>by rcases h with h|h <;> cases h⟩,_,rfl⟩) (by kernel_rfl) (j:=4) rfl ?_
     refine Zaa [] _ (fun L hL hcl v u hS hd K' hK=>by
      simp only[Act.put,Zl2,Zl0,Zl1]at hK
      go_simp
      exact hK.out _ ⟨⟨hS.1,hS.2.1,hS.2.2.1,hS.2.2.2.1,hS.2.2.2.2.1,hS.2.2.2.2.2.1.quiet (by decide) _,hS.2.2.2.2.2.2.1,hS.2.2.2.2.2.2.2.1,hS.2.2.2.2.2.2.2.2⟩,⟨fun _=>Zab _ _,fun h=>(by cases h),fun h=>by rcases h with h|h <;> cases h⟩⟩) (by kernel_rfl) (j:=5) rfl ?_
     refine Zaa [4] _ (fun L hL hcl v u hS hd K' hK=>by
      simp only[Zal,Zak,eqv,Zl3,Zl4,Nat.reduceSub]at hd
      simp only[Act.put,Zl2,Zl0,Zl1]at hK
      try simp only[hd]at hK
      have c1:u.cell? ⟨p3,1,none⟩=some (.string (str t.t)):=hS.2.2.2.1.cell 1
      go_simp
      exact hK.out _ ⟨⟨hS.1,hS.2.1,hS.2.2.1,hS.2.2.2.1,hS.2.2.2.2.1,hS.2.2.2.2.2.1.quiet (by decide) _,hS.2.2.2.2.2.2.1,hS.2.2.2.2.2.2.2.1,hS.2.2.2.2.2.2.2.2⟩,⟨fun _=>Zab _ _,fun h=>(by cases h),fun h=>by rcases h with h|h <;> cases h⟩⟩) (by kernel_rfl) (j:=6) rfl ?_
     refine Zaa [3,5] _ (fun L hL hcl v u hS hd K' hK=>by
      simp only[Zal,Zak,eqv,Zl3,Zl4,Nat.reduceSub]at hd
      simp only[Act.put,Zl2,Zl0,Zl1]at hK
      try simp only[hd]at hK
      obtain ⟨⟨m,hm⟩,h1⟩:=hd
      have hlk:=hS.2.2.2.2.2.1.look hm t.t o hto
      simp only[hm,h1]at hK ⊢
      go_simp
      exact hK.out _ ⟨⟨hS.1,hS.2.1,hS.2.2.1,hS.2.2.2.1,hS.2.2.2.2.1,hS.2.2.2.2.2.1.quiet (by decide) _,hS.2.2.2.2.2.2.1,hS.2.2.2.2.2.2.2.1,hS.2.2.2.2.2.2.2.2⟩,⟨fun _=>Zab _ _,fun h=>(by cases h),fun h=>by rcases h with h|h <;> cases h⟩⟩) (by kernel_rfl) (j:=7) rfl ?_
     refine Zaa [] _ (fun L hL hcl v u hS hd K' hK=>by
      simp only[Act.put,Zl2,Zl0,Zl1]at hK
      go_simp
      exact hK.out _ ⟨⟨hS.1,hS.2.1,hS.2.2.1,hS.2.2.2.1,hS.2.2.2.2.1,hS.2.2.2.2.2.1.quiet (by decide) _,hS.2.2.2.2.2.2.1,hS.2.2.2.2.2.2.2.1,hS.2.2.2.2.2.2.2.2⟩,⟨fun _=>Zab _ _,fun h=>(by cases h),fun h=>by rcases h with h|h <;> cases h⟩⟩) (by kernel_rfl) (j:=8) rfl ?_
     refine Zam [7] (fun v u=>∃ rb:List Value,v=.agg rb.toArray∧EAt u (Up u (fun b=>w5.heap.size≤b)) e2 rb) ((by
      rintro j x u u' hj hg ⟨rb,h1,h2⟩
      refine ⟨rb,h1,?_⟩
      by_cases e:j=11
      · exact h2.up (hg.2.1 e) (fun b hb=>by omega)
      · by_cases e1:j=1∨j=2
        · exact (hg.2.2 e1).eat h2
        · exact h2.up (hg.1 ⟨fun h=>e1 (.inl h),fun h=>e1 (.inr h),e⟩) (fun b hb=>by omega))) (fun L hL hcl v u hS hd K' hK=>by
      simp only[Zal,Zak,eqv,Zl3,Zl4,Nat.reduceSub]at hd
      simp only[Act.put,Zl2,Zl0,Zl1]at hK
      try simp only[hd]at hK
      go_simp
      refine (hone u (by have:=hS.2.2.1;rw[hL]at this;exact this) (hE.step hS.1)).mono ?_
      rintro e9 u1 ⟨hg9,hd9,v9,rfl,r9,rfl,hv9,-⟩
      exact hK.out _ _ ⟨⟨hS.1.trans hg9,Nat.le_trans hS.2.1 hg9.size,hd9,hS.2.2.2.1.grown hg9 (by omega),fun h=>(hS.2.2.2.2.1 h).grown hg9 (by omega),hS.2.2.2.2.2.1.step hg9 (by omega) (by decide) _,hS.2.2.2.2.2.2.1,hS.2.2.2.2.2.2.2.1,hS.2.2.2.2.2.2.2.2⟩,⟨fun _=>hg9,fun h=>(by cases h),fun h=>by rcases h with h|h <;> cases h⟩,r9,rfl,hv9.imp (fun b hb=>⟨Nat.le_trans hS.2.1 hb.1,hb.2⟩)⟩) (by kernel_rfl) (j:=9) rfl ?_
     refine Zam [8] (fun v u=>∃ (g:Nat) (rb:List Value),v=.slice (some ⟨g,0,none⟩) 1 1∧w5.heap.size≤g∧Blk u g rb 26∧EAt u (Up u (fun b=>w5.heap.size≤b)) e2 rb) ((by
      rintro j x u u' hj hg ⟨g,rb,h1,h2,h3,h4⟩
      refine ⟨g,rb,h1,h2,?_⟩
      by_cases e:j=11
      · exact ⟨h3.grown (hg.2.1 e) (by omega),h4.up (hg.2.1 e) (fun b hb=>by omega)⟩
      · by_cases e1:j=1∨j=2
        · exact ⟨(hg.2.2 e1).blk h3,(hg.2.2 e1).eat h4⟩
        · exact ⟨h3.grown (hg.1 ⟨fun h=>e1 (.inl h),fun h=>e1 (.inr h),e⟩) (by omega),h4.up (hg.1 ⟨fun h=>e1 (.inl h),fun h=>e1 (.inr h),e⟩) (fun b hb=>by omega)⟩)) (fun L hL hcl v u hS hd K' hK=>by
      simp only[Zal,Zak,eqv,Zl3,Zl4,Nat.reduceSub]at hd
      simp only[Act.put,Zl2,Zl0,Zl1]at hK
      try simp only[hd]at hK
      obtain ⟨rb,h1,hv⟩:=hd
      obtain ⟨o2,n2,s2,t2,A2,a2,c2,B2,b2,d2,hrb,-⟩:=Zbu hv
      have hb9:=Zac u (.cells rb.toArray 26)
      have hg9:=Zad hb9 (some p)
      have k9:=Blk.new u rb 26
      have hv9:=hv.up hg9 (fun b hb=>by omega)
      rw[hrb]at h1 hb9 hg9 k9 hv9
      simp only[h1]at hK ⊢
      go_simp
      have hh:=hK.out (.slice (some ⟨u.heap.size,0,none⟩) 1 1) _ ⟨⟨hS.1.trans hg9,Nat.le_trans hS.2.1 hg9.size,hS.2.2.1.below hb9,hS.2.2.2.1.grown hg9 (by omega),fun h=>(hS.2.2.2.2.1 h).grown hg9 (by omega),hS.2.2.2.2.2.1.step hg9 (by omega) (by decide) _,hS.2.2.2.2.2.2.1,hS.2.2.2.2.2.2.2.1,hS.2.2.2.2.2.2.2.2⟩,⟨fun _=>hg9,fun h=>(by cases h),fun h=>by rcases h with h|h <;> cases h⟩,u.heap.size,_,rfl,hS.2.1,k9,hv9⟩
      exact hh) (by kernel_rfl) (j:=10) rfl ?_
     refine Zam [6,9] (fun v u=>∃ (g:Nat) (rb:List Value),v=.agg (Zav o 0 ⟨#[]⟩ ⟨#[]⟩ (.slice none 0 0) (.slice (some ⟨g,0,none⟩) 1 1)).toArray∧w5.heap.size≤g∧Blk u g rb 26∧EAt u (Up u (fun b=>w5.heap.size≤b)) e2 rb) ((by
      rintro j x u u' hj hg ⟨g,rb,h1,h2,h3,h4⟩
      refine ⟨g,rb,h1,h2,?_⟩
      by_cases e:j=11
      · exact ⟨h3.grown (hg.2.1 e) (by omega),h4.up (hg.2.1 e) (fun b hb=>by omega)⟩
      · by_cases e1:j=1∨j=2
        · exact ⟨(hg.2.2 e1).blk h3,(hg.2.2 e1).eat h4⟩
        · exact ⟨h3.grown (hg.1 ⟨fun h=>e1 (.inl h),fun h=>e1 (.inr h),e⟩) (by omega),h4.up (hg.1 ⟨fun h=>e1 (.inl h),fun h=>e1 (.inr h),e⟩) (fun b hb=>by omega)⟩)) (fun L hL hcl v u hS hd K' hK=>by
      simp only[Zal,Zak,eqv,Zl3,Zl4,Nat.reduceSub]at hd
      simp only[Act.put,Zl2,Zl0,Zl1]at hK
      try simp only[hd]at hK
      obtain ⟨h0,g,rb,h1,h2,h3,h4⟩:=hd
      simp only[h0,h1]at hK ⊢
      go_simp
      refine (Zjp o (some ⟨g,0,none⟩) 1 1 u).mono ?_
      rintro e9 u1 ⟨rfl,hb9⟩
      have hg9:=Zad hb9 (some p)
      exact hK.out _ _ ⟨⟨hS.1.trans hg9,Nat.le_trans hS.2.1 hg9.size,hS.2.2.1.below hb9,hS.2.2.2.1.grown hg9 (by omega),fun h=>(hS.2.2.2.2.1 h).grown hg9 (by omega),hS.2.2.2.2.2.1.step hg9 (by omega) (by decide) _,hS.2.2.2.2.2.2.1,hS.2.2.2.2.2.2.2.1,hS.2.2.2.2.2.2.2.2⟩,⟨fun _=>hg9,fun h=>(by cases h),fun h=>by rcases h with h|h <;> cases h⟩,g,rb,rfl,h2,h3.below hb9,h4.up hg9 (fun b hb=>by omega)⟩) (by kernel_rfl) (j:=11) rfl ?_
     refine Zam [10] (fun _ u=>∃ (g:Nat) (rb:List Value),Blk u p2 (Zav o 0 ⟨#[]⟩ ⟨#[]⟩ (.slice none 0 0) (.slice (some ⟨g,0,none⟩) 1 1)) 26∧w5.heap.size≤g∧Blk u g rb 26∧EAt u (Up u (fun b=>w5.heap.size≤b)) e2 rb) ((by
      rintro j x u u' hj hg ⟨g,rb,h1,h2,h3,h4⟩
      refine ⟨g,rb,?_⟩
      by_cases e1:j=1∨j=2
      · exact ⟨(hg.2.2 e1).blk h1,h2,(hg.2.2 e1).blk h3,(hg.2.2 e1).eat h4⟩
      · have h9:=hg.1 ⟨fun h=>e1 (.inl h),fun h=>e1 (.inr h),hj⟩
        exact ⟨h1.grown h9 (by omega),h2,h3.grown h9 (by omega),h4.up h9 (fun b hb=>by omega)⟩)) (fun L hL hcl v u hS hd K' hK=>by
      simp only[Zal,Zak,eqv,Zl3,Zl4,Nat.reduceSub]at hd
      obtain ⟨g,rb,h1,h2,h3,h4⟩:=hd
      have k7:=hS.2.2.2.2.1 hL
      refine Zbe rfl ?_
      refine wp_store_row 26 _ _ rfl _ (Zav o 0 ⟨#[]⟩ ⟨#[]⟩ (.slice none 0 0) (.slice (some ⟨g,0,none⟩) 1 1)).toArray rfl h1 26 Zag.toArray k7 (kE6 rfl) rfl (Zas Zcd) ?_
      have hgr:=Zbc u p2 (Zav o 0 ⟨#[]⟩ ⟨#[]⟩ (.slice none 0 0) (.slice (some ⟨g,0,none⟩) 1 1)).toArray
      refine hK.out undef _ ⟨⟨Zaq hS.1 (by have:=HB2.out;omega) _,by rw[Zgn];exact hS.2.1,hS.2.2.1.row (show p < p2 by omega) _,hS.2.2.2.1.grown hgr (by omega),fun h=>(by cases h),hS.2.2.2.2.2.1.step hgr (by omega) (by decide) _,hS.2.2.2.2.2.2.1,hS.2.2.2.2.2.2.2.1,hS.2.2.2.2.2.2.2.2⟩,⟨fun h=>absurd rfl h.2.2,fun _=>hgr,fun h=>by rcases h with h|h <;> cases h⟩,g,rb,k7.vrow _,h2,h3.grown hgr (by omega),h4.up hgr (fun b hb=>by omega)⟩) (by kernel_rfl) (j:=12) rfl ?_
     refine Zau [11] (by decide) ?_
     rintro v u hS hR
     simp only[Zal,Zak,eqv,Zl3,Zl4,Nat.reduceSub]at hR
     obtain ⟨g,rb,q1,q2,q3,q4⟩:=hR
     obtain ⟨z1,z2,z3,-⟩:=hS
     have z4:Zbg u p r2:=z3
     clear hS0 hone z3
     go_wp2_with (first|(at_builtin;fail))
     have hlt:=q3.lt
     have hlen:=Zby q4
     refine bodyPost_ret (Zfz rfl _ rfl q1 rfl) rfl ⟨z1,z4,_,rfl,_,rfl,?_,?_⟩
     · refine Zfg (l:=[e2]) (rows:=[rb]) (by rcases hto with ⟨_,rfl⟩|⟨_,rfl⟩ <;> decide) ⟨by omega,by omega⟩ (by decide) (by decide) (show 1 * 96≤Zbq by decide) (Nat.le_refl _) (by simpa using q3) ⟨by have:=HB.out;omega,hlt⟩ ?_
       exact Zth (q4.imp (fun b hb=>⟨by have:=HB.out;have:=hb.1;omega,hb.2⟩))
     · exact Zid q3 (by rw[hlen];exact Nat.le_refl _)
def Lft (u:World) (p6 p3:Nat) (e:Et):Prop:=∃ re:List Value,Blk u p3 re 26∧EAt u (Up u (fun b=>p6 < b∧b ≠ p3)) e re∧WrE u re
theorem Lft.grown {u u':World} {p p6 p3:Nat} {e:Et} (h:Lft u p6 p3 e) (hg:u.grownBy u' (some p)) (h6:p < p6) (h3:p6 < p3):Lft u' p6 p3 e:=by
 obtain ⟨re,k,hv,hw⟩:=h
 exact ⟨re,k.grown hg (by omega),hv.up hg (fun b hb=>by omega),hw.grown hv hg (fun b hb=>by have:=hb.1.1;omega)⟩
def Half (u:World) (p6 p3 o:Nat) (e:Et):Prop:=∃ (g:Nat) (re:List Value),Blk u p3 (Zav o 0 ⟨#[]⟩ ⟨#[]⟩ (.slice none 0 0) (.slice (some ⟨g,0,none⟩) 1 1)) 26∧Blk u g re 26∧p6 < g∧g ≠ p3∧EAt u (Up u (fun b=>p6 < b∧b ≠ p3)) e re
theorem Half.grown {u u':World} {p p6 p3 o:Nat} {e:Et} (h:Half u p6 p3 o e) (hg:u.grownBy u' (some p)) (h6:p < p6) (h3:p6 < p3):Half u' p6 p3 o e:=by
 obtain ⟨g,re,k,kg,a,b,hv⟩:=h
 exact ⟨g,re,k.grown hg (by omega),kg.grown hg (by omega),a,b,hv.up hg (fun b hb=>by omega)⟩
theorem Znf (o:Nat) {u u6:World} {p6 p3:Nat} {e:Et} {re:List Value} (hv:EAt u (Up u (fun b=>p6 < b∧b ≠ p3)) e re) (k:Blk u p3 re 26) (h3:p6 < p3) (hb:Below (u.alloc (.cells re.toArray 26)).heap.size (u.alloc (.cells re.toArray 26)) u6) :
 Half (u6.setRow p3 (Zav o 0 ⟨#[]⟩ ⟨#[]⟩ (.slice none 0 0) (.slice (some ⟨u.heap.size,0,none⟩) 1 1)).toArray) p6 p3 o e:=by
 have hlt:=k.lt
 have h1:=Zac u (.cells re.toArray 26)
 have h2:=h1.trans (hb.mono (by rw[Zkz];exact Nat.le_succ _))
 have k1:=(k.below h2).vrow (Zav o 0 ⟨#[]⟩ ⟨#[]⟩ (.slice none 0 0) (.slice (some ⟨u.heap.size,0,none⟩) 1 1))
 have kg:=(Blk.new u re 26).below hb
 have hgr:=Zbc u6 p3 (Zav o 0 ⟨#[]⟩ ⟨#[]⟩ (.slice none 0 0) (.slice (some ⟨u.heap.size,0,none⟩) 1 1)).toArray
 refine ⟨u.heap.size,re,k1,kg.grown hgr (by omega),by omega,by omega,?_⟩
 exact (hv.up (Zad h2 (some 0)) (fun b hb=>by have:=hb.1;omega)).up hgr (fun b hb=>hb.2)
theorem upSet {u:World} {p6 p3 i:Nat} {x:Value} {e:Et} {re:List Value} (hv:EAt u (Up u (fun b=>p6 < b∧b ≠ p3)) e re):EAt (u.setCell ⟨p3,i,none⟩ x) (Up (u.setCell ⟨p3,i,none⟩ x) (fun b=>p6 < b∧b ≠ p3)) e re:=
 hv.up (Zbn u p3 i x) (fun b hb=>hb.2)
theorem Half.text {u:World} {p6 p3 o:Nat} {e:Et} (h:Half u p6 p3 o e) (ho:o < 256) (s:ByteArray) (hs:s.size≤Zbq):Lft (u.setCell ⟨p3,2,none⟩ (.string s)) p6 p3 (.mk o 0 s noS [] [e]):=by
 obtain ⟨g,re,k,kg,a,b,hv⟩:=h
 have k2:=k.set 2 (.string s)
 have kg2:=kg.far (p:=⟨p3,2,none⟩) b (.string s)
 have hv2:=upSet (i:=2) (x:=.string s) hv
 refine ⟨Zav o 0 s ⟨#[]⟩ (.slice none 0 0) (.slice (some ⟨g,0,none⟩) 1 1),k2,?_,?_⟩
 · exact Zfg (l:=[e]) (rows:=[re]) ho ⟨by omega,by omega⟩ hs (by decide) (show 1 * 96≤Zbq by decide) (Nat.le_refl _) (by simpa using kg2) ⟨⟨a,b⟩,kg2.lt⟩ (Zth hv2)
 · exact Zid kg2 (by rw[Zby hv2];exact Nat.le_refl _)
theorem Half.typ {u:World} {p6 p3 o:Nat} {e:Et} (h:Half u p6 p3 o e) (ho:o < 256) (s:ByteArray) (hs:s.size≤Zbq):Lft (u.setCell ⟨p3,3,none⟩ (.string s)) p6 p3 (.mk o 0 noS s [] [e]):=by
 obtain ⟨g,re,k,kg,a,b,hv⟩:=h
 have k2:=k.set 3 (.string s)
 have kg2:=kg.far (p:=⟨p3,3,none⟩) b (.string s)
 have hv2:=upSet (i:=3) (x:=.string s) hv
 refine ⟨Zav o 0 ⟨#[]⟩ s (.slice none 0 0) (.slice (some ⟨g,0,none⟩) 1 1),k2,?_,?_⟩
 · exact Zfg (l:=[e]) (rows:=[re]) ho ⟨by omega,by omega⟩ (by decide) hs (show 1 * 96≤Zbq by decide) (Nat.le_refl _) (by simpa using kg2) ⟨⟨a,b⟩,kg2.lt⟩ (Zth hv2)
 · exact Zid kg2 (by rw[Zby hv2];exact Nat.le_refl _)
theorem Zls {s:List UInt8} (h:s.length≤4096):(str s).size≤Zbq:=by
 have:(str s).size=s.length:=by simp[str,ByteArray.size]
 rw[this]
 exact Nat.le_trans h (by decide)
theorem Zsq (t:Tok) (r:List Tok) (s:List UInt8):nxB 4 [s] (t :: r)=isS t s:=Zpp s t r 4
theorem Zhp {k:Nat} {l:List (List UInt8)} {t:Tok} {r:List Tok} (h:nxB k l (t :: r)=true):Zct k l (t :: r)=r:=by unfold Zct;rw[h];rfl
theorem Zkw {k:Nat} {l:List (List UInt8)} {r:List Tok} (h:nxB k l r=false):Zct k l r=r:=by unfold Zct;rw[h];rfl
theorem mem_go {n:Nat} {e:Et} {r:List Tok} {y:Zcs Et} (h:∃ f,f≤n+1∧pr f (.memT e) r=some y) :
 (nxB 4 [[91]] r=false∧nxB 4 [[46]] r=false∧y=.ok (e,r)) ∨
 (nxB 4 [[91]] r=true∧∃ t r1 f1,r=t :: r1∧f1≤n∧Zdc (Zdg r1) (fun s r2=>Zdc (Zbr [93] r2) fun _ r3=>pr f1 (.memT (.mk 8 0 (str s) noS [] [e])) r3)=some y) ∨
 (nxB 4 [[91]] r=false∧nxB 4 [[46]] r=true∧∃ t r1 f1,r=t :: r1∧f1≤n∧Zdc (Zcj r1) (fun s r2=>if (Zbv.contains s && nxB 4 [[40]] r2)=true then
   Zcn (pr f1 .expr (Zct 4 [[40]] r2)) fun a r4=>Zdc (Zbr [41] r4) fun _ r5=>pr f1 (.memT (Zbk (27+Zbv.idxOf s) [e,a])) r5
   else pr f1 (.memT (.mk 8 0 (str s) noS [] [e])) r2)=some y):=by
 obtain ⟨f,hf,h⟩:=h
 cases f with
 | zero=>cases h
 | succ f1=>
   cases r with
   | nil=>cases h;exact .inl ⟨rfl,rfl,rfl⟩
   | cons t r1=>
     have h2:Zbj (pr f1) (.memT e) (t :: r1)=some y:=h
     rw[Zgd]at h2
     rw[Zsq,Zsq]
     split at h2
     · next hc=>exact .inr (.inl ⟨hc,t,r1,f1,rfl,by omega,h2⟩)
     · next hc=>
       have hc':isS t [91]=false:=by simpa using hc
       split at h2
       · next hc2=>
         refine .inr (.inr ⟨hc',hc2,t,r1,f1,rfl,by omega,?_⟩)
         rw[←h2]
         congr 1
         funext s r2
         cases r2 with
         | nil=>rw[show nxB 4 [[40]] []=false from rfl,Bool.and_false];rfl
         | cons t2 r3=>
           show _=if (Zbv.contains s && isS t2 [40])=true then _ else _
           rw[Zsq]
           split
           · next hq=>
             rw[Bool.and_eq_true]at hq
             rw[Zhp (by rw[Zsq];exact hq.2)]
           · rfl
       · next hc2=>cases h2;exact .inl ⟨hc',by simpa using hc2,rfl⟩
end Go.Proofs.YtnhooehmcggmdaaGreatDoor
