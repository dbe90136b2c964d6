/- Parts of a proof about the given program: XRdT1, XRdT2, XRdP1, XRdP2, XPrint, XRead, XCutT, XParseW. -/
import Derived.Defers
import Derived.Recover
import Derived.Test.YtnhooehmcggmdaaGreatDoorZ34
import Derived.Test.YtnhooehmcggmdaaGreatDoorZ03
import Derived.Test.YtnhooehmcggmdaaGreatDoorZ24
import Derived.Test.YtnhooehmcggmdaaGreatDoorZ25
import Derived.Test.YtnhooehmcggmdaaGreatDoorZ26
import Derived.Test.YtnhooehmcggmdaaGreatDoorZ27
import Derived.Test.YtnhooehmcggmdaaGreatDoorZ18
import Derived.Test.YtnhooehmcggmdaaGreatDoorZ23
import Derived.Test.YtnhooehmcggmdaaGreatDoorZ17
import Derived.Test.YtnhooehmcggmdaaGreatDoorZ21
namespace Go.Proofs.YtnhooehmcggmdaaGreatDoor
set_option maxHeartbeats 16000000
set_option linter.unusedVariables false
set_option linter.unusedSimpArgs false
set_option linter.unusedSectionVars false
open Go.RowKit
theorem try1_panic (b:Nat) (x:Bool) (older:List PanicEntry) (w:World) (k:Blk w b [.bool x] 4) :
 CallsD Tryz.prog 96 #[.pointer (some ⟨b,0,none⟩)] (.panicking ({ v:=stopV,recovered:=false } :: older)) w fun e u' w'=>
  e=.returned (.tuple #[])∧u'=.panicking ({ v:=stopV,recovered:=true } :: older)∧w'=w.setCell ⟨b,0,none⟩ (.bool false):=by
 have hc:w.cell? ⟨b,0,none⟩=some (.bool x):=k.cell 0
 have hz:=k.free 0
 have hta:∀ w:World,(Instr.typeAssert stopV 20 120 false).run Tryz.prog w=.ok (.agg #[]) w:=fun _=>by kernel_rfl
 have hne:∀ w:World,(binOp BinOp.neq 20 stopV .nilIface).run Tryz.prog w=.ok (.bool true) w:=fun _=>by kernel_rfl
 refine callsD_of_wpS Tryz.func96 rfl fun c₀ cs hu=>?_
 apply wpS_seq
 apply wpS_region
 simp[wpOpsS,go_sem,recoverD,hu,Tryz.ntmps96,Exit.thenS]
 apply wpS_seq
 apply wpS_region
 simp[wpOpsS,go_sem,Exit.thenS,hne]
 refine wpS_cond (t:=true) (by rfl) ?_
 simp only[if_true]
 apply wpS_seq
 apply wpS_region
 simp[wpOpsS,go_sem,Exit.thenS,hta]
 apply wpS_region
 simp[wpOpsS,go_sem,hc,hz,bodyPostS,results,Tryz.results96]
theorem try1_idle (b:Nat) (w:World) :
 CallsD Tryz.prog 96 #[.pointer (some ⟨b,0,none⟩)] .returning w fun e u' w'=>e=.returned (.tuple #[])∧u'=.returning∧w'=w:=by
 refine callsD_of_wpS Tryz.func96 rfl fun c₀ cs hu=>?_
 apply wpS_seq
 apply wpS_region
 simp[wpOpsS,go_sem,recoverD,hu,Tryz.ntmps96,Exit.thenS]
 apply wpS_seq
 apply wpS_region
 simp[wpOpsS,go_sem,Exit.thenS]
 refine wpS_cond (t:=false) (by simp[Act.eval,Array.replicate]) ?_
 simp only[Bool.false_eq_true,if_false]
 refine wpS_of_wp (wp_skip ?_)
 cases c₀
 simp_all [bodyPostS,results,Tryz.results96]
structure Zws (wb w:World) (p q0 q1:Nat):Prop where
 hg:wb.grownBy w none
 hp:wb.heap.size≤p
 h0:p < q0
 h1:q0 < q1
 k0:Blk w q0 [.pointer (some ⟨p,0,none⟩)] 84
def Zwr (wb:World) (p q0 q1 lo:Nat) (y:Zcs Et) (w':World):Prop:=
 Zws wb w' p q0 q1∧match y with
  | .ok (e,r)=>Zbg w' p r∧∃ re:List Value,Blk w' q1 re 26∧EAt w' (Up w' (fun b=>lo≤b)) e re∧WrE w' re
  | .error r=>Zbg w' p r
set_option maxRecDepth 100000 in
theorem read1_w (wb w0 w:World) (p q0 q1:Nat) (ts:List Tok) (hA:Zws wb w p q0 q1) (k1:Blk w q1 Zag 26) (hr:Zbg w p ts) (hok:Zhb ts) (hE:Env w0 p w) :
 Calls Tryz.prog 54 #[.pointer (some ⟨q0,0,none⟩),.pointer (some ⟨q1,0,none⟩)] w fun e w'=>Zwr wb p q0 q1 w.heap.size (prL ts) w'∧(match prL ts with|.ok _=>e=.returned (.tuple #[])|.error _=>e=.panicked Zgu)∧∀ (b:Nat) (x:Value) (t:TypeId),q1 < b→Blk w b [x] t→Blk w' b [x] t:=by
 obtain ⟨hg,hp,h0,h1,k0⟩:=hA
 have c0:w.cell? ⟨q0,0,none⟩=some (.pointer (some ⟨p,0,none⟩)):=k0.cell 0
 have hrd:=rread_w p w0 w ts hr hok hE
 have hq1:=k1.lt
 obtain ⟨y,hy⟩:=Zaf (prL ts)
 rw[←hy.out]at hrd ⊢
 clear hy
 go_enter Tryz.func54,Tryz.ntmps54
 go_wp2_with (first|(at_builtin;fail))
 refine hrd.mono ?_
 clear hrd c0
 rintro e9 w1 ⟨hg1,h⟩
 have hgb:=Zhh hg hg1 (fun k q=>by have q2:=Option.some.inj q;omega)
 have k01:=k0.grown hg1 (by omega)
 have k11:=k1.grown hg1 (by omega)
 cases y with
 | error e0=>
   obtain ⟨h2,rfl⟩:=h
   exact ⟨rfl,⟨⟨hgb,hp,h0,h1,k01⟩,h2⟩,rfl,fun b x t hb k=>k.grown hg1 (by omega)⟩
 | ok z=>
   obtain ⟨e2,r2⟩:=z
   obtain ⟨h2,v,rfl,r,rfl,hv,hw⟩:=h
   have hlen:=Zby hv
   go_wp2_with (first
    | (at_builtin;fail)
    | refine wpList_store_row rfl 26 _ _ rfl _ r.toArray rfl rfl 26 Zag.toArray k11 (kE6 hlen) (zE6 hlen) (Zas (Zcy hv)) ?_)
   have hgr:=Zbc w1 q1 r.toArray
   refine ⟨rfl,_,results_none rfl _ _ _,?_⟩
   refine ⟨⟨⟨Zhh hgb hgr (fun k q=>by have q2:=Option.some.inj q;omega),hp,h0,h1,k01.grown hgr (by omega)⟩,h2.row (by omega) _,r,k11.vrow r,?_,hw.grown hv hgr (fun b hb=>by have:w.heap.size≤b:=hb.1;omega)⟩,rfl,fun b x t hb k=>(k.grown hg1 (by omega)).grown hgr (by omega)⟩
   exact EAt.up (Q:=fun b=>w.heap.size≤b) hv hgr (fun b hb=>by have:w.heap.size≤b:=hb;omega)
def okB (y:Zcs Et):Bool:=match y with
 | .ok _=>true
 | .error _=>false
theorem Zws.row {wb w:World} {p q0 q1 b:Nat} (h:Zws wb w p q0 q1) (hb:q1 < b) (x:Value):Zws wb (w.setCell ⟨b,0,none⟩ x) p q0 q1:=by
 obtain ⟨hg,hp,h0,h1,k0⟩:=h
 exact ⟨Zhh hg (Zbn w b 0 x) (fun k q=>by have q2:=Option.some.inj q;omega),hp,h0,h1,k0.far (p:=⟨b,0,none⟩) (show q0 ≠ b by omega) x⟩
theorem Zwr.cell {wb w:World} {p q0 q1 lo b:Nat} {y:Zcs Et} (h:Zwr wb p q0 q1 lo y w) (hb:q1 < b) (hl:b < lo) {x0:Value} {t:TypeId} (kb:Blk w b [x0] t) (x:Value):Zwr wb p q0 q1 lo y (w.setCell ⟨b,0,none⟩ x):=by
 obtain ⟨h1,h2⟩:=h
 refine ⟨h1.row hb x,?_⟩
 cases y with
 | error r=>exact h2.far (show p < b by have:=h1.h0;have:=h1.h1;omega) 0 x
 | ok z=>
   obtain ⟨h3,re,k3,hv,hw⟩:=h2
   have hgs:=Zbn w b 0 x
   exact ⟨h3.far (show p < b by have:=h1.h0;have:=h1.h1;omega) 0 x,re,k3.far (p:=⟨b,0,none⟩) (show q1 ≠ b by omega) x,hv.up hgs (fun c hc=>by omega),hw.grown hv hgs (fun c hc=>by have:lo≤c:=hc.1;omega)⟩
set_option maxRecDepth 100000 in
theorem rtry_w (wb w0 W:World) (p q0 q1:Nat) (ts:List Tok) (hA:Zws wb W p q0 q1) (k1:Blk W q1 Zag 26) (hr:Zbg W p ts) (hok:Zhb ts) (hE:Env w0 p W) :
 Calls Tryz.prog 53 #[.pointer (some ⟨p,0,none⟩),.func (.func 54) #[] #[.pointer (some ⟨q0,0,none⟩),.pointer (some ⟨q1,0,none⟩)]] W fun e w'=>e=.returned (.bool (okB (prL ts)))∧Zwr wb p q0 q1 (W.heap.size+1) (prL ts) w':=by
 have hmf:∀ (fn:Fn) (first cap:Array Value) (w:World),(Instr.makeFunc fn first cap).run Tryz.prog w=.ok (.func fn first cap) w:=fun _ _ _ _=>rfl
 have hq1:=k1.lt
 have hb1:=Zac W (.cells #[.bool false] 4)
 have kb:=Blk.new W [.bool false] 4
 have hA1:Zws wb (W.alloc (.cells #[.bool false] 4)) p q0 q1:=⟨Zhh hA.hg (Zad hb1 none) (fun k q=>by cases q),hA.hp,hA.h0,hA.h1,hA.k0.below hb1⟩
 have hsz:=Zkz W (.cells #[.bool false] 4)
 have hrd:=read1_w wb w0 (W.alloc (.cells #[.bool false] 4)) p q0 q1 ts hA1 (k1.below hb1) (hr.below hb1) hok (hE.step (Zad hb1 _))
 rw[hsz]at hrd
 clear hsz
 obtain ⟨y,hy⟩:=Zaf (prL ts)
 rw[←hy.out]at hrd ⊢
 clear hy
 go_enter_defers Tryz.func53,Tryz.ntmps53
 go_wp2_with (first|(at_builtin;fail))
 refine hrd.mono ?_
 clear hrd
 rintro e9 w1 ⟨hT,he,hK⟩
 have kb1:=hK W.heap.size _ _ hq1 kb
 cases y with
 | error e0=>
   obtain rfl:e9=.panicked Zgu:=he
   refine leaves_cons (f:=96) (args:=#[.pointer (some ⟨W.heap.size,0,none⟩)]) (by simp) (by simp[go_sem]) ?_
   refine (try1_panic W.heap.size false [] w1 kb1).mono ?_
   rintro e u' w'' ⟨rfl,rfl,rfl⟩
   have hT2:=hT.cell hq1 (Nat.lt_succ_self _) kb1 (.bool false)
   have hc:(w1.setCell ⟨W.heap.size,0,none⟩ (.bool false)).cell? ⟨W.heap.size,0,none⟩=some (.bool false):=(kb1.set 0 (.bool false)).cell 0
   simp[Leaves,settle,results,Tryz.results53,go_sem,hc,okB]
   exact hT2
 | ok z=>
   obtain rfl:e9=.returned (.tuple #[]):=he
   have hc0:w1.cell? ⟨W.heap.size,0,none⟩=some (.bool false):=kb1.cell 0
   have hf0:=kb1.free 0
   have hc:(w1.setCell ⟨W.heap.size,0,none⟩ (.bool true)).cell? ⟨W.heap.size,0,none⟩=some (.bool true):=(kb1.set 0 (.bool true)).cell 0
   have hT2:=hT.cell hq1 (Nat.lt_succ_self _) kb1 (.bool true)
   clear hT hK kb kb1 hA hA1 hb1
   go_wp2_with (first|(at_builtin;fail))
   refine leaves_cons (f:=96) (args:=#[.pointer (some ⟨W.heap.size,0,none⟩)]) (by simp) (by simp[go_sem]) ?_
   refine (try1_idle W.heap.size _).mono ?_
   rintro e u' w'' ⟨rfl,rfl,rfl⟩
   simp[Leaves,settle,results,Tryz.results53,go_sem,hc,okB]
   exact hT2
def Zhs (ts:List Tok) (n:Nat):Nat:=match ts with
 | []=>n
 | t :: _=>t.at_
theorem toks_head {w:World} {A:Option Addr} {t:Tok} {ts:List Tok} (h:Zek w A (t :: ts).length 4 ((t :: ts).flatMap Zae)):∃ b o,A=some ⟨b,o,none⟩∧w.cell? ⟨b,o+3,none⟩=some (.int .i64 (t.at_:Int)):=by
 obtain ⟨b,o,rfl,hc⟩:=h.2 (by simp[Zae])
 exact ⟨b,o,rfl,hc 3 _ rfl⟩
set_option maxRecDepth 100000 in
theorem place_w (A:Option Addr) (c:Nat) (ts:List Tok) (n:Nat) (w:World) (h:Zek w A ts.length 4 (ts.flatMap Zae)) (hl:ts.length≤4096) :
 Calls Tryz.prog 56 #[.slice A ts.length c,.int .i64 (n:Int)] w fun e w'=>e=.returned (.int .i64 (Zhs ts n:Int))∧w'=w:=by
 cases ts with
 | nil=>
   show Calls Tryz.prog _ #[.slice A 0 c,.int .i64 (n:Int)] w _
   go_enter Tryz.func56,Tryz.ntmps56
   go_wp2_with (first|(at_builtin;fail))
   go_ret
   exact ⟨rfl,rfl⟩
 | cons t ts=>
   obtain ⟨b,o,rfl,hc⟩:=toks_head h
   show Calls Tryz.prog _ #[.slice (some ⟨b,o,none⟩) (ts.length+1) c,.int .i64 (n:Int)] w fun e w'=>e=.returned (.int .i64 (t.at_:Int))∧w'=w
   have h1:¬ ((ts.length:Int)+1=0):=by omega
   have h2:(0:Int) < (ts.length:Int)+1:=by omega
   go_enter Tryz.func56,Tryz.ntmps56
   go_wp2_with (first|(at_builtin;fail))
   go_ret
   exact ⟨rfl,rfl⟩
def Zhx:Prop:=∀ (e:Et) (r:List Value) (P:Nat→Prop) (w0 w:World),EAt w P e r→Below w0.heap.size w0 w→Tb w0→e.nodes≤4611686018427387904 →
 Calls Tryz.prog 13 #[.agg r.toArray] w fun q w'=>q=.returned (.int .i64 (Zhj e))∧Below w.heap.size w w'
def Zei (ts:List Tok) (n:Nat):Option Et × Nat × Int × Nat:=match prL ts with
 | .error e0=>(none,0,5,Zhs e0 n)
 | .ok (e,r)=>if Zhj e=0 then (some e,ts.length - r.length,0,0) else (none,0,Zhj e,Zhs ts n)
def ResE (base:Nat) (x:Option Et) (w:World) (v:Value):Prop:=match x with
 | some e=>ExV base e w v
 | none=>v=.agg Zag.toArray
theorem pexpr_all (w0:World) (P:Nat→Prop):∀ (N:Nat) (e:Et) (r:List Value),e.ht≤N→Zbt e=true→EAt w0 P e r→PrX w0 r (Zao e):=by
 intro N
 induction N with
 | zero=>intro e r h;cases e;rw[Et.ht]at h;omega
 | succ N ih=>
   intro e r hht hr hv
   obtain ⟨o,n,s,t,ns,l⟩:=e
   obtain ⟨hc,-,-,hrs⟩:=Zbh hr
   rw[Et.ht]at hht
   have hk:∀ x q,x ∈ l→EAt w0 P x q→PrX w0 q (Zao x):=fun x q hx hq=>ih x q (by have:=Et.ht_mem hx;omega) (Zeo hrs hx) hq
   rcases (show o=0∨o=1∨o=2∨o=3∨o=4∨o=5∨o=6∨o=7∨o=8∨o=9∨o=10∨o=11∨o=12∨o=13∨o=14∨(15≤o∧o < 27)∨o=27∨o=28∨o=29∨30≤o by omega) with h|h|h|h|h|h|h|h|h|h|h|h|h|h|h|h|h|h|h|h
   · subst h;simp[Zld]at hc
   · subst h;exact pexpr_1 w0 P n s t ns l r hv hr hk
   · subst h;exact pexpr_2 w0 P n s t ns l r hv hr hk
   · subst h;exact pexpr_3 w0 P n s t ns l r hv hr hk
   · subst h;exact pexpr_4 w0 P n s t ns l r hv hr hk
   · subst h;exact pexpr_5 w0 P n s t ns l r hv hr hk
   · subst h;exact pexpr_6 w0 P n s t ns l r hv hr hk
   · subst h;exact pexpr_7 w0 P n s t ns l r hv hr hk
   · subst h;exact pexpr_8 w0 P n s t ns l r hv hr hk
   · subst h;exact pexpr_9 w0 P n s t ns l r hv hr hk
   · subst h;exact pexpr_10 w0 P n s t ns l r hv hr hk
   · subst h;exact pexpr_11 w0 P n s t ns l r hv hr hk
   · subst h;exact pexpr_12 w0 P n s t ns l r hv hr hk
   · subst h;exact pexpr_13 w0 P n s t ns l r hv hr hk
   · subst h;exact pexpr_14 w0 P n s t ns l r hv hr hk
   · exact pexpr_bin w0 P o h.1 h.2 n s t ns l r hv hr hk
   · subst h;exact pexpr_27 w0 P n s t ns l r hv hr hk
   · subst h;exact pexpr_28 w0 P n s t ns l r hv hr hk
   · subst h;exact pexpr_29 w0 P n s t ns l r hv hr hk
   · exfalso
     unfold Zld at hc
     rw[Bool.and_eq_true,Bool.and_eq_true]at hc
     have:=of_decide_eq_true hc.1.2
     omega
mutual
theorem Zqa {w:World} {P:Nat→Prop}:∀ (e:Et) (r:List Value),EAt w P e r→okN e=true
 | .mk o n s t ns l,r,h=>by
   rw[EAt]at h
   obtain ⟨A,c,B,d,rows,-,⟨-,-,hn,-⟩,-,-,-,-,-,hEs⟩:=h
   rw[okN,Bool.and_eq_true]
   exact ⟨decide_eq_true hn,esAt_okN l rows hEs⟩
theorem esAt_okN {w:World} {P:Nat→Prop}:∀ (l:List Et) (rows:List (List Value)),Zdz w P l rows→okNs l=true
 | [],rows,_=>by rw[okNs]
 | x :: l,rows,h=>by
   rw[Zdz]at h
   obtain ⟨r,rs,-,h1,h2⟩:=h
   rw[okNs,Bool.and_eq_true]
   exact ⟨Zqa x r h1,esAt_okN l rs h2⟩
end
def Zly (e:Et):ByteArray:=if Zhj e=0 then str (Zao e) else ⟨#[]⟩
theorem Zwe {e:Et} (h:Zhj e=0):Zbt e=true∧e.ht≤16∧e.nodes≤128:=by
 unfold Zhj at h
 split at h
 · cases h
 · next h1=>
   split at h
   · cases h
   · split at h
     · cases h
     · exact ⟨by simpa using h1,by omega,by omega⟩
set_option maxRecDepth 100000 in
theorem Zpl (hC:Zhx) (e:Et) (r:List Value) (P:Nat→Prop) (w0 w:World) (hr:EAt w0 P e r) (hbw:Below w0.heap.size w0 w) (htab:Tb8 w0) (hnod:e.nodes≤4611686018427387904) :
 Calls Tryz.prog 10 #[.agg r.toArray] w fun q w'=>q=.returned (.tuple #[.string (Zly e),.int .i64 (Zhj e)])∧Below w.heap.size w w':=by
 obtain ⟨o,n,s,t,A,a,c,B,m,d,hrw⟩:=Zcf hr
 have h6:r.length=6:=by rw[hrw];rfl
 have kr:=Blk.new w r 26
 have hb0:=Zac w (.cells r.toArray 26)
 obtain ⟨W,hW⟩:=Zaf (w.alloc (.cells r.toArray 26))
 have hWl:Hid (W=w.alloc (.cells #[.int .u8 (o:Int),.int .i64 n,.string s,.string t,.slice A a c,.slice B m d] 26)):=by
  rw[hrw]at hW
  exact hW
 rw[←hW.out]at kr hb0
 have hbW:=bt hbw hb0
 have hck:=hC e r P w0 W (hr.below hbW) hbW htab.tb hnod
 have hX:Zbt e=true→PrX w0 r (Zao e):=fun h=>pexpr_all w0 P e.ht e r (Nat.le_refl _) h hr
 have hcok:=@Zwe e
 have hlen:Zbt e=true→0 < (Zao e).length∧(Zao e).length≤8192 * e.nodes:=fun h=>Zob e.ht e (Nat.le_refl _) h (Zqa e r hr)
 have hPS:Hid (Zly e=if Zhj e=0 then str (Zao e) else ⟨#[]⟩):=rfl
 obtain ⟨C,HC⟩:=Zaf (Zhj e)
 obtain ⟨PS,HPS⟩:=Zaf (Zly e)
 rw[←HC.out,←HPS.out]at hPS
 rw[←HC.out]at hck hcok
 rw[←HC.out,←HPS.out]
 clear hW HC HPS hr hnod
 rw[show (Value.agg r.toArray)=.agg #[.int .u8 (o:Int),.int .i64 n,.string s,.string t,.slice A a c,.slice B m d] from by rw[hrw];rfl]
 clear hrw
 go_enter Tryz.func10,Tryz.ntmps10
 go_upto_region 1 with (first|(at_builtin;fail))
 rw[←hWl.out]
 clear hWl
 go_wp2_with (first
  | (at_builtin;fail)
  | refine wpList_load_row rfl 26 _ rfl _ rfl 26 r.toArray (0,0) _ kr Tryz.underlying26 rfl (kE6 h6) ?_)
 refine hck.mono ?_
 clear hck
 rintro q w1 ⟨rfl,hb1⟩
 have hb:=bt hb0 hb1
 have kr1:=kr.below hb1
 by_cases h0:C=0
 · have hi:(C != 0)=false:=by rw[h0];rfl
   obtain ⟨hri,-,hn128⟩:=hcok h0
   obtain ⟨hl0,hl1⟩:=hlen hri
   have HQ:Hid (PS=str (Zao e)):=Zai (by rw[hPS.out,if_pos h0])
   have HC0:=Zai h0
   have hpb:=pb_new w1 55
   have hb2:=Zac w1 (.cells #[.pointer none,.slice none 0 0] 55)
   obtain ⟨W2,hW2⟩:=Zaf (w1.alloc (.cells #[.pointer none,.slice none 0 0] 55))
   rw[←hW2.out]at hpb hb2
   have kr2:=kr1.below hb2
   have hE:Zll w0 w1.heap.size W2:=⟨bt (bt hbW hb1) hb2,by have:=hbW.size;have:=hb1.size;omega,htab⟩
   have hx:=hX hri w1.heap.size [] W2 hE hpb (by simp only[List.length_nil];omega)
   have hw12:=hb.size
   clear hX hlen hcok hPS h0 hpb hE kr kr1 hri
   go_upto_region 5 with (first|(at_builtin;fail))
   rw[←hW2.out]
   clear hW2
   go_wp2_with (first
    | (at_builtin;fail)
    | refine wpList_load_row rfl 26 _ rfl _ rfl 26 r.toArray (0,0) _ kr2 Tryz.underlying26 rfl (kE6 h6) ?_)
   refine hx.mono ?_
   clear hx
   rintro q w3 ⟨rfl,hP3,hk3⟩
   have hb3:Below w1.heap.size w1 w3:=hb2.trans hk3.below
   rw[List.nil_append]at hP3
   have hwe:=wEnd Zot hP3 (by intro e9;rw[e9]at hl0;simp at hl0)
   rw[←HQ.out]at hwe
   go_wp2_with (first|(at_builtin;fail))
   refine hwe.mono ?_
   clear hwe
   rintro q w4 ⟨rfl,hb4⟩
   go_wp2_with (first|(at_builtin;fail))
   go_ret2
   exact ⟨by rw[HC0.out];rfl,bt hb (hb3.trans hb4)⟩
 · have hi:(C != 0)=true:=by rw[bne_iff_ne];exact h0
   have HQ:Hid (PS=⟨#[]⟩):=Zai (by rw[hPS.out,if_neg h0])
   clear hX hlen hcok hPS h0
   go_wp2_with (first|(at_builtin;fail))
   go_ret2
   exact ⟨by rw[HQ.out];rfl,hb⟩
theorem eret4 {fn:Func} {p a b c:Tmp} (hr:fn.results=#[.cell p 26,.tmp a,.tmp b,.tmp c]) (tmps:Array Value) {w:World} {g:Nat} {r:List Value} {x y z:Value} (hp:tmps.getD p undef=.pointer (some ⟨g,0,none⟩)) (k:Blk w g r 26) (h:r.length=6) (hx:tmps.getD a undef=x) (hy:tmps.getD b undef=y) (hz:tmps.getD c undef=z) :
 (results fn tmps).run Tryz.prog w=.ok (.tuple #[.agg r.toArray,x,y,z]) w:=by
 simp only[results,hr]
 have h1:(asAddr (.pointer (some ⟨g,0,none⟩))).run Tryz.prog w=.ok ⟨g,0,none⟩ w:=rfl
 have hp':tmps[p]?.getD undef=.pointer (some ⟨g,0,none⟩):=by simpa using hp
 have hx':tmps[a]?.getD undef=x:=by simpa using hx
 have hy':tmps[b]?.getD undef=y:=by simpa using hy
 have hz':tmps[c]?.getD undef=z:=by simpa using hz
 simp[hp',hx',hy',hz',asAddr,eload k h]
theorem eret3 {fn:Func} {p a b:Tmp} (hr:fn.results=#[.cell p 26,.tmp a,.tmp b]) (tmps:Array Value) {w:World} {g:Nat} {r:List Value} {x y:Value} (hp:tmps.getD p undef=.pointer (some ⟨g,0,none⟩)) (k:Blk w g r 26) (h:r.length=6) (hx:tmps.getD a undef=x) (hy:tmps.getD b undef=y) :
 (results fn tmps).run Tryz.prog w=.ok (.tuple #[.agg r.toArray,x,y]) w:=by
 simp only[results,hr]
 have h1:(asAddr (.pointer (some ⟨g,0,none⟩))).run Tryz.prog w=.ok ⟨g,0,none⟩ w:=rfl
 have hp':tmps[p]?.getD undef=.pointer (some ⟨g,0,none⟩):=by simpa using hp
 have hx':tmps[a]?.getD undef=x:=by simpa using hx
 have hy':tmps[b]?.getD undef=y:=by simpa using hy
 simp[hp',hx',hy',asAddr,eload k h]
theorem wrap_i64n (n:Nat) (h:n≤9223372036854775807):IntKind.i64.wrap (n:Int)=(n:Int):=by
 simp[IntKind.wrap,IntKind.signed,IntKind.bits]
 omega
def ReadEnd (w:World) (x:Option Et × Nat × Int × Nat) (e:Ending) (w':World):Prop:=
 (∃ v,e=.returned (.tuple #[v,.int .i64 (x.2.1:Int),.int .i64 x.2.2.1,.int .i64 (x.2.2.2:Int)])∧ResE w.heap.size x.1 w' v)∧Below w.heap.size w w'
set_option maxRecDepth 100000 in
theorem read_w (hC:Zhx) (A:Option Addr) (c:Nat) (ts:List Tok) (n:Nat) (w:World) (hl:Zek w A ts.length 4 (ts.flatMap Zae)) (hA:∀ a,A=some a→a.block < w.heap.size) (hc:ts.length≤c) (hok:Zhb ts) (htab:Tb w) :
 Calls Tryz.prog 28 #[.slice A ts.length c,.int .i64 (n:Int)] w (ReadEnd w (Zei ts n)):=by
 have hmf:∀ fn first cap w,(Instr.makeFunc fn first cap).run Tryz.prog w=.ok (.func fn first cap) w:=fun _ _ _ _=>rfl
 have hb1:=Zac w (.cells Zag.toArray 26)
 have k4:=Blk.new w Zag 26
 have hs1:=Zkz w (.cells Zag.toArray 26)
 obtain ⟨W1,hW1⟩:=Zaf (w.alloc (.cells Zag.toArray 26))
 rw[←hW1.out]at hb1 k4 hs1
 have hb2:=Zac W1 (.cells #[.slice A ts.length c] 86)
 have kp:=Blk.new W1 [.slice A ts.length c] 86
 have hs2:=Zkz W1 (.cells #[.slice A ts.length c] 86)
 rw[hs1]at kp hs2
 obtain ⟨W2,hW2⟩:=Zaf (W1.alloc (.cells #[.slice A ts.length c] 86))
 have hb2':Below W1.heap.size W1 W2:=by rw[hW2.out];exact hb2
 replace kp:Blk W2 (w.heap.size+1) [.slice A ts.length c] 86:=by rw[hW2.out];exact kp
 rw[←hW2.out]at hs2
 have hb3:=Zac W2 (.cells #[.pointer (some ⟨w.heap.size+1,0,none⟩)] 84)
 have kq0:=Blk.new W2 [.pointer (some ⟨w.heap.size+1,0,none⟩)] 84
 have hs3:=Zkz W2 (.cells #[.pointer (some ⟨w.heap.size+1,0,none⟩)] 84)
 rw[hs2]at kq0 hs3
 obtain ⟨W3,hW3⟩:=Zaf (W2.alloc (.cells #[.pointer (some ⟨w.heap.size+1,0,none⟩)] 84))
 have hb3':Below W2.heap.size W2 W3:=by rw[hW3.out];exact hb3
 replace kq0:Blk W3 (w.heap.size+1+1) [.pointer (some ⟨w.heap.size+1,0,none⟩)] 84:=by rw[hW3.out];exact kq0
 rw[←hW3.out]at hs3
 have hb4:=Zac W3 (.cells Zag.toArray 26)
 have kq1:=Blk.new W3 Zag 26
 rw[hs3]at kq1
 obtain ⟨W,hW⟩:=Zaf (W3.alloc (.cells Zag.toArray 26))
 have hWl:Hid (W=(((w.alloc (.cells #[.int .u8 0,.int .i64 0,.string ⟨#[]⟩,.string ⟨#[]⟩,.slice none 0 0,.slice none 0 0] 26)).alloc (.cells #[.slice A ts.length c] 86)).alloc (.cells #[.pointer (some ⟨w.heap.size+1,0,none⟩)] 84)).alloc (.cells #[.int .u8 0,.int .i64 0,.string ⟨#[]⟩,.string ⟨#[]⟩,.slice none 0 0,.slice none 0 0] 26)):=Zai (by rw[hW.out,hW3.out,hW2.out,hW1.out];rfl)
 rw[←hW.out]at hb4 kq1
 have hb12:=hb2'.trans (hb3'.mono hb2'.size)
 have hbW1:Below W1.heap.size W1 W:=hb12.trans (hb4.mono hb12.size)
 have hbW:Below w.heap.size w W:=bt hb1 hbW1
 replace kp:=(kp.below hb3').below hb4
 replace kq0:=kq0.below hb4
 have hrd:Zbg W (w.heap.size+1) ts:=⟨A,c,kp,hl.below hbW,fun a ha=>by have:=hA a ha;omega,hc⟩
 have hTA:Zws W1 W (w.heap.size+1) (w.heap.size+1+1) (w.heap.size+1+1+1):=⟨Zad hbW1 none,by rw[hs1];exact Nat.le_refl _,Nat.lt_succ_self _,Nat.lt_succ_self _,kq0⟩
 have htr:=rtry_w W1 w W (w.heap.size+1) (w.heap.size+1+1) (w.heap.size+1+1+1) ts hTA kq1 hrd hok ⟨hbW,Nat.le_succ _,htab⟩
 have hps:=Zzt ts
 have hnd:=@prL_nodes ts
 have hRR:Hid (Zei ts n=match prL ts with
  | .error e0=>(none,0,5,Zhs e0 n)
  | .ok (e,r)=>if Zhj e=0 then (some e,ts.length - r.length,0,0) else (none,0,Zhj e,Zhs ts n)):=rfl
 obtain ⟨Q,HQ0⟩:=Zaf (Zei ts n)
 rw[←HQ0.out]at hRR ⊢
 obtain ⟨y,hy⟩:=Zaf (prL ts)
 rw[←hy.out]at htr hps hnd hRR
 have hszW:=hbW1.size
 have hq1lt:=kq1.lt
 obtain ⟨tl,htl⟩:=Zaf ts.length
 have htl4:tl≤4096:=by rw[htl.out];exact hok.1
 have hpt:=place_w A c ts n
 rw[←htl.out]at hpt hWl ⊢
 have HL:=Zai hl
 rw[←htl.out]at HL
 have hnd2:∀ (e:Et) (r:List Tok),y=.ok (e,r)→e.nodes+r.length≤ts.length:=fun e r h=>hnd h
 have x0:W.cell? ⟨w.heap.size+1+1,0,none⟩=some (.pointer (some ⟨w.heap.size+1,0,none⟩)):=kq0.cell 0
 obtain ⟨p4,hp4⟩:=Zaf w.heap.size
 rw[←hp4.out]at htr hWl hq1lt k4 hs1 x0
 obtain ⟨p,hp⟩:=Zaf (p4+1)
 rw[←hp.out]at htr hWl hq1lt hs1 x0
 obtain ⟨q0,hq0⟩:=Zaf (p+1)
 rw[←hq0.out]at htr hq1lt x0
 obtain ⟨q1,hq1⟩:=Zaf (q0+1)
 rw[←hq1.out]at htr hq1lt
 have hpp:p4 < p:=by rw[hp.out];exact Nat.lt_succ_self _
 have hpq:p < q0:=by rw[hq0.out];exact Nat.lt_succ_self _
 have hqq:q0 < q1:=by rw[hq1.out];exact Nat.lt_succ_self _
 have HP4:=Zai (Nat.le_of_eq hp4.out)
 have HP4':=Zai (Nat.le_of_eq hp4.out.symm)
 have hbw1:Hid (Below w.heap.size w W1):=Zai hb1
 have hp4a:=HP4'.out
 clear hW hW1 hW2 hW3 hb1 hb2 hb2' hb3 hb3' hb4 hb12 hs2 hs3 kp kq1 hrd hTA hy hl hA hbW1 hbW kq0 hnd
 go_enter Tryz.func28,Tryz.ntmps28
 go_upto_region 3 with (first|(at_builtin;fail))
 rw[←hp4.out,←hp.out,←hWl.out,←hq0.out,←hq1.out]
 clear hWl hp4 hp hq0 hq1
 go_wp2_with (first|(at_builtin;fail))
 refine htr.mono ?_
 clear htr
 rintro e9 w1 ⟨rfl,hT,hm⟩
 obtain ⟨hg1,-,-,-,kq0⟩:=hT
 have k41:Blk w1 p4 Zag 26:=(hg1.block p4 (by omega) (by simp)).trans k4
 have hb1:Below w.heap.size w w1:=bt hbw1.out ⟨hg1.os,hg1.tape,hg1.output,hg1.size,fun k hk=>hg1.block k hk (by simp)⟩
 clear k4 hg1 hs1 hszW x0
 cases y with
 | error e0=>
   obtain ⟨A2,c2,kp,hl2,hA2,hc2⟩:=hm
   have HQ:Hid (Q=(none,0,5,Zhs e0 n)):=Zai hRR.out
   have hlen:e0.length≤tl:=by rw[htl.out];exact (show e0 <:+ ts from hps).length_le
   have hpl:=place_w A2 c2 e0 n w1 hl2 (by omega)
   have x8:w1.cell? ⟨q0,0,none⟩=some (.pointer (some ⟨p,0,none⟩)):=kq0.cell 0
   have x9:w1.cell? ⟨p,0,none⟩=some (.slice A2 e0.length c2):=kp.cell 0
   obtain ⟨pl,hpl0⟩:=Zaf (Zhs e0 n)
   rw[←hpl0.out]at hpl HQ
   clear hRR hl2 hA2 hc2 hpl0 hps
   go_wp2_with (first
    | (at_builtin;fail)
    | refine wpList_store_row rfl 26 _ _ rfl _ Zag.toArray rfl rfl 26 Zag.toArray k41 (kE6 rfl) rfl (Zas Zfp) ?_)
   refine hpl.mono ?_
   clear hpl
   rintro e8 w2 ⟨rfl,hw2⟩
   replace hw2:=hw2.symm
   subst hw2
   go_wp2_with (first
    | (at_builtin;fail)
    | refine wpList_store_row rfl 26 _ _ rfl _ Zag.toArray rfl rfl 26 Zag.toArray k41 (kE6 rfl) rfl (Zas Zfp) ?_)
   refine bodyPost_ret (eret4 rfl _ rfl (k41.vrow Zag) rfl rfl rfl rfl) rfl ?_
   rw[HQ.out]
   exact ⟨⟨_,rfl,rfl⟩,Zah hb1 HP4'.out _⟩
 | ok z=>
   obtain ⟨e,r⟩:=z
   obtain ⟨⟨A2,c2,kp,hl2,hA2,hc2⟩,re,kq1,hv,hwr⟩:=hm
   have hlen:r.length≤tl:=by
    have h9:r <:+ ts:=hps.1
    rw[htl.out]
    exact h9.length_le
   have hndl:=hnd2 e r rfl
   have hck:=hC e re _ w1 w1 hv (Below.refl _ _) (htab.below hb1) (by rw[←htl.out]at hndl;omega)
   have hrr:=Zcl (Zcf hv)
   have h6:=hrr.1
   have h1e:=hrr.2
   have hRR2:Hid (Q=if Zhj e=0 then (some e,tl - r.length,0,0) else (none,0,Zhj e,Zhs ts n)):=Zai (by rw[hRR.out,htl.out])
   obtain ⟨C,hCC⟩:=Zaf (Zhj e)
   rw[←hCC.out]at hck hRR2
   obtain ⟨lo,hlo⟩:=Zaf (W.heap.size+1)
   rw[←hlo.out]at hv
   have hloq:q1 < lo:=by rw[hlo.out];omega
   clear hRR hl2 hA2 hc2 hnd2 hndl hps hCC hrr hlo hq1lt
   have HV:=Zai hv
   have HWR:=Zai hwr
   clear hv hwr
   go_upto_region 6 with (first
    | (at_builtin;fail)
    | refine wpList_load_row rfl 26 _ rfl _ rfl 26 re.toArray (0,0) _ kq1 Tryz.underlying26 rfl (kE6 h6) ?_)
   refine hck.mono ?_
   clear hck
   rintro e8 w2 ⟨rfl,hb2⟩
   have hb12:=bt hb1 hb2
   replace k41:=k41.below hb2
   by_cases hk:C=0
   · have hi:(C != 0)=false:=by rw[hk];rfl
     have HQ:Hid (Q=(some e,tl - r.length,0,0)):=Zai (by rw[hRR2.out,if_pos hk])
     have kq1':=kq1.below hb2
     have kq0':=kq0.below hb2
     have kp':=kp.below hb2
     have hv':=HV.out.up (Zad hb2 (some p4)) (fun b hb=>by omega)
     have hwr':=HWR.out.grown HV.out (Zad hb2 (some p4)) (fun b hb=>by have:lo≤b:=hb.1;omega)
     obtain ⟨m2,hm2⟩:=Zaf r.length
     rw[←hm2.out]at kp' hlen HQ
     have hws:IntKind.i64.wrap ((tl:Int) - (m2:Int))=((tl - m2:Nat):Int):=by
      have:=wrap_i64n (tl - m2) (by omega)
      rw[show (tl:Int) - (m2:Int)=((tl - m2:Nat):Int) by omega]
      exact this
     clear kq1 kq0 kp HV HWR hRR2 hm2 hb1 hb2 hk
     go_upto_region 8 with (first|(at_builtin;fail))
     refine Zap (fun L _ u=>Blk u q1 re 26∧Blk u q0 [.pointer (some ⟨p,0,none⟩)] 84∧Blk u p [.slice A2 m2 c2] 86∧Blk u p4 (cond (L 9) re Zag) 26∧Below w.heap.size w u∧EAt u (Up u (fun b=>lo≤b)) e re∧WrE u re) (fun _ _ _=>True) _ (by kernel_rfl) (by kernel_rfl) (fun v=>by simp only[Zbx,Act.put,List.toList_toArray,Zl2,Zl0,Zl1,Nat.reduceAdd,Nat.zero_add];rfl) ⟨kq1',kq0',kp',k41,Zaj hb12,hv'.up (Zad (Zaj (Below.refl _ _)) (some p4)) (fun b hb=>by omega),hwr'.grown hv' (Zad (Zaj (Below.refl _ _)) (some p4)) (fun b hb=>by have:lo≤b:=hb.1;omega)⟩ (fun L L' v u hL h=>by rw[←hL 9 (by decide)];exact h) ?_
     refine Zaa [] _ (fun L hL hcl v u hS hd K' hK=>by
      have k9:=hS.1
      refine Zbe rfl ?_
      refine wp_load_row 26 _ rfl _ rfl 26 re.toArray (0,0) _ k9 Tryz.underlying26 rfl (kE6 h6) ?_
      exact hK.out _ ⟨hS,trivial⟩) (by kernel_rfl) (j:=1) rfl ?_
     refine Zaa [] _ (fun L hL hcl v u hS hd K' hK=>by
      simp only[Act.put,Zl2,Zl0,Zl1]at hK
      go_simp
      exact hK.out _ ⟨hS,trivial⟩) (by kernel_rfl) (j:=2) rfl ?_
     refine Zaa [1] _ (fun L hL hcl v u hS hd K' hK=>by
      simp only[Zal,Zak,eqv,Zl3,Zl4,Nat.reduceSub]at hd
      simp only[Act.put,Zl2,Zl0,Zl1]at hK
      try simp only[hd]at hK
      go_simp
      exact hK.out _ ⟨hS,trivial⟩) (by kernel_rfl) (j:=3) rfl ?_
     refine Zaa [] _ (fun L hL hcl v u hS hd K' hK=>by
      simp only[Act.put,Zl2,Zl0,Zl1]at hK
      have x9:u.cell? ⟨q0,0,none⟩=some (.pointer (some ⟨p,0,none⟩)):=hS.2.1.cell 0
      go_simp
      exact hK.out _ ⟨hS,trivial⟩) (by kernel_rfl) (j:=4) rfl ?_
     refine Zaa [3] _ (fun L hL hcl v u hS hd K' hK=>by
      simp only[Zal,Zak,eqv,Zl3,Zl4,Nat.reduceSub]at hd
      simp only[Act.put,Zl2,Zl0,Zl1]at hK
      try simp only[hd]at hK
      go_simp
      exact hK.out _ ⟨hS,trivial⟩) (by kernel_rfl) (j:=5) rfl ?_
     refine Zaa [4] _ (fun L hL hcl v u hS hd K' hK=>by
      simp only[Zal,Zak,eqv,Zl3,Zl4,Nat.reduceSub]at hd
      simp only[Act.put,Zl2,Zl0,Zl1]at hK
      try simp only[hd]at hK
      go_simp
      exact hK.out _ ⟨hS,trivial⟩) (by kernel_rfl) (j:=6) rfl ?_
     refine Zaa [5] _ (fun L hL hcl v u hS hd K' hK=>by
      simp only[Zal,Zak,eqv,Zl3,Zl4,Nat.reduceSub]at hd
      simp only[Act.put,Zl2,Zl0,Zl1]at hK
      try simp only[hd]at hK
      have x9:u.cell? ⟨p,0,none⟩=some (.slice A2 m2 c2):=hS.2.2.1.cell 0
      go_simp
      exact hK.out _ ⟨hS,trivial⟩) (by kernel_rfl) (j:=7) rfl ?_
     refine Zaa [6] _ (fun L hL hcl v u hS hd K' hK=>by
      simp only[Zal,Zak,eqv,Zl3,Zl4,Nat.reduceSub]at hd
      simp only[Act.put,Zl2,Zl0,Zl1]at hK
      try simp only[hd]at hK
      go_simp
      exact hK.out _ ⟨hS,trivial⟩) (by kernel_rfl) (j:=8) rfl ?_
     refine Zaa [2,7] _ (fun L hL hcl v u hS hd K' hK=>by
      simp only[Zal,Zak,eqv,Zl3,Zl4,Nat.reduceSub]at hd
      simp only[Act.put,Zl2,Zl0,Zl1]at hK
      try simp only[hd]at hK
      go_simp
      exact hK.out _ ⟨hS,trivial⟩) (by kernel_rfl) (j:=9) rfl ?_
     refine Zam [0] (fun _ _=>True) (fun _ _ _ _ _ _ _=>trivial) (fun L hL hcl v u hS hd K' hK=>by
      simp only[Zal,Zak,eqv,Zl3,Zl4,Nat.reduceSub]at hd
      have k9:=hS.2.2.2.1
      rw[hL]at k9
      have hgr:=Zbc u p4 re.toArray
      refine Zbe rfl ?_
      refine wp_store_row 26 _ _ rfl _ re.toArray rfl hd 26 Zag.toArray k9 (kE6 h6) (by simp[h6,Zag,Zav]) (Zas h1e) ?_
      exact hK.out undef _ ⟨⟨(Zch _ _ _ _ (by omega)).trans hS.1,(Zch _ _ _ _ (by omega)).trans hS.2.1,(Zch _ _ _ _ (by omega)).trans hS.2.2.1,k9.vrow _,Zah hS.2.2.2.2.1 (by omega) _,hS.2.2.2.2.2.1.up hgr (fun b hb=>by omega),hS.2.2.2.2.2.2.grown hS.2.2.2.2.2.1 hgr (fun b hb=>by have:lo≤b:=hb.1;omega)⟩,trivial,trivial⟩) (by kernel_rfl) (j:=10) rfl ?_
     refine Zaa [8] _ (fun L hL hcl v u hS hd K' hK=>by
      simp only[Zal,Zak,eqv,Zl3,Zl4,Nat.reduceSub]at hd
      simp only[Act.put,Zl2,Zl0,Zl1]at hK
      try simp only[hd]at hK
      go_simp
      exact hK.out _ ⟨hS,trivial⟩) (by kernel_rfl) (j:=11) rfl ?_
     refine Zaa [] _ (fun L hL hcl v u hS hd K' hK=>by
      simp only[Act.put,Zl2,Zl0,Zl1]at hK
      go_simp
      exact hK.out _ ⟨hS,trivial⟩) (by kernel_rfl) (j:=12) rfl ?_
     refine Zaa [] _ (fun L hL hcl v u hS hd K' hK=>by
      simp only[Act.put,Zl2,Zl0,Zl1]at hK
      go_simp
      exact hK.out _ ⟨hS,trivial⟩) (by kernel_rfl) (j:=13) rfl ?_
     refine Zau [10,11,12] (by decide) ?_
     rintro v u hS hR
     simp only[Zal,Zak,eqv,Zl3,Zl4,Nat.reduceSub]at hR
     obtain ⟨hr1,hr2,hr3⟩:=hR
     obtain ⟨-,-,-,z4,z5,z6,z7⟩:=hS
     go_wp2_with (first|(at_builtin;fail))
     refine bodyPost_ret (eret4 rfl _ rfl z4 h6 rfl rfl rfl) rfl ?_
     rw[HQ.out]
     exact ⟨⟨_,by first|rfl|(rw[hr1,hr2,hr3];rfl),re,rfl,z6.imp (fun b hb=>⟨by have:=hb.1;omega,hb.2⟩),z7⟩,z5⟩
   · have hi:(C != 0)=true:=by rw[bne_iff_ne];exact hk
     have HQ:Hid (Q=(none,0,C,Zhs ts n)):=Zai (by rw[hRR2.out,if_neg hk])
     have hpl:=hpt w2 (HL.out.below hb12) htl4
     obtain ⟨pl,hpl0⟩:=Zaf (Zhs ts n)
     rw[←hpl0.out]at hpl HQ
     clear hRR2 hk kq1 kq0 kp HV HWR hpl0 hpt
     go_wp2_with (first|(at_builtin;fail))
     refine hpl.mono ?_
     clear hpl
     rintro e8 w3 ⟨rfl,hw3⟩
     replace hw3:=hw3.symm
     subst hw3
     go_wp2_with (first
      | (at_builtin;fail)
      | refine wpList_store_row rfl 26 _ _ rfl _ Zag.toArray rfl rfl 26 Zag.toArray k41 (kE6 rfl) rfl (Zas Zfp) ?_)
     refine bodyPost_ret (eret4 rfl _ rfl (k41.vrow Zag) rfl rfl rfl rfl) rfl ?_
     rw[HQ.out]
     exact ⟨⟨_,rfl,rfl⟩,Zah hb12 HP4'.out _⟩
theorem Zli {l:List UInt8} {x:Int} (h:Lib.parseIntB 64 l=.ok x):-9223372036854775808≤x∧x≤9223372036854775807:=by
 unfold Lib.parseIntB at h
 cases l with
 | nil=>cases h
 | cons c r=>
   simp only[]at h
   split at h
   · cases h
   · cases h
   · next u hu=>
     split at h
     · cases h
     · next h1=>
       split at h
       · cases h
       · next h2=>
         have e:(2:Nat) ^ (64 - 1)=9223372036854775808:=by decide
         rw[e]at h1 h2
         cases h
         by_cases hn:c.toNat=45
         · rw[if_pos hn]
           have:¬ 9223372036854775808 < u:=fun h=>h2 ⟨hn,h⟩
           omega
         · rw[if_neg hn]
           have:¬ 9223372036854775808≤u:=fun h=>h1 ⟨hn,h⟩
           omega
theorem next_ok {l:List UInt8} {t:Tok} {n:Nat} (h:Zdb l=.ok (t,n)):t.k < 5∧-9223372036854775808≤t.n∧t.n≤9223372036854775807:=by
 cases l with
 | nil=>cases h
 | cons b r=>
   rcases Zpq h with ⟨_,rfl,_⟩|⟨_,_,x,hx,rfl,_⟩|⟨_,x,m,_,_,_,rfl,_⟩|⟨_,rfl,_⟩|⟨_,rfl,_⟩
   · exact ⟨by simp,by simp,by simp⟩
   · exact ⟨by simp,(Zli hx).1,(Zli hx).2⟩
   · exact ⟨by simp,by simp,by simp⟩
   · exact ⟨by simp,by simp,by simp⟩
   · exact ⟨by simp,by simp,by simp⟩
def TokB (N:Nat) (t:Tok):Prop:=t.t.length≤N∧t.k < 5∧-9223372036854775808≤t.n∧t.n≤9223372036854775807∧t.at_≤N
theorem cutF_ok:∀ (f N:Nat) (l:List UInt8) (ts:List Tok),l.length≤N→Zrq f N l=.ok ts→ts.length≤l.length∧∀ t ∈ ts,TokB N t:=by
 intro f
 induction f with
 | zero=>intro N l ts _ h;cases h;exact ⟨Nat.zero_le _,fun t h=>by cases h⟩
 | succ f ih=>
   intro N l ts hN h
   rw[Zrq]at h
   split at h
   · cases h;exact ⟨Nat.zero_le _,fun t h=>by cases h⟩
   · split at h
     · cases h
     · next t n hn=>
       have hp:=Zkk hn
       have hk:=next_ok hn
       have hs:=Zhf (l.drop n)
       rw[List.length_drop]at hs
       split at h
       · next ts2 h2=>
         obtain ⟨i1,i2⟩:=ih N _ ts2 (by omega) h2
         cases h
         refine ⟨by rw[List.length_cons];omega,fun q hq=>?_⟩
         rcases List.mem_cons.1 hq with rfl|hq
         · exact ⟨by show t.t.length≤N;omega,hk.1,hk.2.1,hk.2.2,by show N - l.length≤N;omega⟩
         · exact i2 q hq
       · cases h
theorem cutF_no:∀ (f N:Nat) (l:List UInt8) (e:Int) (at_:Nat),Zrq f N l=.error (e,at_)→e ≠ 0∧at_≤N:=by
 intro f
 induction f with
 | zero=>intro N l e a h;cases h
 | succ f ih=>
   intro N l e a h
   rw[Zrq]at h
   split at h
   · cases h
   · split at h
     · next e2 he=>cases h;exact ⟨next_err he,by omega⟩
     · split at h
       · cases h
       · next e2 h2=>cases h;exact ih N _ e a h2
theorem Zti {s:List UInt8} {ts:List Tok} (h:Zln s=.ok ts):s.length≤2048∧ts.length≤s.length∧∀ t ∈ ts,TokB s.length t:=by
 unfold Zln at h
 split at h
 · cases h
 · next hl=>
   have hs:=Zhf s
   obtain ⟨h1,h2⟩:=cutF_ok _ _ _ ts hs h
   exact ⟨by omega,by omega,h2⟩
theorem cut_tk {s:List UInt8} {ts:List Tok} (h:Zln s=.ok ts):Zhb ts:=by
 obtain ⟨h1,h2,h3⟩:=Zti h
 exact ⟨by omega,fun t ht=>by obtain ⟨a,b,c,d,_⟩:=h3 t ht;exact ⟨by omega,by omega,c,d⟩⟩
theorem cut_no {s:List UInt8} {e:Int} {a:Nat} (h:Zln s=.error (e,a)):e ≠ 0∧a≤s.length:=by
 unfold Zln at h
 split at h
 · cases h;exact ⟨by decide,Nat.zero_le _⟩
 · exact cutF_no _ _ _ _ _ h
def Zcp (s:List UInt8):Option Et × Int × Nat:=match Zln s with
 | .error (k,a)=>(none,k,a)
 | .ok ts=>let x:=Zei ts s.length
   if x.2.2.1 ≠ 0 then (none,x.2.2.1,x.2.2.2) else if x.2.1 < ts.length then (none,5,(ts.getD x.2.1 Zan).at_) else (x.1,0,0)
def ParseEnd (w:World) (x:Option Et × Int × Nat) (e:Ending) (w':World):Prop:=
 (∃ v,e=.returned (.tuple #[v,.int .i64 x.2.1,.int .i64 (x.2.2:Int)])∧ResE w.heap.size x.1 w' v)∧Below w.heap.size w w'
theorem Zdm {base:Nat} {x:Option Et} {w:World} {v:Value} (h:ResE base x w v):∃ r,v=.agg r.toArray∧r.length=6∧(∀ u ∈ r,u.oneCell'=true)∧(∀ e,x=some e→EAt w (Nw base w) e r∧WrE w r)∧(x=none→r=Zag):=by
 cases x with
 | none=>exact ⟨Zag,h,rfl,Zfp,fun e h=>(by cases h),fun _=>rfl⟩
 | some e=>
   obtain ⟨r,h1,h2,h3⟩:=h
   obtain ⟨h6,h7⟩:=Zcl (Zcf h2)
   exact ⟨r,h1,h6,h7,fun e2 q=>by cases q;exact ⟨h2,h3⟩,fun q=>by cases q⟩
theorem readR_some {ts:List Tok} {n:Nat} (h:(Zei ts n).2.2.1=0):∃ e,(Zei ts n).1=some e:=by
 unfold Zei at h ⊢
 split at h
 · simp at h
 · split at h
   · next hc=>rw[if_pos hc];exact ⟨_,rfl⟩
   · next hc=>exact absurd h hc
theorem tok_at {w:World} {b o:Nat} {ts:List Tok} {i:Nat} (h:Zek w (some ⟨b,o,none⟩) ts.length 4 (ts.flatMap Zae)) (hi:i < ts.length):w.cell? ⟨b,o+i * 4+3,none⟩=some (.int .i64 ((ts.getD i Zan).at_:Int)):=by
 obtain ⟨b',o',e,hc⟩:=h.2 (by
  intro e
  have:=h.1
  rw[e]at this
  simp at this
  omega)
 cases e
 rw[Nat.add_assoc]
 refine hc _ _ ?_
 have hg:ts.getD i Zan=ts[i]:=by rw[List.getD_eq_getElem?_getD,List.getElem?_eq_getElem hi];rfl
 rw[hg]
 have hf:∀ (l:List Tok) (k:Nat) (hk:k < l.length),(l.flatMap Zae)[k * 4+3]?=some (.int .i64 (l[k].at_:Int)):=by
  intro l
  induction l with
  | nil=>intro k hk;simp at hk
  | cons t l ih=>
    intro k hk
    rw[List.flatMap_cons]
    cases k with
    | zero=>rfl
    | succ k=>
      rw[List.getElem?_append_right (by show 4≤_;omega),show (k+1) * 4+3 - (Zae t).length=k * 4+3 from by show (k+1) * 4+3 - 4=_;omega]
      exact ih k (by simpa using hk)
 exact hf ts i hi
set_option maxRecDepth 100000 in
theorem Zgy (hC:Zhx) (s:ByteArray) (w:World) (hs:s.size≤140737488351232) (htab:Tb8 w) :
 Calls Tryz.prog 15 #[.string s] w (ParseEnd w (Zcp s.data.toList)):=by
 have hb1:=Zac w (.cells Zag.toArray 26)
 have k2:=Blk.new w Zag 26
 obtain ⟨W,hW⟩:=Zaf (w.alloc (.cells Zag.toArray 26))
 have hWl:Hid (W=w.alloc (.cells #[.int .u8 0,.int .i64 0,.string ⟨#[]⟩,.string ⟨#[]⟩,.slice none 0 0,.slice none 0 0] 26)):=hW
 rw[←hW.out]at hb1 k2
 have hcu:=cut_w s W hs (htab.below hb1)
 have hRR:Hid (Zcp s.data.toList=match Zln s.data.toList with
  | .error (k,a)=>(none,k,a)
  | .ok ts=>if (Zei ts s.data.toList.length).2.2.1 ≠ 0 then (none,(Zei ts s.data.toList.length).2.2.1,(Zei ts s.data.toList.length).2.2.2) else if (Zei ts s.data.toList.length).2.1 < ts.length then (none,5,(ts.getD (Zei ts s.data.toList.length).2.1 Zan).at_) else ((Zei ts s.data.toList.length).1,0,0)):=rfl
 have hno:=@cut_no s.data.toList
 have hno2:∀ e a,Zln s.data.toList=.error (e,a)→e ≠ 0:=fun e a h=>(hno h).1
 have hct2:∀ ts,Zln s.data.toList=.ok ts→Zhb ts:=fun ts h=>cut_tk h
 obtain ⟨Q,HQ0⟩:=Zaf (Zcp s.data.toList)
 rw[←HQ0.out]at hRR ⊢
 obtain ⟨y,hy⟩:=Zaf (Zln s.data.toList)
 rw[←hy.out]at hcu hRR hno2 hct2
 rw[←Lib.size_eq]at hRR
 obtain ⟨p2,hp2⟩:=Zaf w.heap.size
 rw[←hp2.out]at k2
 have hp2a:w.heap.size≤p2:=Nat.le_of_eq hp2.out.symm
 have k2lt:=k2.lt
 clear hW hno hy
 go_enter Tryz.func15,Tryz.ntmps15
 go_upto_region 1 with (first|(at_builtin;fail))
 rw[←hp2.out,←hWl.out]
 clear hWl hp2
 go_wp2_with (first|(at_builtin;fail))
 refine hcu.mono ?_
 clear hcu
 cases y with
 | error z=>
   obtain ⟨k,a⟩:=z
   rintro e w1 ⟨rfl,hb⟩
   have hb2:=bt hb1 hb
   have k21:=k2.below hb
   have hk0:=hno2 k a rfl
   have hi:(k != 0)=true:=by rw[bne_iff_ne];exact hk0
   have HQ:Hid (Q=(none,k,a)):=Zai hRR.out
   clear hRR hk0 hno2 hct2
   go_wp2_with (first
    | (at_builtin;fail)
    | refine wpList_store_row rfl 26 _ _ rfl _ Zag.toArray rfl rfl 26 Zag.toArray k21 (kE6 rfl) rfl (Zas Zfp) ?_)
   refine bodyPost_ret (eret3 rfl _ rfl (k21.vrow Zag) rfl rfl rfl) rfl ?_
   rw[HQ.out]
   exact ⟨⟨_,rfl,rfl⟩,Zah hb2 hp2a _⟩
 | ok ts=>
   rintro e w1 ⟨v,rfl,hown,hb⟩
   have hb2:=bt hb1 hb
   have k21:=k2.below hb
   have htk:=hct2 ts rfl
   obtain ⟨A,c,rfl,hc,-,hl,-⟩:=Zek.of_own hown
   have hA:∀ a,A=some a→a.block < w1.heap.size:=fun a ha=>by
    rcases hown.2 with ⟨e,_⟩|⟨g,cap,cur,e,_,hh,_⟩
    · have e1:A=none:=by injection e
      rw[e1]at ha;cases ha
    · have e1:A=some ⟨g,0,none⟩:=by injection e
      rw[e1]at ha;cases ha;exact (Array.getElem?_eq_some_iff.1 hh).1
   have hrd:=read_w hC A c ts s.size w1 hl hA hc htk (htab.below hb2).tb
   have HQ1:Hid (Q=if (Zei ts s.size).2.2.1 ≠ 0 then (none,(Zei ts s.size).2.2.1,(Zei ts s.size).2.2.2) else if (Zei ts s.size).2.1 < ts.length then (none,5,(ts.getD (Zei ts s.size).2.1 Zan).at_) else ((Zei ts s.size).1,0,0)):=Zai hRR.out
   have hsome:=@readR_some ts s.size
   obtain ⟨x,hx⟩:=Zaf (Zei ts s.size)
   rw[←hx.out]at hrd HQ1 hsome
   obtain ⟨x1,m,why,at0⟩:=x
   have HSM:Hid (why=0→∃ e,x1=some e):=Zai hsome
   have HL:=Zai hl
   have hm:p2 < w1.heap.size:=k21.lt
   obtain ⟨tl,htl⟩:=Zaf ts.length
   rw[←htl.out]at hrd
   have HQ:Hid (Q=if why ≠ 0 then (none,why,at0) else if m < tl then (none,5,(ts.getD m Zan).at_) else (x1,0,0)):=Zai (by rw[HQ1.out,htl.out])
   have hAll:∀ a,A=some a→a.block ≠ p2:=fun a ha=>by
    have:=(hown.lt a.block (by rw[ha];rfl)).1
    have:=k2lt
    omega
   have HALL:=Zai hAll
   rw[show Value.slice A ts.length c=Value.slice A tl c by rw[htl.out]]
   clear hRR hown hl hA hx htk hct2 hno2 HQ1 hsome hAll k2 hb1
   go_wp2_with (first|(at_builtin;fail))
   refine hrd.mono ?_
   clear hrd
   rintro e w2 ⟨⟨v9,rfl,hres⟩,hb3⟩
   obtain ⟨r,rfl,h6,h1e,hex,hzr⟩:=Zdm hres
   have k22:=k21.below hb3
   have hbw2:=bt hb2 hb3
   have k5:=Blk.new w2 Zag 26
   have hb5:=Zac w2 (.cells Zag.toArray 26)
   obtain ⟨W5,hW5⟩:=Zaf (w2.alloc (.cells Zag.toArray 26))
   have hW5l:Hid (W5=w2.alloc (.cells #[.int .u8 0,.int .i64 0,.string ⟨#[]⟩,.string ⟨#[]⟩,.slice none 0 0,.slice none 0 0] 26)):=hW5
   rw[←hW5.out]at k5 hb5
   have k8:=k5.vrow r
   have hb6:=Zah hb5 (Nat.le_refl _) r.toArray
   obtain ⟨W6,hW6⟩:=Zaf (W5.setRow w2.heap.size r.toArray)
   rw[←hW6.out]at k8 hb6
   have k2:=k22.below hb6
   have hb3':=bt hbw2 hb6
   have HEX:=Zai hex
   have hsz:=hb3.size
   clear hb5 hres hex k21 hW5
   go_upto_region 5 with (first
    | (at_builtin;fail)
    | (rw[←hW5l.out];refine wpList_store_row rfl 26 _ _ rfl _ r.toArray rfl rfl 26 Zag.toArray k5 (kE6 h6) (by simp[h6,Zag,Zav]) (Zas h1e) ?_;rw[←hW6.out]))
   clear hW5l hW6 k5
   by_cases hw0:why=0
   · have hi:(why != 0)=false:=by rw[hw0];rfl
     obtain ⟨e9,rfl⟩:=HSM.out hw0
     have HQ2:Hid (Q=if m < tl then (none,5,(ts.getD m Zan).at_) else (some e9,0,0)):=Zai (by rw[HQ.out,if_neg (by simp[hw0])])
     clear hw0 HQ HSM
     by_cases hmt:m < tl
     · have hi2:(m:Int) < (tl:Int):=by omega
       have hi3:(0:Int)≤(m:Int):=by omega
       obtain ⟨gA,oA,rfl,-⟩:=HL.out.2 (by
        intro e
        have:=HL.out.1
        rw[e]at this
        have h9:=htl.out
        simp at this
        omega)
       have hca0:=tok_at HL.out (show m < ts.length by rw[←htl.out];exact hmt)
       have hgp:gA ≠ p2:=HALL.out ⟨gA,oA,none⟩ rfl
       have hca:=Zcg (Zcg hca0 hb3) hb6
       have HQ:Hid (Q=(none,5,(ts.getD m Zan).at_)):=Zai (by rw[HQ2.out,if_pos hmt])
       obtain ⟨at9,hat⟩:=Zaf (ts.getD m Zan).at_
       rw[←hat.out]at hca HQ
       have hb3:=hb3'
       clear HQ2 hmt hca0 hat HL HALL k8 HEX
       go_upto_region 8 with (first|(at_builtin;fail))
       refine Zap (fun L _ u=>Blk u p2 Zag 26∧Below w.heap.size w u∧u.cell? ⟨gA,oA+m * 4+3,none⟩=some (.int .i64 (at9:Int))) (fun _ _ _=>True) _ (by kernel_rfl) (by kernel_rfl) (fun v=>by simp only[Zbx,Act.put,List.toList_toArray,Zl2,Zl0,Zl1,Nat.reduceAdd,Nat.zero_add];rfl) ⟨k2,Zaj hb3,hca⟩ (fun _ _ _ _ _ h=>h) ?_
       refine Zaa [] _ (fun L hL hcl v u hS hd K' hK=>by
        simp only[Act.put,Zl2,Zl0,Zl1]at hK
        go_simp
        exact hK.out _ ⟨hS,trivial⟩) (by kernel_rfl) (j:=1) rfl ?_
       refine Zaa [] _ (fun L hL hcl v u hS hd K' hK=>by
        simp only[Act.put,Zl2,Zl0,Zl1]at hK
        go_simp
        exact hK.out _ ⟨hS,trivial⟩) (by kernel_rfl) (j:=2) rfl ?_
       refine Zaa [] _ (fun L hL hcl v u hS hd K' hK=>by
        simp only[Act.put,Zl2,Zl0,Zl1]at hK
        go_simp
        exact hK.out _ ⟨hS,trivial⟩) (by kernel_rfl) (j:=3) rfl ?_
       refine Zaa [1,2] _ (fun L hL hcl v u hS hd K' hK=>by
        simp only[Zal,Zak,eqv,Zl3,Zl4,Nat.reduceSub]at hd
        simp only[Act.put,Zl2,Zl0,Zl1]at hK
        try simp only[hd]at hK
        go_simp
        exact hK.out _ ⟨hS,trivial⟩) (by kernel_rfl) (j:=4) rfl ?_
       refine Zaa [3] _ (fun L hL hcl v u hS hd K' hK=>by
        simp only[Zal,Zak,eqv,Zl3,Zl4,Nat.reduceSub]at hd
        simp only[Act.put,Zl2,Zl0,Zl1]at hK
        try simp only[hd]at hK
        go_simp
        exact hK.out _ ⟨hS,trivial⟩) (by kernel_rfl) (j:=5) rfl ?_
       refine Zaa [4] _ (fun L hL hcl v u hS hd K' hK=>by
        simp only[Zal,Zak,eqv,Zl3,Zl4,Nat.reduceSub]at hd
        simp only[Act.put,Zl2,Zl0,Zl1]at hK
        try simp only[hd]at hK
        have x9:=hS.2.2
        go_simp
        exact hK.out _ ⟨hS,trivial⟩) (by kernel_rfl) (j:=6) rfl ?_
       refine Zam [0] (fun _ _=>True) (fun _ _ _ _ _ _ _=>trivial) (fun L hL hcl v u hS hd K' hK=>by
        simp only[Zal,Zak,eqv,Zl3,Zl4,Nat.reduceSub]at hd
        have k9:=hS.1
        refine Zbe rfl ?_
        refine wp_store_row 26 _ _ rfl _ Zag.toArray rfl hd 26 Zag.toArray k9 (kE6 rfl) rfl (Zas Zfp) ?_
        exact hK.out undef _ ⟨⟨k9.vrow Zag,Zah hS.2.1 hp2a _,by unfold World.cell?;rw[Zch _ _ _ _ hgp];exact hS.2.2⟩,trivial,trivial⟩) (by kernel_rfl) (j:=7) rfl ?_
       refine Zaa [] _ (fun L hL hcl v u hS hd K' hK=>by
        simp only[Act.put,Zl2,Zl0,Zl1]at hK
        go_simp
        exact hK.out _ ⟨hS,trivial⟩) (by kernel_rfl) (j:=8) rfl ?_
       refine Zaa [5] _ (fun L hL hcl v u hS hd K' hK=>by
        simp only[Zal,Zak,eqv,Zl3,Zl4,Nat.reduceSub]at hd
        simp only[Act.put,Zl2,Zl0,Zl1]at hK
        try simp only[hd]at hK
        go_simp
        exact hK.out _ ⟨hS,trivial⟩) (by kernel_rfl) (j:=9) rfl ?_
       refine Zau [7,8] (by decide) ?_
       rintro v u hS hR
       simp only[Zal,Zak,eqv,Zl3,Zl4,Nat.reduceSub]at hR
       obtain ⟨hr1,hr2⟩:=hR
       obtain ⟨z1,z2,-⟩:=hS
       go_wp2_with (first|(at_builtin;fail))
       refine bodyPost_ret (eret3 rfl _ rfl z1 rfl rfl rfl) rfl ?_
       rw[HQ.out]
       exact ⟨⟨_,by first|rfl|(rw[hr1,hr2];rfl),rfl⟩,z2⟩
     · have hi2:¬ (m:Int) < (tl:Int):=by omega
       have HQ3:Hid (Q=(some e9,0,0)):=Zai (by rw[HQ2.out,if_neg hmt])
       clear HQ2 hmt
       have hgr:=Zbc W6 p2 r.toArray
       go_wp2_with (first
        | (at_builtin;fail)
        | refine wpList_load_row rfl 26 _ rfl _ rfl 26 r.toArray (0,0) _ k8 Tryz.underlying26 rfl (kE6 h6) ?_
        | refine wpList_store_row rfl 26 _ _ rfl _ r.toArray rfl rfl 26 Zag.toArray k2 (kE6 h6) (by simp[h6,Zag,Zav]) (Zas h1e) ?_)
       refine bodyPost_ret (eret3 rfl _ rfl (k2.vrow r) h6 rfl rfl) rfl ?_
       rw[HQ3.out]
       obtain ⟨hv,hwr⟩:=HEX.out e9 rfl
       have hv1:=hv.below hb6
       have hwr1:=hwr.grown hv (Zad hb6 (some p2)) (fun b hb=>by have:w1.heap.size≤b:=hb.1;omega)
       have hv2:=hv1.grown hgr (fun b hb=>by have:w1.heap.size≤b:=hb.1;omega)
       have hwr2:=hwr1.grown hv1 hgr (fun b hb=>by have:w1.heap.size≤b:=hb.1;omega)
       have hz6:=hb6.size
       exact ⟨⟨_,rfl,r,rfl,hv2.imp (fun b hb=>⟨by have:=hb.1;have:=hb2.size;omega,by have:=hb.2;rw[Zgn];omega⟩),hwr2⟩,Zah hb3' hp2a _⟩
   · have hi:(why != 0)=true:=by rw[bne_iff_ne];exact hw0
     have HQ2:Hid (Q=(none,why,at0)):=Zai (by rw[HQ.out,if_pos hw0])
     clear hw0 HQ
     go_wp2_with (first
      | (at_builtin;fail)
      | refine wpList_store_row rfl 26 _ _ rfl _ Zag.toArray rfl rfl 26 Zag.toArray k2 (kE6 rfl) rfl (Zas Zfp) ?_)
     refine bodyPost_ret (eret3 rfl _ rfl (k2.vrow Zag) rfl rfl rfl) rfl ?_
     rw[HQ2.out]
     exact ⟨⟨_,rfl,rfl⟩,Zah hb3' hp2a _⟩
end Go.Proofs.YtnhooehmcggmdaaGreatDoor
