/- Parts of a proof about the given program: XRd0, XRdW1, XRdW2, XRdW3, XRdW4, XRdW5, XRdW6. -/
import Derived.Recover
import Derived.Test.YtnhooehmcggmdaaGreatDoorZ20
import Derived.Test.YtnhooehmcggmdaaGreatDoorZ03
namespace Go.Proofs.YtnhooehmcggmdaaGreatDoor
set_option maxHeartbeats 16000000
set_option linter.unusedVariables false
set_option linter.unusedSimpArgs false
set_option linter.unusedSectionVars false
open Go.RowKit
def Zhb (ts:List Tok):Prop:=ts.length≤4096∧∀ t ∈ ts,t.t.length≤4096∧t.k < 256∧-9223372036854775808≤t.n∧t.n≤9223372036854775807
theorem Zhb.sfx {ts r:List Tok} (h:Zhb ts) (hr:r <:+ ts):Zhb r:=⟨Nat.le_trans hr.length_le h.1,fun t ht=>h.2 t (hr.subset ht)⟩
theorem Zhb.tail {t:Tok} {ts:List Tok} (h:Zhb (t :: ts)):Zhb ts:=h.sfx (List.suffix_cons t ts)
def Zbg (w:World) (p:Nat) (ts:List Tok):Prop:=∃ (A:Option Addr) (c:Nat),Blk w p [.slice A ts.length c] 86∧Zek w A ts.length 4 (ts.flatMap Zae)∧(∀ a,A=some a→a.block < p)∧ts.length≤c
structure Env (w0:World) (p:Nat) (w:World):Prop where
 bw:Below w0.heap.size w0 w
 hp:w0.heap.size≤p
 tb:Tb w0
theorem Env.step {w0 w w':World} {p:Nat} (h:Env w0 p w) (hg:w.grownBy w' (some p)):Env w0 p w':=
 ⟨h.bw.grown hg h.bw.size (fun j hj=>by have:=Option.some.inj hj;have:=h.hp;omega),h.hp,h.tb⟩
theorem Env.tbs {w0 w:World} {p:Nat} (h:Env w0 p w):Tb w:=h.tb.below h.bw
theorem Zad {w w':World} (h:Below w.heap.size w w') (row:Option Nat):w.grownBy w' row:=⟨h.os,h.tape,h.output,h.size,fun i hi _=>h.block i hi⟩
theorem Zbn (w:World) (p i:Nat) (v:Value):w.grownBy (w.setCell ⟨p,i,none⟩ v) (some p):=
 ⟨rfl,rfl,rfl,by rw[World.size_setCell];exact Nat.le_refl _,fun j _ hj=>Below.heap_setCell w ⟨p,i,none⟩ v j (fun e=>hj (by rw[e]))⟩
theorem Zab (w:World) (row:Option Nat):w.grownBy w row:=⟨rfl,rfl,rfl,Nat.le_refl _,fun _ _ _=>rfl⟩
theorem Zek.grown {w w':World} {p:Nat} {A:Option Addr} {n size:Nat} {xs:List Value} (h:Zek w A n size xs) (hg:w.grownBy w' (some p)) (hA:∀ a,A=some a→a.block ≠ p):Zek w' A n size xs:=by
 refine ⟨h.1,fun hn=>?_⟩
 obtain ⟨b,o,e,hc⟩:=h.2 hn
 refine ⟨b,o,e,fun j u hu=>hg.cell (hc j u hu) (fun e2=>?_)⟩
 exact hA _ e (Option.some.inj e2)
theorem Blk.grown {w w':World} {p g:Nat} {vs:List Value} {t:TypeId} (h:Blk w g vs t) (hg:w.grownBy w' (some p)) (hne:g ≠ p):Blk w' g vs t:=(hg.block g h.lt (fun e=>hne (Option.some.inj e))).trans h
theorem Zbg.lt {w:World} {p:Nat} {ts:List Tok} (h:Zbg w p ts):p < w.heap.size:=by
 obtain ⟨A,c,h1,_⟩:=h
 exact h1.lt
theorem Zbg.below {w w':World} {p:Nat} {ts:List Tok} (h:Zbg w p ts) (hb:Below w.heap.size w w'):Zbg w' p ts:=by
 obtain ⟨A,c,h1,h2,h3,h4⟩:=h
 exact ⟨A,c,h1.below hb,h2.below hb,h3,h4⟩
theorem Zbg.far {w:World} {p k:Nat} {ts:List Tok} (h:Zbg w p ts) (hk:p < k) (i:Nat) (v:Value):Zbg (w.setCell ⟨k,i,none⟩ v) p ts:=by
 obtain ⟨A,c,h1,h2,h3,h4⟩:=h
 exact ⟨A,c,h1.far (show p ≠ k by omega) v,h2.far (fun a ha=>by have:=h3 a ha;show a.block ≠ k;omega) v,h3,h4⟩
theorem Zbg.row {w:World} {p k:Nat} {ts:List Tok} (h:Zbg w p ts) (hk:p < k) (cs:Array Value):Zbg (w.setRow k cs) p ts:=by
 obtain ⟨A,c,h1,h2,h3,h4⟩:=h
 refine ⟨A,c,(Zch w k p cs (by omega)).trans h1,?_,h3,h4⟩
 refine ⟨h2.1,fun hn=>?_⟩
 obtain ⟨b,o,e,hc⟩:=h2.2 hn
 refine ⟨b,o,e,fun j u hu=>?_⟩
 have h5:=hc j u hu
 have h6:b < p:=h3 _ e
 unfold World.cell? at h5 ⊢
 rw[Zch w k b cs (by omega)]
 exact h5
theorem Zbg.drew {w:World} {p:Nat} {ts:List Tok} (h:Zbg w p ts):Zbg w.drew p ts:=h
def stopV:Value:=.iface 120 (.agg #[])
def Zgu:List PanicEntry:=[{ v:=stopV,recovered:=false }]
def Zhk {α:Type} (p:Nat) (w:World) (x:Zcs α) (V:α→World→Value→Prop) (e:Ending) (w':World):Prop:=
 w.grownBy w' (some p)∧match x with
  | .ok (a,r)=>Zbg w' p r∧∃ v,e=.returned v∧V a w' v
  | .error r=>Zbg w' p r∧e=.panicked Zgu
def nxB (k:Nat) (l:List (List UInt8)):List Tok→Bool
 | []=>false
 | t :: _=>decide (t.k=k) && (l.isEmpty || l.contains t.t)
def Zck (k:Nat) (l:List (List UInt8)) (ts:List Tok):Tok:=if nxB k l ts then ts.headD Zan else Zan
def Zct (k:Nat) (l:List (List UInt8)) (ts:List Tok):List Tok:=if nxB k l ts then ts.tail else ts
def TxS (w:World) (A:Option Addr) (l:List (List UInt8)):Prop:=Zib w A (l.map str)
theorem TxS.below {w w':World} {A:Option Addr} {l:List (List UInt8)} (h:TxS w A l) (hb:Below w.heap.size w w'):TxS w' A l:=Zib.below h hb
theorem TxS.nil (w:World) (A:Option Addr):TxS w A []:=Zek.nil w A 1
theorem has_str (l:List (List UInt8)) (x:List UInt8):Lib.containsS (l.map str) (str x)=l.contains x:=by
 rw[Bool.eq_iff_iff,Lib.containsS_iff,List.contains_iff_mem,List.mem_map]
 constructor
 · rintro ⟨y,hy,e⟩
   rw[←str_inj e]
   exact hy
 · intro h
   exact ⟨x,h,rfl⟩
theorem Zrr (w:World) (A:Option Addr) (c:Nat) (l:List (List UInt8)) (x:List UInt8) (hl:l.length≤4096) (h:TxS w A l) :
 Calls Tryz.prog 80 #[.slice A l.length c,.string (str x)] w fun e w'=>e=.returned (.bool (l.contains x))∧w'=w:=by
 cases l with
 | nil=>exact Tryz.slices_Contains_string_empty A c (str x) w
 | cons y l=>
   obtain ⟨b,o,rfl,hc⟩:=h.2 (by simp[Zfo])
   have:=Tryz.slices_Contains_string b o (y :: l).length c ((y :: l).map str) (str x) w (by simp) (by omega) (fun j hj=>by
    refine hc j _ ?_
    unfold Zfo
    rw[List.getElem?_map,List.getElem?_eq_getElem hj,List.getD_eq_getElem?_getD,List.getElem?_eq_getElem hj]
    rfl)
   rw[List.take_of_length_le (by simp),has_str]at this
   exact this
theorem Zbg.head {w:World} {p:Nat} {t:Tok} {ts:List Tok} (h:Zbg w p (t :: ts)):∃ b o c,w.cell? ⟨p,0,none⟩=some (.slice (some ⟨b,o,none⟩) (ts.length+1) c)∧b ≠ p∧ts.length+1≤c ∧
 w.cell? ⟨b,o,none⟩=some (.int .u8 (t.k:Int))∧w.cell? ⟨b,o+1,none⟩=some (.string (str t.t))∧w.cell? ⟨b,o+2,none⟩=some (.int .i64 t.n)∧w.cell? ⟨b,o+3,none⟩=some (.int .i64 (t.at_:Int)):=by
 obtain ⟨A,c,h1,h2,h3,h4⟩:=h
 obtain ⟨b,o,rfl,hc⟩:=h2.2 (by simp[Zae])
 exact ⟨b,o,c,h1.cell 0,Nat.ne_of_lt (h3 _ rfl),h4,hc 0 _ rfl,hc 1 _ rfl,hc 2 _ rfl,hc 3 _ rfl⟩
theorem Zaq {w w1:World} {r:Option Nat} (hg:w.grownBy w1 r) {k:Nat} (hk:w.heap.size≤k) (cs:Array Value):w.grownBy (w1.setRow k cs) r:=
 ⟨hg.os,hg.tape,hg.output,by simp only[World.setRow,Array.size_modify];exact hg.size,fun i hi hne=>(Zch w1 k i cs (by omega)).trans (hg.block i hi hne)⟩
theorem Zbg.next {w w':World} {p:Nat} {t:Tok} {ts:List Tok} (h:Zbg w p (t :: ts)) (hg:w.grownBy w' (some p)) {b o c:Nat} (e:w.cell? ⟨p,0,none⟩=some (.slice (some ⟨b,o,none⟩) (ts.length+1) c)) (A':Option Addr) (hA:A'=some ⟨b,o+4,none⟩∨(ts=[]∧∀ a,A'=some a→a.block=b)) (c':Nat) (hc':ts.length≤c')
 (hb':Blk w' p [.slice A' ts.length c'] 86):Zbg w' p ts:=by
 obtain ⟨A,c0,h1,h2,h3,h4⟩:=h
 have e2:w.cell? ⟨p,0,none⟩=some (.slice A (t :: ts).length c0):=h1.cell 0
 rw[e]at e2
 cases e2
 have hb:b < p:=h3 _ rfl
 refine ⟨A',c',hb',?_,?_,hc'⟩
 · obtain ⟨b',o',e',hc⟩:=h2.2 (by simp[Zae])
   cases e'
   rcases hA with rfl|⟨rfl,hA⟩
   · have hL:Zek w (some ⟨b,o+4,none⟩) ts.length 4 (ts.flatMap Zae):=by
      refine ⟨by have:=h2.1;simp[Zae]at this ⊢;omega,fun hn=>⟨b,o+4,rfl,fun j u hu=>?_⟩⟩
      have:=hc (j+4) u (by rw[List.flatMap_cons,List.getElem?_append_right (by simp[Zae])];simpa [Zae] using hu)
      rw[show o+4+j=o+(j+4) by omega]
      exact this
     exact hL.grown hg (fun a ha=>by cases ha;exact Nat.ne_of_lt hb)
   · exact Zek.nil _ _ _
 · rcases hA with rfl|⟨rfl,hA⟩
   · intro a ha;cases ha;exact hb
   · intro a ha
     rw[hA a ha]
     exact hb
set_option maxRecDepth 100000 in
theorem Zxl (k:Nat) (l:List (List UInt8)) (A3:Option Addr) (c3:Nat) (p:Nat) (w:World) (ts:List Tok) (hr:Zbg w p ts) (hl:l.length≤4096) (hx:TxS w A3 l) (hok:Zhb ts) :
 Calls Tryz.prog 127 #[.pointer (some ⟨p,0,none⟩),.int .u8 (k:Int),.slice A3 l.length c3] w fun e w'=>e=.returned (.bool (nxB k l ts))∧w'=w:=by
 cases ts with
 | nil=>
   obtain ⟨A,c,h1,_⟩:=hr
   have c0:w.cell? ⟨p,0,none⟩=some (.slice A 0 c):=h1.cell 0
   clear h1 hx hok
   go_enter Tryz.func127,Tryz.ntmps127
   go_wp2_with (first|(at_builtin;fail))
   go_ret
   exact ⟨rfl,rfl⟩
 | cons t ts=>
   obtain ⟨b,o,c,c0,hb,hc,e0,e1,e2,e3⟩:=hr.head
   have hcon:=Zrr w A3 c3 l t.t hl hx
   have hlen:=hok.1
   rw[List.length_cons]at hlen
   obtain ⟨N,hN⟩:=Zaf (ts.length+1)
   have hNp:(0:Int) < (N:Int):=by rw[hN.out];omega
   rw[←hN.out]at c0 hc hlen
   have hn0:Hid (nxB k l (t :: ts)=(decide (t.k=k) && (l.isEmpty || l.contains t.t))):=rfl
   obtain ⟨C,hC⟩:=Zaf (l.contains t.t)
   rw[←hC.out]at hcon
   obtain ⟨q,hq⟩:=Zaf (t.k:Int)
   have hlz:l.isEmpty=decide (l.length=0):=by cases l <;> rfl
   obtain ⟨m,hm⟩:=Zaf l.length
   rw[←hm.out]at hcon hlz
   have HLZ:=Zai hlz
   have hm2:m≤4096:=by rw[hm.out];exact hl
   clear hN hx hok e2 e3 hlz hr
   by_cases hk:t.k=k
   · have hk1:((t.k:Int) == (k:Int))=true:=by rw[hk];simp
     by_cases hm0:m=0
     · have hm1:((m:Int) == 0)=true:=by simp[hm0]
       have HQ:Hid (nxB k l (t :: ts)=true):=by
        refine Zai ?_
        rw[hn0.out,HLZ.out,hm0,hk]
        simp
       clear HLZ hm0 hk
       rw[←hm.out]
       clear hm
       go_enter Tryz.func127,Tryz.ntmps127
       go_wp2_with (first|(at_builtin;fail))
       go_ret
       exact ⟨by rw[HQ.out];rfl,rfl⟩
     · have hm1:((m:Int) == 0)=false:=by simp[hm0]
       have HQ:Hid (nxB k l (t :: ts)=C):=by
        refine Zai ?_
        rw[hn0.out,HLZ.out,hk,hC.out]
        simp[hm0]
       clear HLZ hm0 hk
       rw[←hm.out]
       clear hm
       go_enter Tryz.func127,Tryz.ntmps127
       go_wp2_with (first|(at_builtin;fail))
       refine hcon.mono ?_
       rintro e w1 ⟨rfl,rfl⟩
       go_wp2_with (first|(at_builtin;fail))
       go_ret
       exact ⟨by rw[HQ.out];rfl,rfl⟩
   · have hk1:((t.k:Int) == (k:Int))=false:=by rw[beq_eq_false_iff_ne];omega
     have HQ:Hid (nxB k l (t :: ts)=false):=by
      refine Zai ?_
      rw[hn0.out]
      simp[hk]
     clear HLZ hk hm
     go_enter Tryz.func127,Tryz.ntmps127
     go_wp2_with (first|(at_builtin;fail))
     go_ret
     exact ⟨by rw[HQ.out];rfl,rfl⟩
theorem tret2 {fn:Func} {p u:Tmp} (hr:fn.results=#[.cell p 46,.tmp u]) (tmps:Array Value) {w:World} {g:Nat} {r:List Value} {x:Value} (hp:tmps.getD p undef=.pointer (some ⟨g,0,none⟩)) (k:Blk w g r 46) (h:r.length=4) (hx:tmps.getD u undef=x) :
 (results fn tmps).run Tryz.prog w=.ok (.tuple #[.agg r.toArray,x]) w:=by
 rw[results_cell_tmp hr,hp,hx]
 have h1:(asAddr (.pointer (some ⟨g,0,none⟩))).run Tryz.prog w=.ok ⟨g,0,none⟩ w:=rfl
 rw[h1]
 simp only[Result.andThen,tload k h]
set_option maxRecDepth 100000 in
theorem Zft (k:Nat) (l:List (List UInt8)) (A3:Option Addr) (c3:Nat) (p:Nat) (w:World) (ts:List Tok) (hr:Zbg w p ts) (hl:l.length≤4096) (hx:TxS w A3 l) (hok:Zhb ts) :
 Calls Tryz.prog 97 #[.pointer (some ⟨p,0,none⟩),.int .u8 (k:Int),.slice A3 l.length c3] w fun e w'=>e=.returned (.tuple #[.agg (Zae (Zck k l ts)).toArray,.bool (nxB k l ts)])∧Zbg w' p (Zct k l ts)∧w.grownBy w' (some p):=by
 have hb0:=Zac w (.cells (Zae Zan).toArray 46)
 have k0:=Blk.new w (Zae Zan) 46
 have hr0:=hr.below hb0
 have hx0:=hx.below hb0
 have hplt:=hr.lt
 obtain ⟨W,hW⟩:=Zaf (w.alloc (.cells (Zae Zan).toArray 46))
 have hWl:Hid (W=w.alloc (.cells #[.int .u8 0,.string ⟨#[]⟩,.int .i64 0,.int .i64 0] 46)):=hW
 have hsW:W.heap.size=w.heap.size+1:=by rw[hW.out];show (w.heap.push _).size=_;exact Array.size_push _
 rw[←hW.out]at hb0 k0 hr0 hx0
 have hnx:=Zxl k l A3 c3 p W ts hr0 hl hx0 hok
 have hn0:Hid (nxB k l ts=nxB k l ts):=rfl
 have ht:Hid (Zck k l ts=if nxB k l ts then ts.headD Zan else Zan):=rfl
 have hR:Hid (Zct k l ts=if nxB k l ts then ts.tail else ts):=rfl
 have hnt:nxB k l ts=true→∃ t ts',ts=t :: ts':=fun h=>by
  cases ts with
  | nil=>cases h
  | cons t ts'=>exact ⟨t,ts',rfl⟩
 obtain ⟨B,hB⟩:=Zaf (nxB k l ts)
 rw[←hB.out]at hnx hnt ht hR ⊢
 obtain ⟨m,hm⟩:=Zaf l.length
 rw[←hm.out]at hnx ⊢
 clear hB hn0 hm hW hx0 hx
 go_enter Tryz.func97,Tryz.ntmps97
 go_wp2_with (first|(at_builtin;fail))
 rw[←hWl.out]
 refine hnx.mono ?_
 rintro e w1 ⟨rfl,hw1⟩
 replace hw1:=hw1.symm
 subst hw1
 clear hnx hWl
 cases B with
 | false=>
   go_wp2_with (first
    | (at_builtin;fail)
    | refine wpList_store_row rfl 46 _ _ rfl _ (Zae Zan).toArray rfl rfl 46 (Zae Zan).toArray k0 (kT4 rfl) rfl (Zay _) ?_)
   exact bodyPost_ret (tret2 rfl _ rfl (k0.vrow (Zae Zan)) rfl rfl) rfl ⟨by rw[ht.out];rfl,by rw[hR.out];exact hr.below (Zah hb0 (Nat.le_refl _) _),Zad (Zah hb0 (Nat.le_refl _) _) _⟩
 | true=>
   obtain ⟨t,ts',rfl⟩:=hnt rfl
   obtain ⟨b,o,c,c0,hb,hc,e0,e1,e2,e3⟩:=hr0.head
   have ht2:Hid (Zck k l (t :: ts')=t):=ht
   have hR2:Hid (Zct k l (t :: ts')=ts'):=hR
   go_upto_region 4 with (first|(at_builtin;fail))
   have k8:=Blk.new W (Zae t) 46
   have hb8:=bt hb0 (Zac W (.cells (Zae t).toArray 46))
   have k08:=k0.alloc (.cells (Zae t).toArray 46)
   obtain ⟨W8,hW8⟩:=Zaf (W.alloc (.cells (Zae t).toArray 46))
   have hW9:Hid (W8=W.alloc (.cells #[.int .u8 (t.k:Int),.string (str t.t),.int .i64 t.n,.int .i64 (t.at_:Int)] 46)):=hW8
   rw[←hW9.out]
   rw[←hW8.out]at k8 hb8 k08
   rw[hsW]at k8
   clear hW8 hW9 hb0 k0 hr0 e0 e1 e2 e3 c0 hb hc
   obtain ⟨b,o,c,c0,hb,hc,-,-,-,-⟩:=hr.head
   have d0:W8.cell? ⟨p,0,none⟩=some (.slice (some ⟨b,o,none⟩) (ts'.length+1) c):=Zcg c0 hb8
   have hpb:Blk W8 p [.slice (some ⟨b,o,none⟩) (ts'.length+1) c] 86:=by
    obtain ⟨A1,c1,h1,_⟩:=hr
    have h0:=h1.cell 0
    rw[c0]at h0
    cases h0
    exact h1.below hb8
   have hfz:=hpb.free 0
   have hcs:(1:Int)≤((ts'.length+1:Nat):Int):=by omega
   have hcs2:((ts'.length+1:Nat):Int)≤(c:Int):=by omega
   have C0:=Zai c0
   clear c0
   go_upto_region 5 with (first|(at_builtin;fail))
   obtain ⟨A',hA'⟩:=Zaf (if c=1 then (some ⟨b,o,none⟩:Option Addr) else some ⟨b,o+4,none⟩)
   rw[←hA'.out]
   have hpb9:=hpb.set 0 (.slice A' ts'.length (c - 1))
   have hg9:=(Zad hb8 (some p)).trans (Zbn W8 p 0 (.slice A' ts'.length (c - 1)))
   have k8':=k8.far (p:=⟨p,0,none⟩) (show w.heap.size+1 ≠ p by omega) (.slice A' ts'.length (c - 1))
   have k0':=k08.far (p:=⟨p,0,none⟩) (show w.heap.size ≠ p by omega) (.slice A' ts'.length (c - 1))
   obtain ⟨W9,hW9⟩:=Zaf (W8.setCell ⟨p,0,none⟩ (.slice A' ts'.length (c - 1)))
   rw[←hW9.out]at hpb9 hg9 k8' k0' ⊢
   clear hW9 hfz hcs hcs2 d0 k8 k08 hb8 hpb
   go_wp2_with (first
    | (at_builtin;fail)
    | refine wpList_load_row rfl 46 _ rfl _ rfl 46 (Zae t).toArray (0,0) _ k8' Tryz.underlying46 rfl (kT4 rfl) ?_
    | refine wpList_store_row rfl 46 _ _ rfl _ (Zae t).toArray rfl rfl 46 (Zae Zan).toArray k0' (kT4 rfl) rfl (Zay _) ?_)
   have hgf:=Zaq hg9 (Nat.le_refl w.heap.size) (Zae t).toArray
   refine bodyPost_ret (tret2 rfl _ rfl (k0'.vrow (Zae t)) rfl rfl) rfl ⟨by rw[ht2.out];rfl,?_,hgf⟩
   rw[hR2.out]
   exact hr.next hgf C0.out A' (by
    rw[hA'.out]
    by_cases h1:c=1
    · rw[if_pos h1]
      exact .inr ⟨List.eq_nil_of_length_eq_zero (by omega),fun a ha=>by cases ha;rfl⟩
    · rw[if_neg h1]
      exact .inl rfl) (c - 1) (by omega) ((Zch _ _ _ _ (by omega)).trans hpb9)
def Zmy (k:Nat) (l:List (List UInt8)) (ts:List Tok):Zcs (List UInt8):=if nxB k l ts then .ok ((Zck k l ts).t,Zct k l ts) else .error ts
theorem not_run (b:Bool) (w:World):(Op.unary .not (.bool b)).run Tryz.prog w=.ok (.bool (!b)) w:=rfl
set_option maxRecDepth 100000 in
theorem Zmv (k:Nat) (l:List (List UInt8)) (A3:Option Addr) (c3:Nat) (p:Nat) (w:World) (ts:List Tok) (hr:Zbg w p ts) (hl:l.length≤4096) (hx:TxS w A3 l) (hok:Zhb ts) :
 Calls Tryz.prog 100 #[.pointer (some ⟨p,0,none⟩),.int .u8 (k:Int),.slice A3 l.length c3] w fun e w'=>Zhk p w (Zmy k l ts) (fun s _ v=>v=.string (str s)) e w':=by
 have htk:=Zft k l A3 c3 p w ts hr hl hx hok
 have hP:Hid (Zmy k l ts=if nxB k l ts then .ok ((Zck k l ts).t,Zct k l ts) else .error ts):=rfl
 have hR:Hid (Zct k l ts=if nxB k l ts then ts.tail else ts):=rfl
 obtain ⟨B,hB⟩:=Zaf (nxB k l ts)
 rw[←hB.out]at htk hP hR
 obtain ⟨t,ht⟩:=Zaf (Zck k l ts)
 rw[←ht.out]at htk hP
 obtain ⟨r,hr'⟩:=Zaf (Zct k l ts)
 rw[←hr'.out]at htk hP hR
 obtain ⟨R,HR⟩:=Zaf (Zmy k l ts)
 rw[←HR.out]at hP ⊢
 obtain ⟨m,hm⟩:=Zaf l.length
 rw[←hm.out]at htk ⊢
 have hplt:=hr.lt
 clear hB ht hr' HR hm hx hok hr
 go_enter Tryz.func100,Tryz.ntmps100
 go_wp2_with (first|(at_builtin;fail))
 refine htk.mono ?_
 rintro e w1 ⟨rfl,hr1,hg1⟩
 clear htk
 have hs1:=hg1.size
 cases B with
 | false=>
   have hr2:r=ts:=hR.out
   go_wp2_with (first
    | (at_builtin;fail)
    | refine wpList_store_row rfl 46 _ _ rfl _ (Zae t).toArray rfl rfl 46 (Zae Zan).toArray (Blk.new w1 (Zae Zan) 46) (kT4 rfl) rfl (Zay _) ?_)
   have hq:R=.error ts:=by rw[hP.out];rfl
   have hb:=Zah (Zac w1 (.cells #[.int .u8 0,.string ⟨#[]⟩,.int .i64 0,.int .i64 0] 46)) (Nat.le_refl _) (Zae t).toArray
   refine ⟨rfl,?_⟩
   rw[hq]
   rw[hr2]at hr1
   exact ⟨hg1.trans (Zad hb _),hr1.below hb,rfl⟩
 | true=>
   go_upto_region 4 with (first
    | (at_builtin;fail)
    | refine wpList_store_row rfl 46 _ _ rfl _ (Zae t).toArray rfl rfl 46 (Zae Zan).toArray (Blk.new w1 (Zae Zan) 46) (kT4 rfl) rfl (Zay _) ?_)
   have hq:R=.ok (t.t,r):=by rw[hP.out];rfl
   have HQ:=Zai hq
   have hb:=Zah (Zac w1 (.cells #[.int .u8 0,.string ⟨#[]⟩,.int .i64 0,.int .i64 0] 46)) (Nat.le_refl _) (Zae t).toArray
   have k7:Blk ((w1.alloc (.cells #[.int .u8 0,.string ⟨#[]⟩,.int .i64 0,.int .i64 0] 46)).setRow w1.heap.size (Zae t).toArray) w1.heap.size (Zae t) 46:=(Blk.new w1 (Zae Zan) 46).vrow _
   obtain ⟨W,hW⟩:=Zaf ((w1.alloc (.cells #[.int .u8 0,.string ⟨#[]⟩,.int .i64 0,.int .i64 0] 46)).setRow w1.heap.size (Zae t).toArray)
   rw[←hW.out]at hb k7 ⊢
   have c1:W.cell? ⟨w1.heap.size,1,none⟩=some (.string (str t.t)):=k7.cell 1
   clear hW k7 hq hP hR
   go_wp2_with (first|(at_builtin;fail))
   go_ret
   rw[HQ.out]
   exact ⟨hg1.trans (Zad hb _),hr1.below hb,_,rfl,rfl⟩
theorem Zwx (w:World) (x:List UInt8):TxS (w.alloc (.cells #[.string (str x)] 9)) (some ⟨w.heap.size,0,none⟩) [x]:=by
 refine ⟨rfl,fun _=>⟨w.heap.size,0,rfl,fun j u hu=>?_⟩⟩
 rw[Nat.zero_add]
 exact ((Blk.new w [.string (str x)] 9).cell j).trans hu
theorem Zpp (s:List UInt8) (t:Tok) (ts:List Tok) (k:Nat):nxB k [s] (t :: ts)=(decide (t.k=k) && (t.t == s)):=by
 show (decide (t.k=k) && (false || [s].contains t.t))=_
 rw[Bool.false_or]
 congr 1
 rw[Bool.eq_iff_iff]
 simp
theorem need_sign (s:List UInt8) (ts:List Tok):Zmy 4 [s] ts=match Zbr s ts with|.ok (_,r)=>.ok (s,r)|.error e=>.error e:=by
 cases ts with
 | nil=>rfl
 | cons t ts=>
   unfold Zmy Zck Zct Zbr
   simp only[]
   rw[Zpp]
   have e:isS t s=(decide (t.k=4) && (t.t == s)):=rfl
   rw[e]
   cases hq:(decide (t.k=4) && (t.t == s)) with
   | false=>rfl
   | true=>
     rw[Bool.and_eq_true]at hq
     simp only[if_true,List.headD_cons,List.tail_cons]
     rw[eq_of_beq hq.2]
theorem Zve (s:List UInt8) (ts:List Tok):Zmy 1 [s] ts=match Zhy s ts with|.ok (_,r)=>.ok (s,r)|.error e=>.error e:=by
 cases ts with
 | nil=>rfl
 | cons t ts=>
   unfold Zmy Zck Zct Zhy
   simp only[]
   rw[Zpp]
   have e:isW t s=(decide (t.k=1) && (t.t == s)):=rfl
   rw[e]
   cases hq:(decide (t.k=1) && (t.t == s)) with
   | false=>rfl
   | true=>
     rw[Bool.and_eq_true]at hq
     simp only[if_true,List.headD_cons,List.tail_cons]
     rw[eq_of_beq hq.2]
set_option maxRecDepth 100000 in
theorem Zmu (s:List UInt8) (p:Nat) (w:World) (ts:List Tok) (hr:Zbg w p ts) (hok:Zhb ts) :
 Calls Tryz.prog 203 #[.pointer (some ⟨p,0,none⟩),.string (str s)] w fun e w'=>Zhk p w (Zbr s ts) (fun _ _ v=>v=.tuple #[]) e w':=by
 have hb:=Zac w (.cells #[.string (str s)] 9)
 have hnd:=Zmv 4 [s] (some ⟨w.heap.size,0,none⟩) 1 p _ ts (hr.below hb) (by simp) (Zwx w s) hok
 rw[need_sign]at hnd
 obtain ⟨R,HR⟩:=Zaf (Zbr s ts)
 rw[←HR.out]at hnd ⊢
 have hplt:=hr.lt
 clear HR hok hr
 go_enter Tryz.func203,Tryz.ntmps203
 go_wp2_with (first|(at_builtin;fail))
 refine hnd.mono ?_
 rintro e w1 ⟨hg,h⟩
 have hg2:=(Zad hb (some p)).trans hg
 cases R with
 | error e0=>
   obtain ⟨h1,rfl⟩:=h
   refine ⟨rfl,hg2,h1,rfl⟩
 | ok z=>
   obtain ⟨h1,v,rfl,rfl⟩:=h
   go_wp2_with (first|(at_builtin;fail))
   go_end0
   exact ⟨hg2,h1,_,rfl,rfl⟩
theorem has_sign (s:List UInt8) (ts:List Tok):(nxB 4 [s] ts=true∧Zbr s ts=.ok ((),Zct 4 [s] ts))∨(nxB 4 [s] ts=false∧Zbr s ts=.error ts∧Zct 4 [s] ts=ts):=by
 cases ts with
 | nil=>exact .inr ⟨rfl,rfl,rfl⟩
 | cons t ts=>
   have e:isS t s=(decide (t.k=4) && (t.t == s)):=rfl
   unfold Zct Zbr
   simp only[]
   rw[Zpp,e]
   cases hq:(decide (t.k=4) && (t.t == s)) with
   | true=>exact .inl ⟨rfl,rfl⟩
   | false=>exact .inr ⟨rfl,rfl,rfl⟩
set_option maxRecDepth 100000 in
theorem Zlw (s:List UInt8) (p:Nat) (w:World) (ts:List Tok) (hr:Zbg w p ts) (hok:Zhb ts) :
 Calls Tryz.prog 171 #[.pointer (some ⟨p,0,none⟩),.string (str s)] w fun e w'=>e=.returned (.bool (nxB 4 [s] ts))∧Zbg w' p (Zct 4 [s] ts)∧w.grownBy w' (some p):=by
 have hb:=Zac w (.cells #[.string (str s)] 9)
 have htk:=Zft 4 [s] (some ⟨w.heap.size,0,none⟩) 1 p _ ts (hr.below hb) (by simp) (Zwx w s) hok
 obtain ⟨B,hB⟩:=Zaf (nxB 4 [s] ts)
 obtain ⟨t,ht⟩:=Zaf (Zck 4 [s] ts)
 obtain ⟨r,hr'⟩:=Zaf (Zct 4 [s] ts)
 rw[←hB.out,←ht.out,←hr'.out]at htk
 rw[←hB.out,←hr'.out]
 have hplt:=hr.lt
 clear hB ht hr' hok hr
 go_enter Tryz.func171,Tryz.ntmps171
 go_wp2_with (first|(at_builtin;fail))
 refine htk.mono ?_
 rintro e w1 ⟨rfl,hr1,hg1⟩
 have hs1:=hg1.size
 have hb1:=Zah (Zac w1 (.cells #[.int .u8 0,.string ⟨#[]⟩,.int .i64 0,.int .i64 0] 46)) (Nat.le_refl _) (Zae t).toArray
 clear htk
 go_wp2_with (first
  | (at_builtin;fail)
  | refine wpList_store_row rfl 46 _ _ rfl _ (Zae t).toArray rfl rfl 46 (Zae Zan).toArray (Blk.new w1 (Zae Zan) 46) (kT4 rfl) rfl (Zay _) ?_)
 go_ret
 exact ⟨rfl,hr1.below hb1,((Zad hb (some p)).trans hg1).trans (Zad hb1 _)⟩
set_option maxRecDepth 100000 in
theorem Zmw (p:Nat) (w0 w:World) (ts:List Tok) (hr:Zbg w p ts) (hok:Zhb ts) (hE:Env w0 p w) :
 Calls Tryz.prog 170 #[.pointer (some ⟨p,0,none⟩)] w fun e w'=>Zhk p w (Zcj ts) (fun s _ v=>v=.string (str s)) e w':=by
 have hnx:=Zxl 1 [] none 0 p w ts hr (by simp) (TxS.nil w none) hok
 have hP:Hid (Zcj ts=Zcj ts):=rfl
 cases ts with
 | nil=>
   have hnx2:Calls Tryz.prog 127 #[.pointer (some ⟨p,0,none⟩),.int .u8 1,.slice none 0 0] w fun e w'=>e=.returned (.bool false)∧w'=w:=hnx
   clear hnx
   go_enter Tryz.func170,Tryz.ntmps170
   go_wp2_with (first|(at_builtin;fail))
   refine hnx2.mono ?_
   rintro e w1 ⟨rfl,hw1⟩
   replace hw1:=hw1.symm
   subst hw1
   clear hnx2
   go_wp2_with (first|(at_builtin;fail))
   exact ⟨rfl,Zab w _,hr,rfl⟩
 | cons t ts=>
   have hnx2:Calls Tryz.prog 127 #[.pointer (some ⟨p,0,none⟩),.int .u8 1,.slice none 0 0] w fun e w'=>e=.returned (.bool (decide (t.k=1)))∧w'=w:=by
    have e:nxB 1 [] (t :: ts)=decide (t.k=1):=by show (decide (t.k=1) && (true || _))=_;rw[Bool.true_or,Bool.and_true]
    rw[e]at hnx
    exact hnx
   clear hnx
   by_cases hk:t.k=1
   · rw[decide_eq_true hk]at hnx2
     obtain ⟨b,o,c,c0,hb,hc,e0,e1,e2,e3⟩:=hr.head
     have hnm:=name_w (str t.t) w (by rw[Zbo];have:=(hok.2 t (by simp)).1;omega) hE.tbs.space
     rw[Zax]at hnm
     have hR:Hid (Zcj (t :: ts)=if t.k=1∧Zcu t.t=true then .ok (t.t,ts) else .error (t :: ts)):=rfl
     have hn1:(1:Int)≤((ts.length+1:Nat):Int):=by omega
     obtain ⟨q,hq⟩:=Zaf (Zcu t.t)
     rw[←hq.out]at hnm hR
     go_enter Tryz.func170,Tryz.ntmps170
     go_wp2_with (first|(at_builtin;fail))
     refine hnx2.mono ?_
     rintro e w1 ⟨rfl,hw1⟩
     replace hw1:=hw1.symm
     subst hw1
     clear hnx2
     go_wp2_with (first|(at_builtin;fail))
     refine hnm.mono ?_
     rintro e w1 ⟨rfl,hb1⟩
     have hr1:=hr.below hb1
     have hg1:=Zad hb1 (some p)
     clear hnm c0 e0 e1 e2 e3
     cases q with
     | false=>
       have hq2:Zcj (t :: ts)=.error (t :: ts):=by rw[hR.out];exact if_neg (by rintro ⟨_,h⟩;cases h)
       go_wp2_with (first|(at_builtin;fail))
       refine ⟨rfl,?_⟩
       rw[hq2]
       exact ⟨hg1,hr1,rfl⟩
     | true=>
       have hq2:Zcj (t :: ts)=.ok (t.t,ts):=by rw[hR.out];exact if_pos ⟨hk,rfl⟩
       have hnd:=Zmv 1 [] none 0 p w1 (t :: ts) hr1 (by simp) (TxS.nil w1 none) hok
       have hnd2:Calls Tryz.prog 100 #[.pointer (some ⟨p,0,none⟩),.int .u8 1,.slice none 0 0] w1 fun e w'=>Zhk p w1 (.ok (t.t,ts):Zcs (List UInt8)) (fun s _ v=>v=.string (str s)) e w':=by
        have e:Zmy 1 [] (t :: ts)=.ok (t.t,ts):=by
         unfold Zmy Zck Zct
         rw[show nxB 1 [] (t :: ts)=true by show (decide (t.k=1) && (true || _))=_;rw[hk];rfl]
         rfl
        rw[e]at hnd
        exact hnd
       clear hnd hR hq
       have HQ2:=Zai hq2
       clear hq2
       go_wp2_with (first|(at_builtin;fail))
       refine hnd2.mono ?_
       rintro e w2 ⟨hg2,hr2,v,rfl,rfl⟩
       clear hnd2
       go_wp2_with (first|(at_builtin;fail))
       go_ret
       rw[HQ2.out]
       exact ⟨hg1.trans hg2,hr2,_,rfl,rfl⟩
   · rw[decide_eq_false hk]at hnx2
     have hq2:Zcj (t :: ts)=.error (t :: ts):=if_neg (by rintro ⟨h,_⟩;exact hk h)
     have HQ2:=Zai hq2
     clear hq2
     go_enter Tryz.func170,Tryz.ntmps170
     go_wp2_with (first|(at_builtin;fail))
     refine hnx2.mono ?_
     rintro e w1 ⟨rfl,hw1⟩
     replace hw1:=hw1.symm
     subst hw1
     clear hnx2
     go_wp2_with (first|(at_builtin;fail))
     refine ⟨rfl,?_⟩
     rw[HQ2.out]
     exact ⟨Zab w _,hr,rfl⟩
def Zxn (w:World) (p:Nat):Nat:=match w.cell? ⟨p,0,none⟩ with
 | some (.slice _ n _)=>n
 | _=>0
theorem Zdn {w:World} {p:Nat} {ts:List Tok} (h:Zbg w p ts):Zxn w p=ts.length:=by
 obtain ⟨A,c,h1,_⟩:=h
 unfold Zxn
 rw[show w.cell? ⟨p,0,none⟩=some (.slice A ts.length c) from h1.cell 0]
theorem Zxv (k:Nat) (t:Tok) (ts:List Tok):nxB k [] (t :: ts)=decide (t.k=k):=by
 show (decide (t.k=k) && (true || _))=_
 rw[Bool.true_or,Bool.and_true]
theorem Zta (ts:List Tok):(nxB 3 [] ts=true∧Zdg ts=.ok ((Zck 3 [] ts).t,Zct 3 [] ts))∨(nxB 3 [] ts=false∧Zdg ts=.error ts∧Zct 3 [] ts=ts):=by
 cases ts with
 | nil=>exact .inr ⟨rfl,rfl,rfl⟩
 | cons t ts=>
   unfold Zct Zck Zdg
   simp only[]
   rw[Zxv]
   by_cases h:t.k=3
   · rw[decide_eq_true h,if_pos h];exact .inl ⟨rfl,rfl⟩
   · rw[decide_eq_false h,if_neg h];exact .inr ⟨rfl,rfl,rfl⟩
theorem Zvf (ts:List Tok):Zmy 3 [] ts=Zdg ts:=by
 unfold Zmy
 rcases Zta ts with ⟨h1,h2⟩|⟨h1,h2,_⟩
 · rw[h1,h2];rfl
 · rw[h1,h2];rfl
theorem label_text (ts:List Tok):Zda ts=match Zdg ts with|.ok z=>.ok z|.error _=>Zcj ts:=by
 cases ts with
 | nil=>rfl
 | cons t ts=>
   simp only[Zda,Zdg]
   split <;> rfl
set_option maxRecDepth 100000 in
theorem Zsi (p:Nat) (w0 w:World) (ts:List Tok) (hr:Zbg w p ts) (hok:Zhb ts) (hE:Env w0 p w) :
 Calls Tryz.prog 151 #[.pointer (some ⟨p,0,none⟩)] w fun e w'=>Zhk p w (Zda ts) (fun s _ v=>v=.string (str s)) e w':=by
 have htk0:=Zft 3 [] none 0 p w ts hr (by simp) (TxS.nil w none) hok
 have hP:Hid (Zda ts=match Zdg ts with|.ok z=>.ok z|.error _=>Zcj ts):=label_text ts
 have hT:Hid ((nxB 3 [] ts=true∧Zdg ts=.ok ((Zck 3 [] ts).t,Zct 3 [] ts))∨(nxB 3 [] ts=false∧Zdg ts=.error ts∧Zct 3 [] ts=ts)):=Zta ts
 obtain ⟨B,hB⟩:=Zaf (nxB 3 [] ts)
 obtain ⟨t,ht⟩:=Zaf (Zck 3 [] ts)
 obtain ⟨r,hr'⟩:=Zaf (Zct 3 [] ts)
 rw[←hB.out,←ht.out,←hr'.out]at hT
 have htk:Calls Tryz.prog 97 #[.pointer (some ⟨p,0,none⟩),.int .u8 3,.slice none 0 0] w fun e w'=>e=.returned (.tuple #[.agg (Zae t).toArray,.bool B])∧Zbg w' p r∧w.grownBy w' (some p):=by
  rw[ht.out,hB.out,hr'.out]
  exact htk0
 obtain ⟨R,HR⟩:=Zaf (Zda ts)
 rw[←HR.out]at hP ⊢
 have hplt:=hr.lt
 clear hB ht hr' HR htk0
 go_enter Tryz.func151,Tryz.ntmps151
 go_wp2_with (first|(at_builtin;fail))
 refine htk.mono ?_
 rintro e w1 ⟨rfl,hr1,hg1⟩
 have hs1:=hg1.size
 have hb1:=Zah (Zac w1 (.cells #[.int .u8 0,.string ⟨#[]⟩,.int .i64 0,.int .i64 0] 46)) (Nat.le_refl _) (Zae t).toArray
 have k7:Blk ((w1.alloc (.cells #[.int .u8 0,.string ⟨#[]⟩,.int .i64 0,.int .i64 0] 46)).setRow w1.heap.size (Zae t).toArray) w1.heap.size (Zae t) 46:=(Blk.new w1 (Zae Zan) 46).vrow _
 have hr2:=hr1.below hb1
 have hg2:=hg1.trans (Zad hb1 (some p))
 clear htk
 go_upto_region 2 with (first
  | (at_builtin;fail)
  | refine wpList_store_row rfl 46 _ _ rfl _ (Zae t).toArray rfl rfl 46 (Zae Zan).toArray (Blk.new w1 (Zae Zan) 46) (kT4 rfl) rfl (Zay _) ?_)
 obtain ⟨W,hW⟩:=Zaf ((w1.alloc (.cells #[.int .u8 0,.string ⟨#[]⟩,.int .i64 0,.int .i64 0] 46)).setRow w1.heap.size (Zae t).toArray)
 rw[←hW.out]at hr2 hg2 k7 ⊢
 have c1:W.cell? ⟨w1.heap.size,1,none⟩=some (.string (str t.t)):=k7.cell 1
 clear hW k7 hb1 hr1
 cases B with
 | true=>
   have hq:R=.ok (t.t,r):=by
    rcases hT.out with ⟨_,h⟩|⟨h,_⟩
    · rw[hP.out,h]
    · cases h
   have HQ:=Zai hq
   clear hq hP hT
   go_wp2_with (first|(at_builtin;fail))
   go_ret
   rw[HQ.out]
   exact ⟨hg2,hr2,_,rfl,rfl⟩
 | false=>
   have hq:R=Zcj ts∧r=ts:=by
    rcases hT.out with ⟨h,_⟩|⟨_,h,h2⟩
    · cases h
    · exact ⟨by rw[hP.out,h],h2⟩
   rw[hq.2]at hr2
   have hnm:=Zmw p w0 W ts hr2 hok (hE.step hg2)
   rw[←hq.1]at hnm
   clear hq hP hT
   go_wp2_with (first|(at_builtin;fail))
   refine hnm.mono ?_
   rintro e w2 ⟨hg3,h⟩
   have hg4:=hg2.trans hg3
   clear hnm
   cases R with
   | error e0=>
     obtain ⟨h1,rfl⟩:=h
     exact ⟨rfl,hg4,h1,rfl⟩
   | ok z=>
     obtain ⟨h1,v,rfl,rfl⟩:=h
     go_wp2_with (first|(at_builtin;fail))
     go_ret
     exact ⟨hg4,h1,_,rfl,rfl⟩
theorem Zox (a b:List UInt8) (h:a.length+b.length≤1000000000) (w:World):(Op.stringOp .add (str a) (str b)).run Tryz.prog w=.ok (.string (str (a ++ b))) w:=by
 have:=run_string_add_sum (P:=Tryz.prog) w (str a) (str b) (by rw[Zbo,Zbo];omega)
 rw[str_append]at this
 exact this
theorem typeT_no {f:Nat} {acc:List UInt8} {ts e:List Tok} (h:Zbr [58,58] ts=.error e):Zfh f acc ts=.ok (acc,ts):=by
 cases f with
 | zero=>rfl
 | succ f=>unfold Zfh;rw[h]
theorem typeT_yes {acc:List UInt8} {ts r:List Tok} (h:Zbr [58,58] ts=.ok ((),r)):Zfh (ts.length+1) acc ts=match Zcj r with|.error x=>.error x|.ok (s,r')=>Zfh (r'.length+1) (acc ++ [58,58] ++ s) r':=by
 obtain ⟨t,rfl⟩:=Zcv h
 show Zfh ((t :: r).length+1) acc (t :: r)=_
 rw[Zfh,h]
 simp only[]
 cases hn:Zcj r with
 | error e=>rfl
 | ok z=>
   obtain ⟨s,r'⟩:=z
   obtain ⟨t',rfl,_⟩:=Zce hn
   exact Zqw _ _ _ _ (by simp only[List.length_cons];omega) (by simp)
set_option maxRecDepth 100000 in
theorem rtype_w (p:Nat) (w0 w:World) (ts:List Tok) (hr:Zbg w p ts) (hok:Zhb ts) (hE:Env w0 p w) :
 Calls Tryz.prog 152 #[.pointer (some ⟨p,0,none⟩)] w fun e w'=>Zhk p w (Zju ts) (fun s _ v=>v=.string (str s)) e w':=by
 have hnm:=Zmw p w0 w ts hr hok hE
 obtain ⟨R,HR⟩:=Zaf (Zju ts)
 rw[←HR.out]
 have hP:Hid (R=match Zcj ts with|.error x=>.error x|.ok (s,r)=>Zfh (r.length+1) s r):=HR
 clear HR
 go_enter Tryz.func152,Tryz.ntmps152
 go_wp2_with (first|(at_builtin;fail))
 refine hnm.mono ?_
 rintro e w1 ⟨hg1,h⟩
 clear hnm
 cases hn:Zcj ts with
 | error e0=>
   rw[hn]at h
   have hq:R=.error e0:=by rw[hP.out,hn]
   obtain ⟨h1,rfl⟩:=h
   refine ⟨rfl,?_⟩
   rw[hq]
   exact ⟨hg1,h1,rfl⟩
 | ok z=>
   obtain ⟨s0,r0⟩:=z
   rw[hn]at h
   obtain ⟨h1,v,rfl,rfl⟩:=h
   have HQ:Hid (R=Zfh (r0.length+1) s0 r0):=by refine Zai ?_;rw[hP.out,hn]
   obtain ⟨t0,e0,e1⟩:=Zce hn
   have hs0:s0.length+r0.length * 4100≤4100 * 4100:=by
    have a1:=(hok.2 t0 (by rw[e0];simp)).1
    have a2:=hok.1
    rw[e0,List.length_cons]at a2
    rw[←e1]
    omega
   have hok0:Zhb r0:=hok.sfx (by rw[e0];exact List.suffix_cons _ _)
   clear hP hn e0 e1
   go_wp2_with (first|(at_builtin;fail))
   go_loopw [3] (fun v3 wr=>∃ (acc:List UInt8) (r:List Tok),v3=.string (str acc)∧acc.length+r.length * 4100≤4100 * 4100∧r.length≤r0.length∧Hid (Zhb r)∧Hid (R=Zfh (r.length+1) acc r)∧Hid (Zbg wr p r)∧w.grownBy wr (some p)) (fun _ wr=>Zxn wr p)
   case atStart=>exact ⟨s0,r0,rfl,hs0,Nat.le_refl _,hok0,HQ,h1,hg1⟩
   case round=>
    obtain ⟨acc,r,rfl,hlen,hrl,HO,HR,HD,hg⟩:=hrel
    clear HQ h1 hg1
    have hEr:=hE.step hg
    have hhas:=Zlw [58,58] p wr r HD.out HO.out
    have hcase:=Zai (has_sign [58,58] r)
    obtain ⟨B,hB⟩:=Zaf (nxB 4 [[58,58]] r)
    obtain ⟨r1,hr1⟩:=Zaf (Zct 4 [[58,58]] r)
    rw[←hB.out,←hr1.out]at hhas hcase
    have hhas2:Calls Tryz.prog 171 #[.pointer (some ⟨p,0,none⟩),.string ⟨#[58,58]⟩] wr fun e w'=>e=.returned (.bool B)∧Zbg w' p r1∧wr.grownBy w' (some p):=hhas
    clear hhas hB hr1
    go_wp2_with (first|(at_builtin;fail))
    refine hhas2.mono ?_
    rintro e w2 ⟨rfl,hd2,hg2⟩
    clear hhas2
    cases B with
    | false=>
      have hq:R=.ok (acc,r)∧r1=r:=by
       rcases hcase.out with ⟨h,_⟩|⟨_,h,h2⟩
       · cases h
       · exact ⟨by rw[HR.out];exact typeT_no h,h2⟩
      have HQ:=Zai hq
      clear hq hcase
      go_wp2_with (first|(at_builtin;fail))
      go_ret
      rw[HQ.out.1]
      rw[HQ.out.2]at hd2
      exact ⟨hg.trans hg2,hd2,_,rfl,rfl⟩
    | true=>
      have hq:Zbr [58,58] r=.ok ((),r1):=by
       rcases hcase.out with ⟨_,h⟩|⟨h,_⟩
       · exact h
       · cases h
      have HT:=Zai (typeT_yes (acc:=acc) hq)
      obtain ⟨tq,eq⟩:=Zcv hq
      have hok1:Zhb r1:=HO.out.sfx (by rw[eq];exact List.suffix_cons _ _)
      have hl1:r.length=r1.length+1:=by rw[eq];rfl
      have hgg:=hg.trans hg2
      have hnm:=Zmw p w0 w2 r1 hd2 hok1 (hE.step hgg)
      have HL1:=Zai hl1
      clear hq eq hl1 hcase
      go_wp2_with (first|(at_builtin;fail))
      refine hnm.mono ?_
      rintro e w3 ⟨hg3,h⟩
      clear hnm
      cases hn:Zcj r1 with
      | error e0=>
        rw[hn]at h
        have hq:R=.error e0:=by rw[HR.out,HT.out,hn]
        obtain ⟨h1,rfl⟩:=h
        refine ⟨rfl,?_⟩
        rw[hq]
        exact ⟨hgg.trans hg3,h1,rfl⟩
      | ok z=>
        obtain ⟨s1,r2⟩:=z
        rw[hn]at h
        obtain ⟨h1,v,rfl,rfl⟩:=h
        have HQ:Hid (R=Zfh (r2.length+1) (acc ++ ([58,58] ++ s1)) r2):=by refine Zai ?_;rw[HR.out,HT.out,hn];simp only[];rw[List.append_assoc]
        obtain ⟨t0,e0,e1⟩:=Zce hn
        have hs1:s1.length≤4096:=by rw[←e1];exact (hok1.2 t0 (by rw[e0];simp)).1
        have hl2:Hid (r1.length=r2.length+1):=by rw[e0];rfl
        have hok2:Zhb r2:=hok1.sfx (by rw[e0];exact List.suffix_cons _ _)
        have hmm:=HL1.out
        have hmm2:=hl2.out
        obtain ⟨q,hq⟩:=Zaf ([58,58] ++ s1)
        obtain ⟨z,hz⟩:=Zaf (acc ++ q)
        have hql:q.length=s1.length+2:=by rw[hq.out];simp
        have hzl:Hid (z.length=acc.length+q.length):=by refine Zai ?_;rw[hz.out];simp
        have HQL:=Zai hql
        have ha1:∀ W,(Op.stringOp .add ⟨#[58,58]⟩ (str s1)).run Tryz.prog W=.ok (.string (str q)) W:=fun W=>by rw[hq.out];exact Zox [58,58] s1 (by simp only[List.length_cons,List.length_nil];omega) W
        have ha2:∀ W,(Op.stringOp .add (str acc) (str q)).run Tryz.prog W=.ok (.string (str z)) W:=fun W=>by rw[hz.out];exact Zox acc q (by omega) W
        have HQ2:Hid (R=Zfh (r2.length+1) z r2):=by refine Zai ?_;rw[HQ.out,hz.out,hq.out]
        clear HQ hq hz hql
        clear hn e0 e1 hmm hmm2
        go_wp2_with (first|(at_builtin;fail))
        go_roundw
        case rel=>exact ⟨z,r2,rfl,by have:=HL1.out;have:=hl2.out;have:=hzl.out;have:=HQL.out;omega,by have:=HL1.out;have:=hl2.out;omega,hok2,HQ2,h1,hgg.trans hg3⟩
        case measure=>
         rw[Zdn h1,Zdn HD.out]
         have:=HL1.out
         have:=hl2.out
         omega
theorem uret {fn:Func} {p:Tmp} (hr:fn.results=#[.cell p 116]) (tmps:Array Value) {w:World} {g:Nat} {a b:Value} (hp:tmps.getD p undef=.pointer (some ⟨g,0,none⟩)) (k:Blk w g [a,b] 116) :
 (results fn tmps).run Tryz.prog w=.ok (.agg #[a,b]) w:=
 results_cell_row hr tmps w g 116 [a,b].toArray (0,0) _ hp k Tryz.underlying116 rfl (by kernel_rfl)
theorem uidT_no {f:Nat} {acc:List UInt8} {ts e:List Tok} (h:Zbr [58,58] ts=.error e):Zlb (f+1) acc ts=.error e:=by
 unfold Zlb;rw[h]
theorem uidT_text {f:Nat} {acc s:List UInt8} {ts r r':List Tok} (h:Zbr [58,58] ts=.ok ((),r)) (h2:Zdg r=.ok (s,r')):Zlb (f+1) acc ts=.ok ((acc,s),r'):=by
 unfold Zlb;rw[h];simp only[];rw[h2]
theorem uidT_name {acc:List UInt8} {ts r e:List Tok} (h:Zbr [58,58] ts=.ok ((),r)) (h2:Zdg r=.error e):Zlb (ts.length+1) acc ts=match Zcj r with|.error x=>.error x|.ok (s,r')=>Zlb (r'.length+1) (acc ++ [58,58] ++ s) r':=by
 obtain ⟨t,rfl⟩:=Zcv h
 rw[Zlb,h]
 simp only[]
 rw[h2]
 simp only[]
 cases hn:Zcj r with
 | error e=>rfl
 | ok z=>
   obtain ⟨s,r'⟩:=z
   obtain ⟨t',rfl,_⟩:=Zce hn
   exact Zuc _ _ _ _ (by simp only[List.length_cons];omega) (by simp)
theorem Zed {w u:World} {r:Option Nat} (hg:w.grownBy u r) {k:Nat} (hk:w.heap.size≤k) (i:Nat) (v:Value):w.grownBy (u.setCell ⟨k,i,none⟩ v) r:=
 ⟨hg.os,hg.tape,hg.output,by rw[World.size_setCell];exact hg.size,fun j hj hne=>(Below.heap_setCell u ⟨k,i,none⟩ v j (by show j ≠ k;omega)).trans (hg.block j hj hne)⟩
set_option maxRecDepth 100000 in
theorem ruid_w (p:Nat) (w0 w:World) (ts:List Tok) (hr:Zbg w p ts) (hok:Zhb ts) (hE:Env w0 p w) :
 Calls Tryz.prog 206 #[.pointer (some ⟨p,0,none⟩)] w fun e w'=>Zhk p w (Zqt ts) (fun s _ v=>v=.agg #[.string (str s.1),.string (str s.2)]) e w':=by
 have hplt:=hr.lt
 have hb0:=Zac w (.cells #[.string ⟨#[]⟩,.string ⟨#[]⟩] 116)
 have k0:=Blk.new w [.string ⟨#[]⟩,.string ⟨#[]⟩] 116
 have hnm:=Zmw p w0 _ ts (hr.below hb0) hok (hE.step (Zad hb0 _))
 obtain ⟨W,hW⟩:=Zaf (w.alloc (.cells #[.string ⟨#[]⟩,.string ⟨#[]⟩] 116))
 have hWl:Hid (W=w.alloc (.cells #[.string ⟨#[]⟩,.string ⟨#[]⟩] 116)):=hW
 replace k0:Blk W w.heap.size [.string ⟨#[]⟩,.string ⟨#[]⟩] 116:=by rw[hW.out];exact k0
 rw[←hW.out]at hnm hb0
 obtain ⟨R,HR⟩:=Zaf (Zqt ts)
 rw[←HR.out]
 have hP:Hid (R=match Zcj ts with|.error x=>.error x|.ok (s,r)=>Zlb (r.length+1) s r):=HR
 clear HR hW
 go_enter Tryz.func206,Tryz.ntmps206
 go_wp2_with (first|(at_builtin;fail))
 rw[←hWl.out]
 clear hWl
 refine hnm.mono ?_
 rintro e w1 ⟨hg1,h⟩
 have hgw1:=(Zad hb0 (some p)).trans hg1
 have k1:=k0.grown hg1 (show w.heap.size ≠ p by omega)
 clear hnm k0 hb0
 cases hn:Zcj ts with
 | error e0=>
   rw[hn]at h
   have hq:R=.error e0:=by rw[hP.out,hn]
   obtain ⟨h1,rfl⟩:=h
   refine ⟨rfl,?_⟩
   rw[hq]
   exact ⟨hgw1,h1,rfl⟩
 | ok z=>
   obtain ⟨s0,r0⟩:=z
   rw[hn]at h
   obtain ⟨h1,v,rfl,rfl⟩:=h
   have HQ:Hid (R=Zlb (r0.length+1) s0 r0):=by refine Zai ?_;rw[hP.out,hn]
   obtain ⟨t0,e0,e1⟩:=Zce hn
   have hs0:s0.length+r0.length * 4100≤4100 * 4100:=by
    have a1:=(hok.2 t0 (by rw[e0];simp)).1
    have a2:=hok.1
    rw[e0,List.length_cons]at a2
    rw[←e1]
    omega
   have hok0:Zhb r0:=hok.sfx (by rw[e0];exact List.suffix_cons _ _)
   have hsz1:w.heap.size < w1.heap.size:=k1.lt
   have hb2:=Zac w1 (.cells #[.string (str s0),.string ⟨#[]⟩] 116)
   have k3:=Blk.new w1 [.string (str s0),.string ⟨#[]⟩] 116
   have k2:=k1.alloc (.cells #[.string (str s0),.string ⟨#[]⟩] 116)
   have hd2:=h1.below hb2
   have hg2:=hgw1.trans (Zad hb2 (some p))
   obtain ⟨p3,hp3n⟩:=Zaf w1.heap.size
   have hp3:w.heap.size < p3:=by rw[hp3n.out];exact hsz1
   obtain ⟨w2,hw2⟩:=Zaf (w1.alloc (.cells #[.string (str s0),.string ⟨#[]⟩] 116))
   have hsz2:p3 < w2.heap.size:=by rw[hw2.out,hp3n.out];show _ < (w1.heap.push _).size;rw[Array.size_push];omega
   replace k3:Blk w2 p3 [.string (str s0),.string ⟨#[]⟩] 116:=by rw[hw2.out,hp3n.out];exact k3
   rw[←hw2.out]at k2 hd2 hg2
   clear hP hn e0 e1 k1 hb2 h1 hgw1
   go_wp2_with (first|(at_builtin;fail))
   rw[←hw2.out,←hp3n.out]
   have HW2:Hid (w2.heap.size≤w2.heap.size):=Zai (Nat.le_refl _)
   clear hw2 hp3n hsz1
   go_loopw [] (fun wr=>∃ (acc:List UInt8) (r:List Tok),acc.length+r.length * 4100≤4100 * 4100∧Hid (Zhb r)∧Hid (R=Zlb (r.length+1) acc r)∧w.grownBy wr (some p)∧Hid (Zbg wr p r)∧Hid (Blk wr w.heap.size [.string ⟨#[]⟩,.string ⟨#[]⟩] 116)∧Hid (Blk wr p3 [.string (str acc),.string ⟨#[]⟩] 116)) (fun wr=>Zxn wr p)
   case atStart=>exact ⟨s0,r0,hs0,hok0,HQ,hg2,hd2,k2,k3⟩
   case round=>
    obtain ⟨acc,r,hlen,HO,HR,hg,HD,HK2,HK3⟩:=hrel
    clear HQ hg2 hd2 k2 k3
    have hEr:=hE.step hg
    have hsn:=Zmu [58,58] p wr r HD.out HO.out
    have hsn2:Calls Tryz.prog 203 #[.pointer (some ⟨p,0,none⟩),.string ⟨#[58,58]⟩] wr fun e w'=>Zhk p wr (Zbr [58,58] r) (fun _ _ v=>v=.tuple #[]) e w':=hsn
    clear hsn
    go_wp2_with (first|(at_builtin;fail))
    refine hsn2.mono ?_
    rintro e w3 ⟨hg3,h⟩
    clear hsn2
    have hgg:=hg.trans hg3
    have k2:=HK2.out.grown hg3 (show w.heap.size ≠ p by omega)
    have k3:=HK3.out.grown hg3 (show p3 ≠ p by omega)
    cases hs:Zbr [58,58] r with
    | error e0=>
      rw[hs]at h
      have hq:R=.error e0:=by rw[HR.out,uidT_no hs]
      obtain ⟨h1,rfl⟩:=h
      refine ⟨rfl,?_⟩
      rw[hq]
      exact ⟨hgg,h1,rfl⟩
    | ok z=>
      obtain ⟨⟨⟩,r1⟩:=z
      rw[hs]at h
      obtain ⟨h1,v,rfl,rfl⟩:=h
      obtain ⟨tq,eq⟩:=Zcv hs
      have hok1:Zhb r1:=HO.out.sfx (by rw[eq];exact List.suffix_cons _ _)
      have HL1:Hid (r.length=r1.length+1):=by rw[eq];rfl
      have htk0:=Zft 3 [] none 0 p w3 r1 h1 (by simp) (TxS.nil w3 none) hok1
      have hT:=Zai (Zta r1)
      have HS:=Zai hs
      obtain ⟨B,hB⟩:=Zaf (nxB 3 [] r1)
      obtain ⟨t,ht⟩:=Zaf (Zck 3 [] r1)
      obtain ⟨rr,hrr⟩:=Zaf (Zct 3 [] r1)
      rw[←hB.out,←ht.out,←hrr.out]at hT
      have htk:Calls Tryz.prog 97 #[.pointer (some ⟨p,0,none⟩),.int .u8 3,.slice none 0 0] w3 fun e w'=>e=.returned (.tuple #[.agg (Zae t).toArray,.bool B])∧Zbg w' p rr∧w3.grownBy w' (some p):=by
       rw[ht.out,hB.out,hrr.out]
       exact htk0
      clear hB ht hrr htk0 hs eq h1
      go_wp2_with (first|(at_builtin;fail))
      refine htk.mono ?_
      rintro e w4 ⟨rfl,hd4,hg4⟩
      have hs4:=hg4.size
      have hb4:=Zah (Zac w4 (.cells #[.int .u8 0,.string ⟨#[]⟩,.int .i64 0,.int .i64 0] 46)) (Nat.le_refl _) (Zae t).toArray
      have k7:Blk ((w4.alloc (.cells #[.int .u8 0,.string ⟨#[]⟩,.int .i64 0,.int .i64 0] 46)).setRow w4.heap.size (Zae t).toArray) w4.heap.size (Zae t) 46:=(Blk.new w4 (Zae Zan) 46).vrow _
      have hd5:=hd4.below hb4
      have hg5:=(hgg.trans hg4).trans (Zad hb4 (some p))
      have k25:=(k2.grown hg4 (show w.heap.size ≠ p by omega)).below hb4
      have k35:=(k3.grown hg4 (show p3 ≠ p by omega)).below hb4
      clear htk
      go_upto_region 4 with (first
       | (at_builtin;fail)
       | refine wpList_store_row rfl 46 _ _ rfl _ (Zae t).toArray rfl rfl 46 (Zae Zan).toArray (Blk.new w4 (Zae Zan) 46) (kT4 rfl) rfl (Zay _) ?_)
      obtain ⟨w5,hw5⟩:=Zaf ((w4.alloc (.cells #[.int .u8 0,.string ⟨#[]⟩,.int .i64 0,.int .i64 0] 46)).setRow w4.heap.size (Zae t).toArray)
      have hp4:p3 < w4.heap.size:=(k3.grown hg4 (show p3 ≠ p by omega)).lt
      have hsz5:p3 < w5.heap.size:=by rw[hw5.out];exact k35.lt
      rw[←hw5.out]at hd5 hg5 k7 k25 k35 ⊢
      clear hw5 hb4 hd4 k2 k3 hgg hg4 hg3
      cases B with
      | true=>
        have hq:R=.ok ((acc,t.t),rr):=by
         rcases hT.out with ⟨_,h⟩|⟨h,_⟩
         · rw[HR.out];exact uidT_text HS.out h
         · cases h
        have HQ:=Zai hq
        have c1:w5.cell? ⟨w4.heap.size,1,none⟩=some (.string (str t.t)):=k7.cell 1
        have f3:=k35.free 1
        have f3c:w5.cell? ⟨p3,1,none⟩=some (.string ⟨#[]⟩):=k35.cell 1
        clear hq hT
        go_upto_region 6 with (first|(at_builtin;fail))
        have k36:=k35.set 1 (.string (str t.t))
        have k26:=k25.far (p:=⟨p3,1,none⟩) (show w.heap.size ≠ p3 by omega) (.string (str t.t))
        have hd6:=hd5.far (show p < p3 by omega) 1 (.string (str t.t))
        have hg6:=Zed hg5 (show w.heap.size≤p3 by omega) 1 (.string (str t.t))
        obtain ⟨w6,hw6⟩:=Zaf (w5.setCell ⟨p3,1,none⟩ (.string (str t.t)))
        rw[←hw6.out]at k36 k26 hd6 hg6 ⊢
        clear hw6 k35 k25 hd5 hg5 f3 f3c c1 k7
        have d0:w6.cell? ⟨p3,0,none⟩=some (.string (str acc)):=k36.cell 0
        have d1:w6.cell? ⟨p3,1,none⟩=some (.string (str t.t)):=k36.cell 1
        have e0:w6.cell? ⟨w.heap.size,0,none⟩=some (.string ⟨#[]⟩):=k26.cell 0
        have e1:w6.cell? ⟨w.heap.size,1,none⟩=some (.string ⟨#[]⟩):=k26.cell 1
        have f0:=k26.free 0
        have f1:=k26.free 1
        go_wp2_with (first|(at_builtin;fail))
        have k27:=(k26.set 0 (.string (str acc))).set 1 (.string (str t.t))
        refine bodyPost_ret (uret rfl _ rfl k27) rfl ?_
        rw[HQ.out]
        exact ⟨Zed (Zed hg6 (Nat.le_refl _) _ _) (Nat.le_refl _) _ _,(hd6.far (show p < w.heap.size by omega) _ _).far (show p < w.heap.size by omega) _ _,_,rfl,rfl⟩
      | false=>
        have hq:Zdg r1=.error r1∧rr=r1:=by
         rcases hT.out with ⟨h,_⟩|⟨_,h,h2⟩
         · cases h
         · exact ⟨h,h2⟩
        rw[hq.2]at hd5
        have HN:=Zai (uidT_name (acc:=acc) HS.out hq.1)
        have hEw:=hE
        clear hq hT
        have hname0:=fun (u:World) (h1:Zbg u p r1) (h2:Env w0 p u)=>Zmw p w0 u r1 h1 hok1 h2
        have hgg:=hg5
        have hd2:=hd5
        have k3:=k35
        go_wp2_with (first|(at_builtin;fail))
        cases hn:Zcj r1 with
        | error e0=>
          have hq:R=.error e0:=by rw[HR.out,HN.out,hn]
          have hname:∀ (u:World) (h1:Zbg u p r1) (h2:Env w0 p u),Calls Tryz.prog 170 #[.pointer (some ⟨p,0,none⟩)] u fun e w'=>u.grownBy w' (some p)∧Zbg w' p e0∧e=.panicked Zgu:=fun u h1 h2=>by
           have:=hname0 u h1 h2
           rw[hn]at this
           exact this
          refine Zcz (fun e u=>e=.panic Zgu∧R=.error e0∧w.grownBy u (some p)∧Zbg u p e0) (by
           rintro e b u hb ⟨rfl,h1,h2,h3⟩
           refine ⟨hb,?_⟩
           rw[h1]
           exact ⟨h2,h3,rfl⟩) (fun L _ u=>w.grownBy u (some p)∧Zbg u p r1∧∃ v0:List UInt8,Blk u p3 [.string (str v0),.string ⟨#[]⟩] 116) (fun _ _ _=>True) _ (by kernel_rfl) (by kernel_rfl) (fun v=>by simp only[Zbx,Act.put,List.toList_toArray,Zl2,Zl0,Zl1,Nat.reduceAdd,Nat.zero_add];rfl) ⟨hgg.trans (Zad (Zaj (Below.refl _ _)) _),hd2,acc,k3⟩ (fun _ _ _ _ _ h=>h) ?_
          refine Zat [] _ (fun L hL hcl v u hS hd K' hK=>by
           simp only[Act.put,Zl2,Zl0,Zl1]at hK
           go_simp
           exact hK.out _ ⟨hS,trivial⟩) (by kernel_rfl) (j:=1) rfl ?_
          refine Zar [0] (fun _ _=>True) ((fun _ _ _ _ _ _ h=>h)) (fun L hL hcl v u hS hd K' hK=>by
           simp only[Zal,Zak,eqv,Zl3,Zl4,Nat.reduceSub]at hd
           simp only[Act.put,Zl2,Zl0,Zl1]at hK
           try simp only[hd]at hK
           obtain ⟨q1,q2,v0,q3⟩:=hS
           have c0:u.cell? ⟨p3,0,none⟩=some (.string (str v0)):=q3.cell 0
           go_simp
           exact hK.out _ _ ⟨⟨q1,q2,v0,q3⟩,trivial,trivial⟩) (by kernel_rfl) (j:=2) rfl ?_
          refine Zat [] _ (fun L hL hcl v u hS hd K' hK=>by
           simp only[Act.put,Zl2,Zl0,Zl1]at hK
           go_simp
           exact hK.out _ ⟨hS,trivial⟩) (by kernel_rfl) (j:=3) rfl ?_
          refine Zar [2] (fun _ _=>False) ((fun _ _ _ _ _ _ h=>h)) (fun L hL hcl v u hS hd K' hK=>by
           simp only[Zal,Zak,eqv,Zl3,Zl4,Nat.reduceSub]at hd
           simp only[Act.put,Zl2,Zl0,Zl1]at hK
           try simp only[hd]at hK
           go_simp
           refine (hname u hS.2.1 (hE.step hS.1)).mono ?_
           rintro e1 u1 ⟨hg1,hd1,rfl⟩
           first|exact ⟨rfl,hq,hS.1.trans hg1,hd1⟩|exact ⟨rfl,hS.1.trans hg1,hd1⟩|exact ⟨hS.1.trans hg1,hd1⟩) (by kernel_rfl) (j:=4) rfl ?_
          refine Zar [3] (fun _ _=>False) ((fun _ _ _ _ _ _ h=>h)) (fun L hL hcl v u hS hd K' hK=>by
           simp only[Zal,Zak,eqv,Zl3,Zl4,Nat.reduceSub]at hd
           try exact hd.elim) (by kernel_rfl) (j:=5) rfl ?_
          refine Zar [1,4] (fun _ _=>False) ((fun _ _ _ _ _ _ h=>h)) (fun L hL hcl v u hS hd K' hK=>by
           simp only[Zal,Zak,eqv,Zl3,Zl4,Nat.reduceSub]at hd
           try exact hd.2.elim) (by kernel_rfl) (j:=6) rfl ?_
          refine Zat [] _ (fun L hL hcl v u hS hd K' hK=>by
           simp only[Act.put,Zl2,Zl0,Zl1]at hK
           go_simp
           exact hK.out _ ⟨hS,trivial⟩) (by kernel_rfl) (j:=7) rfl ?_
          refine Zar [5,6] (fun _ _=>False) ((fun _ _ _ _ _ _ h=>h)) (fun L hL hcl v u hS hd K' hK=>by
           simp only[Zal,Zak,eqv,Zl3,Zl4,Nat.reduceSub]at hd
           try exact hd.1.elim) (by kernel_rfl) (j:=8) rfl ?_
          refine Zee [3] (by decide) ?_
          rintro v u hS hR
          simp only[Zal,Zak,eqv,Zl3,Zl4,Nat.reduceSub]at hR
          try exact hR.elim
        | ok z=>
          obtain ⟨s1,r2⟩:=z
          have hname:∀ (u:World) (h1:Zbg u p r1) (h2:Env w0 p u),Calls Tryz.prog 170 #[.pointer (some ⟨p,0,none⟩)] u fun e w'=>u.grownBy w' (some p)∧Zbg w' p r2∧∃ v,e=.returned v∧v=.string (str s1):=fun u h1 h2=>by
           have:=hname0 u h1 h2
           rw[hn]at this
           exact this
          have HQ:Hid (R=Zlb (r2.length+1) (acc ++ [58,58] ++ s1) r2):=by refine Zai ?_;rw[HR.out,HN.out,hn]
          obtain ⟨t0,e0,e1⟩:=Zce hn
          have hs1:s1.length≤4096:=by rw[←e1];exact (hok1.2 t0 (by rw[e0];simp)).1
          have hl2:Hid (r1.length=r2.length+1):=by rw[e0];rfl
          have hok2:Zhb r2:=hok1.sfx (by rw[e0];exact List.suffix_cons _ _)
          obtain ⟨q,hq⟩:=Zaf ([58,58] ++ s1)
          obtain ⟨z,hz⟩:=Zaf (acc ++ q)
          have hql:q.length=s1.length+2:=by rw[hq.out];simp
          have hzl:Hid (z.length=acc.length+q.length):=by refine Zai ?_;rw[hz.out];simp
          have HQL:=Zai hql
          have ha1:∀ W,(Op.stringOp .add ⟨#[58,58]⟩ (str s1)).run Tryz.prog W=.ok (.string (str q)) W:=fun W=>by rw[hq.out];exact Zox [58,58] s1 (by simp only[List.length_cons,List.length_nil];omega) W
          have ha2:∀ W,(Op.stringOp .add (str acc) (str q)).run Tryz.prog W=.ok (.string (str z)) W:=fun W=>by rw[hz.out];exact Zox acc q (by omega) W
          have HQ2:Hid (R=Zlb (r2.length+1) z r2):=by refine Zai ?_;rw[HQ.out,hz.out,hq.out,List.append_assoc]
          clear HQ hq hz hql hn e0 e1 hname0
          have hS0:w.grownBy w5.drew (some p)∧w5.heap.size≤w5.drew.heap.size∧Blk w5.drew w.heap.size [.string ⟨#[]⟩,.string ⟨#[]⟩] 116∧Zbg w5.drew p (if (fun _:Nat=>false) 3 then r2 else r1)∧Blk w5.drew p3 [.string (str (if (fun _:Nat=>false) 7 then z else acc)),.string ⟨#[]⟩] 116:=⟨hg5.trans (Zad (Zaj (Below.refl _ _)) _),Nat.le_refl _,k25,hd5,k35⟩
          clear hgg hd2 k3 hg5 hd5 k25 k35 k7 HK2 HK3
          refine Zap (fun L _ u=>w.grownBy u (some p)∧w5.heap.size≤u.heap.size∧Blk u w.heap.size [.string ⟨#[]⟩,.string ⟨#[]⟩] 116∧Zbg u p (if L 3 then r2 else r1)∧Blk u p3 [.string (str (if L 7 then z else acc)),.string ⟨#[]⟩] 116) (fun _ _ _=>True) _ (by kernel_rfl) (by kernel_rfl) (fun v=>by simp only[Zbx,Act.put,List.toList_toArray,Zl2,Zl0,Zl1,Nat.reduceAdd,Nat.zero_add];rfl) hS0 (fun L L' v u hL h=>by rw[←hL 3 (by decide),←hL 7 (by decide)];exact h) ?_
          refine Zaa [] _ (fun L hL hcl v u hS hd K' hK=>by
           simp only[Act.put,Zl2,Zl0,Zl1]at hK
           go_simp
           exact hK.out _ ⟨⟨hS.1,hS.2.1,hS.2.2.1,by simpa using hS.2.2.2.1,by simpa using hS.2.2.2.2⟩,trivial⟩) (by kernel_rfl) (j:=1) rfl ?_
          refine Zaa [0] _ (fun L hL hcl v u hS hd K' hK=>by
           simp only[Zal,Zak,eqv,Zl3,Zl4,Nat.reduceSub]at hd
           simp only[Act.put,Zl2,Zl0,Zl1]at hK
           try simp only[hd]at hK
           have h7:L 7=false:=by
            cases hq:L 7 with
            | false=>rfl
            | true=>have:=hcl 7 1 hq (by kernel_rfl);rw[hL]at this;cases this
           have c0:u.cell? ⟨p3,0,none⟩=some (.string (str acc)):=by have:=hS.2.2.2.2;rw[h7]at this;exact this.cell 0
           go_simp
           exact hK.out _ ⟨⟨hS.1,hS.2.1,hS.2.2.1,by simpa using hS.2.2.2.1,by simpa using hS.2.2.2.2⟩,trivial⟩) (by kernel_rfl) (j:=2) rfl ?_
          refine Zaa [] _ (fun L hL hcl v u hS hd K' hK=>by
           simp only[Act.put,Zl2,Zl0,Zl1]at hK
           go_simp
           exact hK.out _ ⟨⟨hS.1,hS.2.1,hS.2.2.1,by simpa using hS.2.2.2.1,by simpa using hS.2.2.2.2⟩,trivial⟩) (by kernel_rfl) (j:=3) rfl ?_
          refine Zaa [2] _ (fun L hL hcl v u hS hd K' hK=>by
           simp only[Zal,Zak,eqv,Zl3,Zl4,Nat.reduceSub]at hd
           simp only[Act.put,Zl2,Zl0,Zl1]at hK
           try simp only[hd]at hK
           go_simp
           refine (hname u (by have:=hS.2.2.2.1;rw[hL]at this;exact this) (hE.step hS.1)).mono ?_
           rintro e1 u1 ⟨hg1,hd1,v1,rfl,rfl⟩
           refine hK.out _ ⟨⟨hS.1.trans hg1,Nat.le_trans hS.2.1 hg1.size,hS.2.2.1.grown hg1 (by omega),by simpa using hd1,?_⟩,trivial⟩
           have:=hS.2.2.2.2.grown hg1 (show p3 ≠ p by omega)
           simpa using this) (by kernel_rfl) (j:=4) rfl ?_
          refine Zaa [3] _ (fun L hL hcl v u hS hd K' hK=>by
           simp only[Zal,Zak,eqv,Zl3,Zl4,Nat.reduceSub]at hd
           simp only[Act.put,Zl2,Zl0,Zl1]at hK
           try simp only[hd]at hK
           go_simp
           exact hK.out _ ⟨⟨hS.1,hS.2.1,hS.2.2.1,by simpa using hS.2.2.2.1,by simpa using hS.2.2.2.2⟩,trivial⟩) (by kernel_rfl) (j:=5) rfl ?_
          refine Zaa [1,4] _ (fun L hL hcl v u hS hd K' hK=>by
           simp only[Zal,Zak,eqv,Zl3,Zl4,Nat.reduceSub]at hd
           simp only[Act.put,Zl2,Zl0,Zl1]at hK
           try simp only[hd]at hK
           go_simp
           exact hK.out _ ⟨⟨hS.1,hS.2.1,hS.2.2.1,by simpa using hS.2.2.2.1,by simpa using hS.2.2.2.2⟩,trivial⟩) (by kernel_rfl) (j:=6) rfl ?_
          refine Zaa [] _ (fun L hL hcl v u hS hd K' hK=>by
           simp only[Act.put,Zl2,Zl0,Zl1]at hK
           go_simp
           exact hK.out _ ⟨⟨hS.1,hS.2.1,hS.2.2.1,by simpa using hS.2.2.2.1,by simpa using hS.2.2.2.2⟩,trivial⟩) (by kernel_rfl) (j:=7) rfl ?_
          refine Zam [5,6] (fun _ _=>True) ((fun _ _ _ _ _ _ h=>h)) (fun L hL hcl v u hS hd K' hK=>by
           simp only[Zal,Zak,eqv,Zl3,Zl4,Nat.reduceSub]at hd
           simp only[Act.put,Zl2,Zl0,Zl1]at hK
           try simp only[hd]at hK
           have k3:=hS.2.2.2.2
           rw[hL]at k3
           have f3:=k3.free 0
           have f3c:u.cell? ⟨p3,0,none⟩=some (.string (str acc)):=k3.cell 0
           go_simp
           have k3':=k3.set 0 (.string (str z))
           have hgs:=Zed hS.1 (show w.heap.size≤p3 by omega) 0 (.string (str z))
           refine hK.out undef _ ⟨⟨hgs,by rw[World.size_setCell];exact hS.2.1,(hS.2.2.1).far (show w.heap.size ≠ p3 by omega) _,?_,by simpa using k3'⟩,trivial,trivial⟩
           have q9:=(hS.2.2.2.1).far (show p < p3 by omega) 0 (.string (str z))
           simpa using q9) (by kernel_rfl) (j:=8) rfl ?_
          refine Zau [] (by decide) ?_
          rintro v u hS hR
          obtain ⟨q1,q2,q3,q4,q5⟩:=hS
          replace q4:Zbg u p r2:=by simpa using q4
          replace q5:Blk u p3 [.string (str z),.string ⟨#[]⟩] 116:=by simpa using q5
          clear hname ha1 ha2 hS0
          go_wp2_with (first|(at_builtin;fail))
          go_roundw
          case rel=>exact ⟨z,r2,by have:=HL1.out;have:=hl2.out;have:=hzl.out;have:=HQL.out;omega,hok2,HQ2,q1,q4,q3,q5⟩
          case measure=>
           rw[Zdn q4,Zdn HD.out]
           have:=HL1.out
           have:=hl2.out
           omega
def WrC (w:World) (A:Option Addr) (n:Nat):Prop:=∀ a,A=some a→a=⟨a.block,a.off,none⟩∧∀ j,j < n→(w.cell? ⟨a.block,a.off+j,none⟩).isSome=true∧w.frozen? ⟨a.block,a.off+j,none⟩=false
theorem WrC.grown {w w':World} {A:Option Addr} {n:Nat} {p:Nat} (h:WrC w A n) (hg:w.grownBy w' (some p)) (hne:∀ a,A=some a→a.block ≠ p):WrC w' A n:=by
 intro a ha
 refine ⟨(h a ha).1,fun j hj=>?_⟩
 obtain ⟨h1,h2⟩:=(h a ha).2 j hj
 obtain ⟨v,hv⟩:=Option.isSome_iff_exists.1 h1
 have hlt:=World.block_lt_of_cell? w _ hv
 have hb:=hg.block a.block hlt (fun e=>hne a ha (Option.some.inj e))
 refine ⟨by rw[hg.cell hv (fun e=>hne a ha (Option.some.inj e))];rfl,?_⟩
 unfold World.frozen? at h2 ⊢
 rw[hb]
 exact h2
theorem WrC.nil (w:World) (n:Nat):WrC w none n:=fun a h=>by cases h
theorem WrC.blk {w:World} {g:Nat} {vs:List Value} {t:TypeId} (h:Blk w g vs t):WrC w (some ⟨g,0,none⟩) vs.length:=by
 intro a ha
 cases ha
 refine ⟨rfl,fun j hj=>?_⟩
 rw[Nat.zero_add]
 exact ⟨by rw[h.cell,List.getElem?_eq_getElem hj];rfl,h.free j⟩
def WrE (w:World) (r:List Value):Prop:=(∀ A m c,r[4]?=some (.slice A m c)→WrC w A m)∧∀ A m c,r[5]?=some (.slice A m c)→WrC w A (m * 6)
def Nw (base:Nat) (w:World):Nat→Prop:=fun b=>base≤b∧b < w.heap.size
def ExV (base:Nat) (e:Et) (w:World) (v:Value):Prop:=∃ r,v=.agg r.toArray∧EAt w (Nw base w) e r∧WrE w r
theorem Zbu {w:World} {P:Nat→Prop} {e:Et} {r:List Value} (h:EAt w P e r):∃ (o:Nat) (n:Int) (s t:ByteArray) (A:Option Addr) (a c:Nat) (B:Option Addr) (b d:Nat),r=Zav o n s t (.slice A a c) (.slice B b d)∧(∀ x,A=some x→P x.block)∧∀ x,B=some x→P x.block:=by
 cases e
 rw[EAt]at h
 obtain ⟨A,c,B,d,rows,rfl,_,_,_,_,⟨h5,h5'⟩,_⟩:=h
 exact ⟨_,_,_,_,A,_,c,B,_,d,rfl,h5,h5'⟩
theorem WrE.grown {w w':World} {P:Nat→Prop} {e:Et} {r:List Value} {p:Nat} (h:WrE w r) (hE:EAt w P e r) (hg:w.grownBy w' (some p)) (hP:∀ b,P b→b ≠ p):WrE w' r:=by
 obtain ⟨o,n,s,t,A,a,c,B,b,d,rfl,hA,hB⟩:=Zbu hE
 refine ⟨fun A' m c' e=>?_,fun A' m c' e=>?_⟩
 · cases e
   exact (h.1 A a c rfl).grown hg fun x hx=>hP _ (hA x hx)
 · cases e
   exact (h.2 B b d rfl).grown hg fun x hx=>hP _ (hB x hx)
theorem ExV.grown {w w':World} {base p:Nat} {e:Et} {v:Value} (h:ExV base e w v) (hg:w.grownBy w' (some p)) (hp:p < base):ExV base e w' v:=by
 obtain ⟨r,rfl,h1,h2⟩:=h
 exact ⟨r,rfl,(h1.grown hg (fun b hb=>by have:=hb.1;omega)).imp (fun b hb=>⟨hb.1,Nat.lt_of_lt_of_le hb.2 hg.size⟩),h2.grown h1 hg (fun b hb=>by have:=hb.1;omega)⟩
theorem ExV.mono {w:World} {base base':Nat} {e:Et} {v:Value} (h:ExV base e w v) (hb:base'≤base):ExV base' e w v:=by
 obtain ⟨r,rfl,h1,h2⟩:=h
 exact ⟨r,rfl,h1.imp (fun b hb'=>⟨Nat.le_trans hb hb'.1,hb'.2⟩),h2⟩
theorem Zfg {u:World} {P:Nat→Prop} {o:Nat} {n:Int} {s t:ByteArray} {l:List Et} {rows:List (List Value)} {g c:Nat} (ho:o < 256) (hn:-9223372036854775808≤n∧n≤9223372036854775807) (hs:s.size≤Zbq) (ht:t.size≤Zbq) (hl:l.length * 96≤Zbq) (hc:l.length≤c)
 (hg:Blk u g rows.flatten 26) (hP:P g) (hk:Zdz u P l rows):EAt u P (.mk o n s t [] l) (Zav o n s t (.slice none 0 0) (.slice (some ⟨g,0,none⟩) l.length c)):=by
 rw[EAt]
 refine ⟨none,0,some ⟨g,0,none⟩,c,rows,rfl,⟨ho,hn.1,hn.2,hs,ht⟩,Zek.nil _ _ _,fun x hx=>(by cases hx),⟨by simp,Nat.le_refl _,hl,hc⟩,⟨fun a ha=>(by cases ha),fun a ha=>by cases ha;exact hP⟩,?_,hk⟩
 refine ⟨Zci hk,fun _=>⟨g,0,rfl,fun j v hj=>?_⟩⟩
 rw[Nat.zero_add]
 exact (hg.cell j).trans hj
theorem Zkr {u:World} {P:Nat→Prop} {o:Nat} {n:Int} {s t:ByteArray} (ho:o < 256) (hn:-9223372036854775808≤n∧n≤9223372036854775807) (hs:s.size≤Zbq) (ht:t.size≤Zbq):EAt u P (.mk o n s t [] []) (Zav o n s t (.slice none 0 0) (.slice none 0 0)):=by
 rw[EAt]
 exact ⟨none,0,none,0,[],rfl,⟨ho,hn.1,hn.2,hs,ht⟩,Zek.nil _ _ _,fun x hx=>(by cases hx),⟨by simp,Nat.le_refl _,by simp,Nat.le_refl _⟩,⟨fun a ha=>(by cases ha),fun a ha=>by cases ha⟩,Zek.nil _ _ _,by rw[Zdz]⟩
theorem Zid {u:World} {o:Nat} {n:Int} {s t:ByteArray} {g m c:Nat} {vs:List Value} (hg:Blk u g vs 26) (hm:m * 6≤vs.length):WrE u (Zav o n s t (.slice none 0 0) (.slice (some ⟨g,0,none⟩) m c)):=by
 refine ⟨fun A a c' e=>(by cases e;exact WrC.nil _ _),fun A a c' e=>?_⟩
 cases e
 intro x hx
 obtain ⟨h1,h2⟩:=WrC.blk hg x hx
 exact ⟨h1,fun j hj=>h2 j (by omega)⟩
theorem Zjd (u:World) {o:Nat} {n:Int} {s t:ByteArray}:WrE u (Zav o n s t (.slice none 0 0) (.slice none 0 0)):=
 ⟨fun A a c' e=>(by cases e;exact WrC.nil _ _),fun A a c' e=>by cases e;exact WrC.nil _ _⟩
theorem kE:(Tryz.prog.info? 26).map (·.size)=some 6:=by kernel_rfl
theorem kE6 {r:List Value} (h:r.length=6):(Tryz.prog.info? 26).map (·.size)=some r.toArray.size:=by rw[kE];simp[h]
theorem eload {w:World} {g:Nat} {r:List Value} (k:Blk w g r 26) (h:r.length=6):(loadVar 26 ⟨g,0,none⟩).run Tryz.prog w=.ok (.agg r.toArray) w:=
 run_loadVar_row w g 26 26 r.toArray (0,0) _ k Tryz.underlying26 rfl (kE6 h)
theorem Zfz {fn:Func} {p:Tmp} (hr:fn.results=#[.cell p 26]) (tmps:Array Value) {w:World} {g:Nat} {r:List Value} (hp:tmps.getD p undef=.pointer (some ⟨g,0,none⟩)) (k:Blk w g r 26) (h:r.length=6) :
 (results fn tmps).run Tryz.prog w=.ok (.agg r.toArray) w:=
 results_cell_row hr tmps w g 26 r.toArray (0,0) _ hp k Tryz.underlying26 rfl (kE6 h)
theorem Zom (n:Nat) (h:n < 256):IntKind.u8.wrap (n:Int)=(n:Int):=by
 simp[IntKind.wrap,IntKind.signed,IntKind.bits]
 omega
def Zsf:ByteArray:=⟨#[38,38,32,124,124,32,61,61,32,33,61,32,60,32,60,61,32,62,32,62,61,32,105,110,32,43,32,45,32,42]⟩
def Zto:ByteArray:=⟨#[99,111,110,116,97,105,110,115,32,99,111,110,116,97,105,110,115,65,108,108,32,99,111,110,116,97,105,110,115,65,110,121]⟩
theorem Zpe:Lib.fields Zsf.data.toList=Zdd∧∀ b ∈ Zsf.data.toList,b.toNat < 128:=by decide +kernel
theorem Zqd:Lib.fields Zto.data.toList=Zbv∧∀ b ∈ Zto.data.toList,b.toNat < 128:=by decide +kernel
theorem sign_idx:∀ s ∈ Zdd,Lib.idxOfS (Zdd.map str) (str s)=((Zdd.idxOf s:Nat):Int)∧Zdd.idxOf s < 12:=by decide +kernel
theorem call_idx:∀ s ∈ Zbv,Lib.idxOfS (Zbv.map str) (str s)=((Zbv.idxOf s:Nat):Int)∧Zbv.idxOf s < 3:=by decide +kernel
theorem call_no {s:List UInt8} (h:Zbv.contains s=false):¬ 0≤Lib.idxOfS (Zbv.map str) (str s):=by
 have:=has_str Zbv s
 rw[h]at this
 unfold Lib.containsS at this
 exact of_decide_eq_false this
theorem Zfi (w:World) (l:List (List UInt8)):TxS (w.alloc (.cells (l.map fun x=>Value.string ⟨x.toArray⟩).toArray 9)) (some ⟨w.heap.size,0,none⟩) l:=by
 refine ⟨by simp[Zfo],fun _=>⟨w.heap.size,0,rfl,fun j u hu=>?_⟩⟩
 rw[Nat.zero_add]
 refine ((Blk.new w (l.map fun x=>Value.string ⟨x.toArray⟩) 9).cell j).trans ?_
 rw[←hu]
 unfold Zfo
 rw[List.map_map]
 rfl
theorem signs_w (w:World) (ht:Tb w):Calls Tryz.prog 44 #[] w fun e w'=>e=.returned (.slice (some ⟨w.heap.size,0,none⟩) 12 12)∧w'=w.alloc (.cells (Zdd.map fun x=>Value.string ⟨x.toArray⟩).toArray 9):=by
 have h:=Tryz.strings_Fields Zsf w (by decide) (fun j b hb=>Zpe.2 b (List.mem_of_getElem? hb)) ht.space
 rw[Zpe.1]at h
 have h2:Calls Tryz.prog 78 #[.string ⟨#[38,38,32,124,124,32,61,61,32,33,61,32,60,32,60,61,32,62,32,62,61,32,105,110,32,43,32,45,32,42]⟩] w fun e w'=>e=.returned (.slice (some ⟨w.heap.size,0,none⟩) 12 12)∧w'=w.alloc (.cells (Zdd.map fun x=>Value.string ⟨x.toArray⟩).toArray 9):=h
 clear h
 go_enter Tryz.func44,Tryz.ntmps44
 go_wp2_with (first|(at_builtin;fail))
 refine h2.mono ?_
 rintro e w1 ⟨rfl,rfl⟩
 go_wp2_with (first|(at_builtin;fail))
 go_ret
 exact ⟨rfl,rfl⟩
theorem Ztn (w:World) (ht:Tb w):Calls Tryz.prog 43 #[] w fun e w'=>e=.returned (.slice (some ⟨w.heap.size,0,none⟩) 3 3)∧w'=w.alloc (.cells (Zbv.map fun x=>Value.string ⟨x.toArray⟩).toArray 9):=by
 have h:=Tryz.strings_Fields Zto w (by decide) (fun j b hb=>Zqd.2 b (List.mem_of_getElem? hb)) ht.space
 rw[Zqd.1]at h
 have h2:Calls Tryz.prog 78 #[.string ⟨#[99,111,110,116,97,105,110,115,32,99,111,110,116,97,105,110,115,65,108,108,32,99,111,110,116,97,105,110,115,65,110,121]⟩] w fun e w'=>e=.returned (.slice (some ⟨w.heap.size,0,none⟩) 3 3)∧w'=w.alloc (.cells (Zbv.map fun x=>Value.string ⟨x.toArray⟩).toArray 9):=h
 clear h
 go_enter Tryz.func43,Tryz.ntmps43
 go_wp2_with (first|(at_builtin;fail))
 refine h2.mono ?_
 rintro e w1 ⟨rfl,rfl⟩
 go_wp2_with (first|(at_builtin;fail))
 go_ret
 exact ⟨rfl,rfl⟩
theorem index_w (w:World) (A:Option Addr) (c:Nat) (l:List (List UInt8)) (x:List UInt8) (hl:l.length≤4096) (hn:l ≠ []) (h:TxS w A l) :
 Calls Tryz.prog 116 #[.slice A l.length c,.string (str x)] w fun e w'=>e=.returned (.int .i64 (Lib.idxOfS (l.map str) (str x)))∧w'=w:=by
 obtain ⟨b,o,rfl,hc⟩:=h.2 (by simpa [Zfo] using hn)
 have:=Tryz.slices_Index_string b o l.length c (l.map str) (str x) w (by simp) (by omega) (fun j hj=>by
  refine hc j _ ?_
  unfold Zfo
  rw[List.getElem?_map,List.getElem?_eq_getElem hj,List.getD_eq_getElem?_getD,List.getElem?_eq_getElem hj]
  rfl)
 rw[List.take_of_length_le (by simp)]at this
 exact this
set_option maxRecDepth 100000 in
theorem Zkj (s:List UInt8) (hs:Zdd.contains s=true) (w:World) (ht:Tb w):Calls Tryz.prog 128 #[.string (str s)] w fun e w'=>e=.returned (.int .u8 (Znt s:Int))∧Below w.heap.size w w':=by
 have hsg:=signs_w w ht
 have hb:=Zac w (.cells (Zdd.map fun x=>Value.string ⟨x.toArray⟩).toArray 9)
 have hix:=index_w (w.alloc (.cells (Zdd.map fun x=>Value.string ⟨x.toArray⟩).toArray 9)) (some ⟨w.heap.size,0,none⟩) 12 Zdd s (by decide) (by decide) (Zfi w Zdd)
 obtain ⟨h1,h2⟩:=sign_idx s (by simpa using hs)
 rw[h1]at hix
 have ho:Hid (Znt s=15+Zdd.idxOf s):=rfl
 obtain ⟨i,hi⟩:=Zaf (Zdd.idxOf s)
 rw[←hi.out]at hix ho h2
 have hix2:Calls Tryz.prog 116 #[.slice (some ⟨w.heap.size,0,none⟩) 12 12,.string (str s)] (w.alloc (.cells (Zdd.map fun x=>Value.string ⟨x.toArray⟩).toArray 9)) fun e w'=>e=.returned (.int .i64 (i:Int))∧w'=w.alloc (.cells (Zdd.map fun x=>Value.string ⟨x.toArray⟩).toArray 9):=hix
 obtain ⟨W,hW⟩:=Zaf (w.alloc (.cells (Zdd.map fun x=>Value.string ⟨x.toArray⟩).toArray 9))
 rw[←hW.out]at hsg hb hix2
 clear hix hi h1 hW
 go_enter Tryz.func128,Tryz.ntmps128
 go_wp2_with (first|(at_builtin;fail))
 refine hsg.mono ?_
 rintro e w1 ⟨rfl,hw1⟩
 replace hw1:=hw1.symm
 subst hw1
 clear hsg
 go_wp2_with (first|(at_builtin;fail))
 refine hix2.mono ?_
 rintro e w1 ⟨rfl,hw1⟩
 replace hw1:=hw1.symm
 subst hw1
 clear hix2
 have hw8:IntKind.u8.wrap (i:Int)=(i:Int):=Zom i (by omega)
 have hw9:IntKind.u8.wrap (15+(i:Int))=15+(i:Int):=by
  have:=Zom (15+i) (by omega)
  rw[show ((15+i:Nat):Int)=15+(i:Int) by omega]at this
  exact this
 go_wp2_with (first|(at_builtin;fail))
 go_ret
 refine ⟨?_,hb⟩
 rw[ho.out]
 rfl
set_option maxRecDepth 100000 in
theorem Zjp (o:Nat) (A:Option Addr) (m c:Nat) (w:World):Calls Tryz.prog 101 #[.int .u8 (o:Int),.slice A m c] w fun e w'=>e=.returned (.agg (Zav o 0 ⟨#[]⟩ ⟨#[]⟩ (.slice none 0 0) (.slice A m c)).toArray)∧Below w.heap.size w w':=by
 have k0:=Blk.new w Zag 26
 have hb:=Zac w (.cells Zag.toArray 26)
 go_enter Tryz.func101,Tryz.ntmps101
 go_wp2_with (first
  | (at_builtin;fail)
  | refine wpList_store_row rfl 26 _ _ rfl _ (Zav o 0 ⟨#[]⟩ ⟨#[]⟩ (.slice none 0 0) (.slice A m c)).toArray rfl rfl 26 Zag.toArray k0 (kE6 rfl) rfl (Zas (by intro v hv;simp only[Zav,List.mem_cons,List.not_mem_nil,or_false]at hv;rcases hv with rfl|rfl|rfl|rfl|rfl|rfl <;> rfl)) ?_)
 exact bodyPost_ret (Zfz rfl _ rfl (k0.vrow _) rfl) rfl ⟨rfl,Zah hb (Nat.le_refl _) _⟩
theorem Zcd {o:Nat} {n:Int} {s t:ByteArray} {A B:Option Addr} {a c b d:Nat}:∀ v ∈ Zav o n s t (.slice A a c) (.slice B b d),v.oneCell'=true:=by
 intro v hv
 simp only[Zav,List.mem_cons,List.not_mem_nil,or_false]at hv
 rcases hv with rfl|rfl|rfl|rfl|rfl|rfl <;> rfl
end Go.Proofs.YtnhooehmcggmdaaGreatDoor
