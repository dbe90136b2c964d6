/- Parts of a proof about the given program: XRdW7, XRdW8, XShow1, XShow2, XParse4. -/
import Derived.Test.YtnhooehmcggmdaaGreatDoorZ21
import Derived.Test.YtnhooehmcggmdaaGreatDoorZ03
namespace Go.Proofs.YtnhooehmcggmdaaGreatDoor
set_option maxHeartbeats 16000000
set_option linter.unusedVariables false
set_option linter.unusedSimpArgs false
set_option linter.unusedSectionVars false
open Go.RowKit
def Zla (F:FuncId) (nt:NT) (n:Nat):Prop:=∀ f,f≤n→∀ (p:Nat) (w0 w:World) (ts:List Tok) (y:Zcs Et),Zbg w p ts→Zhb ts→Env w0 p w→pr f nt ts=some y →
 Calls Tryz.prog F #[.pointer (some ⟨p,0,none⟩)] w fun e w'=>Zhk p w y (ExV w.heap.size) e w'
theorem Zgn (u:World) (k:Nat) (cs:Array Value):(u.setRow k cs).heap.size=u.heap.size:=by simp only[World.setRow,Array.size_modify]
theorem Zbc (u:World) (k:Nat) (cs:Array Value):u.grownBy (u.setRow k cs) (some k):=
 ⟨rfl,rfl,rfl,by rw[Zgn];exact Nat.le_refl _,fun j _ hj=>Zch u k j cs (fun e=>hj (by rw[e]))⟩
theorem WrC.below {w w':World} {A:Option Addr} {n:Nat} (h:WrC w A n) (hb:Below w.heap.size w w'):WrC w' A n:=by
 intro a ha
 refine ⟨(h a ha).1,fun j hj=>?_⟩
 obtain ⟨h1,h2⟩:=(h a ha).2 j hj
 obtain ⟨v,hv⟩:=Option.isSome_iff_exists.1 h1
 have hlt:=World.block_lt_of_cell? w _ hv
 refine ⟨by rw[hb.cell hlt,hv];rfl,?_⟩
 rw[hb.frozen hlt]
 exact h2
theorem WrE.below {w w':World} {r:List Value} (h:WrE w r) (hb:Below w.heap.size w w'):WrE w' r:=⟨fun A m c e=>(h.1 A m c e).below hb,fun A m c e=>(h.2 A m c e).below hb⟩
theorem Zbe {c p q:Prop} [Decidable c] (h:c) (hp:p):if c then p else q:=by rw[if_pos h];exact hp
theorem Zmj {u:World} {P:Nat→Prop} {a b:Et} {ra rb:List Value} (ha:EAt u P a ra) (hb:EAt u P b rb):Zdz u P [a,b] [ra,rb]:=by
 rw[Zdz]
 refine ⟨ra,[rb],rfl,ha,?_⟩
 rw[Zdz]
 exact ⟨rb,[],rfl,hb,by rw[Zdz]⟩
theorem Zth {u:World} {P:Nat→Prop} {a:Et} {ra:List Value} (ha:EAt u P a ra):Zdz u P [a] [ra]:=by
 rw[Zdz]
 exact ⟨ra,[],rfl,ha,by rw[Zdz]⟩
theorem opsOf_ok (k:Nat):(Zej k) ≠ []∧(Zej k).length≤4096∧∀ s ∈ Zej k,Zdd.contains s=true:=by
 unfold Zej
 split
 · decide
 split
 · decide
 split <;> decide
theorem opOf_lt (s:List UInt8):Znt s < 256:=by
 unfold Znt
 have:Zdd.idxOf s≤Zdd.length:=List.idxOf_le_length
 have h2:Zdd.length=12:=by decide
 omega
theorem zE6 {r:List Value} (h:r.length=6):Zag.toArray.size=r.toArray.size:=by simp[h];rfl
def Up (w:World) (Q:Nat→Prop):Nat→Prop:=fun b=>Q b∧b < w.heap.size
theorem EAt.up {w w':World} {g:Nat} {Q:Nat→Prop} {e:Et} {r:List Value} (h:EAt w (Up w Q) e r) (hg:w.grownBy w' (some g)) (hQ:∀ b,Q b→b ≠ g):EAt w' (Up w' Q) e r:=
 (h.grown hg (fun b hb=>hQ b hb.1)).imp (fun b hb=>⟨hb.1,Nat.lt_of_lt_of_le hb.2 hg.size⟩)
theorem row_go {n k:Nat} {e:Et} {ts:List Tok} {y:Zcs Et} (h:∃ f,f≤n+1∧pr f (.rowT k e) ts=some y):(nxB 4 (Zej k) ts=false∧y=.ok (e,ts)) ∨
 (nxB 4 (Zej k) ts=true∧∃ t r1 f1,ts=t :: r1∧f1≤n∧(Zej k).contains t.t=true∧Zcn (pr f1 (.lv (k+1)) r1) (fun e2 r2=>pr f1 (.rowT k (Zbk (Znt t.t) [e,e2])) r2)=some y):=by
 obtain ⟨f,hf,h⟩:=h
 cases f with
 | zero=>cases h
 | succ f1=>
   cases ts with
   | nil=>cases h;exact .inl ⟨rfl,rfl⟩
   | cons t r1=>
     have h2:Zbj (pr f1) (.rowT k e) (t :: r1)=some y:=h
     rw[Zgv]at h2
     have hn:nxB 4 (Zej k) (t :: r1)=(decide (t.k=4) && (Zej k).contains t.t):=by
      show (decide (t.k=4) && ((Zej k).isEmpty || (Zej k).contains t.t))=_
      have:=(opsOf_ok k).1
      cases hq:Zej k with
      | nil=>exact absurd hq this
      | cons a l=>rfl
     rw[hn]
     split at h2
     · next hc=>
       rw[hc]
       rw[Bool.and_eq_true]at hc
       exact .inr ⟨rfl,t,r1,f1,rfl,by omega,hc.2,h2⟩
     · next hc=>
       cases h2
       exact .inl ⟨by simpa using hc,rfl⟩
set_option maxRecDepth 100000 in
theorem Zzn (F:FuncId) (k n:Nat) (hk:k=0∨k=1∨k=3∨k=4) (hF:Zla F (.lv (k+1)) n) (hin:∀ v W,(callFunc F #[v]).run Tryz.prog W=.ok (.enter F #[v]) W)
 (f:Nat) (hf:f≤n+1) (p:Nat) (w0 w:World) (ts:List Tok) (y:Zcs Et) (hr:Zbg w p ts) (hok:Zhb ts) (hE:Env w0 p w) (hy:pr f (.lv k) ts=some y) (A3:Option Addr) (c3:Nat) (hx:TxS w A3 (Zej k)) (hx3:∀ a,A3=some a→a.block ≠ p) :
 Calls Tryz.prog 98 #[.pointer (some ⟨p,0,none⟩),.func (.func F) #[.pointer (some ⟨p,0,none⟩)] #[],.slice A3 (Zej k).length c3] w fun e w'=>Zhk p w y (ExV w.heap.size) e w':=by
 have hplt:=hr.lt
 have hb0:=Zac w (.cells Zag.toArray 26)
 have k60:=Blk.new w Zag 26
 obtain ⟨W,hW⟩:=Zaf (w.alloc (.cells Zag.toArray 26))
 have hWl:Hid (W=w.alloc (.cells #[.int .u8 0,.int .i64 0,.string ⟨#[]⟩,.string ⟨#[]⟩,.slice none 0 0,.slice none 0 0] 26)):=hW
 have hsW:W.heap.size=w.heap.size+1:=by rw[hW.out];show (w.heap.push _).size=_;exact Array.size_push _
 replace k60:Blk W w.heap.size Zag 26:=by rw[hW.out];exact k60
 rw[←hW.out]at hb0
 obtain ⟨f',rfl⟩:∃ f',f=f'+1:=by
  cases f with
  | zero=>cases hy
  | succ f'=>exact ⟨f',rfl⟩
 have hy2:Zcn (pr f' (.lv (k+1)) ts) (fun e r=>pr f' (.rowT k e) r)=some y:=by
  have h2:Zbj (pr f') (.lv k) ts=some y:=hy
  rw[Zlu k (by omega) (by omega) (by omega) (by omega)]at h2
  exact h2
 have hd0:=hr.below hb0
 have hx0:=hx.below hb0
 have hx4:∀ (u:World),w.grownBy u (some p)→TxS u A3 (Zej k):=fun u hu=>by
  exact Zek.grown hx hu hx3
 have hx1:=Zai hx4
 have hops:=opsOf_ok k
 have HOPS:=Zai hops
 obtain ⟨m3,hm3⟩:=Zaf (Zej k).length
 rw[←hm3.out]
 clear hy hW hx0 hx hx4 hx3 hops
 go_enter Tryz.func98,Tryz.ntmps98
 rcases Zbp hy2 with ⟨e0,h1,rfl⟩|⟨e1,r0,h1,h2⟩
 · have hone:=hF f' (by omega) p w0 W ts (.error e0) hd0 hok (hE.step (Zad hb0 _)) h1
   clear hy2 h1
   go_wp2_with (first|(at_builtin;fail))
   rw[←hWl.out]
   refine hone.mono ?_
   rintro e9 w1 ⟨hg1,hd1,rfl⟩
   exact ⟨rfl,(Zad hb0 _).trans hg1,hd1,rfl⟩
 · have hone:=hF f' (by omega) p w0 W ts (.ok (e1,r0)) hd0 hok (hE.step (Zad hb0 _)) h1
   have hsf:=(Zmx f' _ _ _ h1).1
   have hlen0:=(Zmx f' _ _ _ h1).2
   have hok0:=hok.sfx hsf
   have HY:Hid (∃ f,f≤n+1∧pr f (.rowT k e1) r0=some y):=⟨f',by omega,h2⟩
   clear hy2 h1 h2 hsf hlen0
   go_wp2_with (first|(at_builtin;fail))
   rw[←hWl.out]
   refine hone.mono ?_
   rintro e9 w1 ⟨hg1,hd1,v9,rfl,r9,rfl,hv9,hw9⟩
   clear hone hWl hd0
   obtain ⟨o1,n1,s1,t1,A1,a1,c1,B1,b1,d1,rfl,-⟩:=Zbu hv9
   have hgw1:=(Zad hb0 (some p)).trans hg1
   have k61:=k60.grown hg1 (by omega)
   have hsz1:w.heap.size < w1.heap.size:=k61.lt
   obtain ⟨re,hre⟩:=Zaf (Zav o1 n1 s1 t1 (.slice A1 a1 c1) (.slice B1 b1 d1))
   rw[←hre.out]at hv9 hw9
   have hb2:=Zah (Zac w1 (.cells Zag.toArray 26)) (Nat.le_refl _) re.toArray
   have k72:Blk ((w1.alloc (.cells Zag.toArray 26)).setRow w1.heap.size re.toArray) w1.heap.size re 26:=(Blk.new w1 Zag 26).vrow _
   have k62:=k61.below hb2
   have hd2:=hd1.below hb2
   have hg2:=hgw1.trans (Zad hb2 (some p))
   obtain ⟨w2,hw2n⟩:=Zaf ((w1.alloc (.cells Zag.toArray 26)).setRow w1.heap.size re.toArray)
   have hwl2:Hid (w2=(w1.alloc (.cells #[.int .u8 0,.int .i64 0,.string ⟨#[]⟩,.string ⟨#[]⟩,.slice none 0 0,.slice none 0 0] 26)).setRow w1.heap.size (Zav o1 n1 s1 t1 (.slice A1 a1 c1) (.slice B1 b1 d1)).toArray):=by refine Zai ?_;rw[hw2n.out,hre.out];rfl
   rw[←hw2n.out]at k72 k62 hd2 hg2 hb2
   have hv2:=(hv9.below hb2).imp (Q:=Up w2 (fun b=>w.heap.size < b∧b ≠ w1.heap.size)) (fun b hb=>⟨⟨by have:=hb.1;omega,by have:=hb.2;omega⟩,Nat.lt_of_lt_of_le hb.2 (Zad hb2 (some p)).size⟩)
   have hw2:=hw9.below hb2
   obtain ⟨p7,hp7⟩:=Zaf w1.heap.size
   obtain ⟨p6,hp6⟩:=Zaf w.heap.size
   have hp67:p6 < p7:=by rw[hp7.out,hp6.out];exact hsz1
   have hpp6:p < p6:=by rw[hp6.out];exact hplt
   rw[←hp7.out]at k72 hv2
   rw[←hp6.out]at k62 hv2
   have HB:=Zai (Nat.le_of_eq hp6.out)
   have HB2:=Zai (Nat.le_of_eq hp6.out.symm)
   clear k60 k61 hb0 hb2 hg1 hgw1 hd1 hv9 hw9 hsz1 hw2n
   go_wp2_with (first
    | (at_builtin;fail)
    | (refine wpList_store_row rfl 26 _ _ rfl _ (Zav o1 n1 s1 t1 (.slice A1 a1 c1) (.slice B1 b1 d1)).toArray rfl rfl 26 Zag.toArray (Blk.new w1 Zag 26) (kE6 rfl) rfl (Zas Zcd) ?_;rw[←hwl2.out]))
   rw[←hp7.out,←hp6.out]
   clear hwl2
   go_simp
   go_loopw [] (fun wr=>∃ (e:Et) (r:List Tok) (re:List Value),Zhb r∧(∃ f,f≤n+1∧pr f (.rowT k e) r=some y)∧w.grownBy wr (some p)∧Zbg wr p r∧Blk wr p6 Zag 26∧Blk wr p7 re 26∧EAt wr (Up wr (fun b=>p6 < b∧b ≠ p7)) e re∧WrE wr re) (fun wr=>Zxn wr p)
   case atStart=>exact ⟨e1,r0,re,hok0,HY.out,hg2,hd2,k62,k72,hv2,hw2⟩
   case round=>
    obtain ⟨e,r,re,hokr,hgo,hg,hd,k6,k7,hv,hw⟩:=hrel
    clear HY hg2 hd2 k62 k72 hv2 hw2
    have hrlen:re.length=6:=Zby hv
    have htk0:=Zft 4 (Zej k) A3 c3 p wr r hd HOPS.out.2.1 (hx1.out wr hg) hokr
    rw[←hm3.out]at htk0
    rcases row_go hgo with ⟨hn,hq⟩|⟨hn,t,r1,f1,rfl,hf1,hcon,hbind⟩
    · have htk:Calls Tryz.prog 97 #[.pointer (some ⟨p,0,none⟩),.int .u8 4,.slice A3 m3 c3] wr fun e w'=>e=.returned (.tuple #[.agg (Zae Zan).toArray,.bool false])∧Zbg w' p r∧wr.grownBy w' (some p):=by
       have e1:Zck 4 (Zej k) r=Zan:=by unfold Zck;rw[hn];rfl
       have e2:Zct 4 (Zej k) r=r:=by unfold Zct;rw[hn];rfl
       rw[hn,e1,e2]at htk0
       exact htk0
      have HQ:=Zai hq
      clear htk0 hn hgo hq
      go_wp2_with (first|(at_builtin;fail))
      refine htk.mono ?_
      rintro e9 w4 ⟨rfl,hd4,hg4⟩
      clear htk
      have hb5:=Zah (Zac w4 (.cells #[.int .u8 0,.string ⟨#[]⟩,.int .i64 0,.int .i64 0] 46)) (Nat.le_refl _) (Zae Zan).toArray
      have k65:=(k6.grown hg4 (by omega)).below hb5
      have k75:=(k7.grown hg4 (by omega)).below hb5
      have hd5:=hd4.below hb5
      have hg5:=(hg.trans hg4).trans (Zad hb5 (some p))
      have hv5:=(hv.up hg4 (fun b hb=>by have:=hb.1;omega)).up (Zad hb5 (some p)) (fun b hb=>by have:=hb.1;omega)
      have hw5:=(hw.grown hv hg4 (fun b hb=>by have:=hb.1.1;omega)).below hb5
      go_upto_region 4 with (first
       | (at_builtin;fail)
       | refine wpList_store_row rfl 46 _ _ rfl _ (Zae Zan).toArray rfl rfl 46 (Zae Zan).toArray (Blk.new w4 (Zae Zan) 46) (kT4 rfl) rfl (Zay _) ?_)
      obtain ⟨w5,hw5n⟩:=Zaf ((w4.alloc (.cells #[.int .u8 0,.string ⟨#[]⟩,.int .i64 0,.int .i64 0] 46)).setRow w4.heap.size (Zae Zan).toArray)
      rw[←hw5n.out]at k65 k75 hd5 hg5 hv5 hw5 ⊢
      clear hw5n hb5 hd4 hg4 k6 k7 hd hg hv hw
      have hgr:=Zbc w5 p6 re.toArray
      go_wp2_with (first
       | (at_builtin;fail)
       | refine wpList_load_row rfl 26 _ rfl _ rfl 26 re.toArray (0,0) _ k75 Tryz.underlying26 rfl (kE6 hrlen) ?_
       | refine wpList_store_row rfl 26 _ _ rfl _ re.toArray rfl rfl 26 Zag.toArray k65 (kE6 hrlen) (zE6 hrlen) (Zas (Zcy hv5)) ?_)
      have hv6:=hv5.up hgr (fun b hb=>by have:=hb.1;omega)
      refine bodyPost_ret (Zfz rfl _ rfl (k65.vrow re) hrlen) rfl ?_
      rw[HQ.out]
      refine ⟨Zaq hg5 HB2.out _,hd5.row hpp6 _,_,rfl,re,rfl,?_,hw5.grown hv5 hgr (fun b hb=>by have:=hb.1.1;omega)⟩
      exact hv6.imp (fun b hb=>⟨by have:=HB2.out;have:=hb.1.1;omega,hb.2⟩)
    · have htk:Calls Tryz.prog 97 #[.pointer (some ⟨p,0,none⟩),.int .u8 4,.slice A3 m3 c3] wr fun e w'=>e=.returned (.tuple #[.agg (Zae t).toArray,.bool true])∧Zbg w' p r1∧wr.grownBy w' (some p):=by
       have e1:Zck 4 (Zej k) (t :: r1)=t:=by unfold Zck;rw[hn];rfl
       have e2:Zct 4 (Zej k) (t :: r1)=r1:=by unfold Zct;rw[hn];rfl
       rw[hn,e1,e2]at htk0
       exact htk0
      have hok1:=hokr.tail
      have hsign:=HOPS.out.2.2 t.t (by simpa using hcon)
      have hop256:=opOf_lt t.t
      have HL:Hid ((t :: r1).length=r1.length+1):=rfl
      have HD:=Zai hd
      have HBD:=Zai hbind
      clear htk0 hn hgo hbind hcon
      go_wp2_with (first|(at_builtin;fail))
      refine htk.mono ?_
      rintro e9 w4 ⟨rfl,hd4,hg4⟩
      clear htk
      have hb5:=Zah (Zac w4 (.cells #[.int .u8 0,.string ⟨#[]⟩,.int .i64 0,.int .i64 0] 46)) (Nat.le_refl _) (Zae t).toArray
      have k8:Blk ((w4.alloc (.cells #[.int .u8 0,.string ⟨#[]⟩,.int .i64 0,.int .i64 0] 46)).setRow w4.heap.size (Zae t).toArray) w4.heap.size (Zae t) 46:=(Blk.new w4 (Zae Zan) 46).vrow _
      have k65:=(k6.grown hg4 (by omega)).below hb5
      have k75:=(k7.grown hg4 (by omega)).below hb5
      have hd5:=hd4.below hb5
      have hg5:=(hg.trans hg4).trans (Zad hb5 (some p))
      have hv5:=(hv.up hg4 (fun b hb=>by have:=hb.1;omega)).up (Zad hb5 (some p)) (fun b hb=>by have:=hb.1;omega)
      have hlt8:p7 < w4.heap.size:=(k7.grown hg4 (by omega)).lt
      go_upto_region 5 with (first
       | (at_builtin;fail)
       | refine wpList_store_row rfl 46 _ _ rfl _ (Zae t).toArray rfl rfl 46 (Zae Zan).toArray (Blk.new w4 (Zae Zan) 46) (kT4 rfl) rfl (Zay _) ?_)
      obtain ⟨p8,hp8⟩:=Zaf w4.heap.size
      obtain ⟨w5,hw5n⟩:=Zaf ((w4.alloc (.cells #[.int .u8 0,.string ⟨#[]⟩,.int .i64 0,.int .i64 0] 46)).setRow w4.heap.size (Zae t).toArray)
      rw[←hw5n.out]at k8 k65 k75 hd5 hg5 hv5 ⊢
      rw[←hp8.out]at k8 hlt8 ⊢
      have hlt5:=k8.lt
      clear hw5n hp8 hb5 hd4 hg4 k6 k7 hd hg hv hw
      obtain ⟨o1,n1,s1,t1,A1,a1,c1,B1,b1,d1,hre0,-⟩:=Zbu hv5
      have hre:=Zai hre0
      clear hre0
      rcases Zbp HBD.out with ⟨e0,h1,hq⟩|⟨e2,r2,h1,hnext⟩
      · have hone:∀ (u:World),Zbg u p r1→Env w0 p u→Calls Tryz.prog F #[.pointer (some ⟨p,0,none⟩)] u fun e w'=>u.grownBy w' (some p)∧Zbg w' p e0∧e=.panicked Zgu:=fun u a b=>hF f1 hf1 p w0 u r1 (.error e0) a hok1 b h1
        refine Zcz (fun ex u=>ex=.panic Zgu∧y=.error e0∧w.grownBy u (some p)∧Zbg u p e0) (by
         rintro ex b u hb ⟨rfl,h1,h2,h3⟩
         refine ⟨hb,?_⟩
         rw[h1]
         exact ⟨h2,h3,rfl⟩) (fun L _ u=>w.grownBy u (some p)∧Zbg u p r1∧Blk u p8 (Zae t) 46∧Blk u p7 re 26) (fun _ _ _=>True) _ (by kernel_rfl) (by kernel_rfl) (fun v=>by simp only[Zbx,Act.put,List.toList_toArray,Zl2,Zl0,Zl1,Nat.reduceAdd,Nat.zero_add];rfl) ⟨hg5.trans (Zad (Zaj (Below.refl _ _)) _),hd5,k8,k75⟩ (fun _ _ _ _ _ h=>h) ?_
        refine Zat [] _ (fun L hL hcl v u hS hd K' hK=>by
         simp only[Act.put,Zl2,Zl0,Zl1]at hK
         go_simp
         exact hK.out _ ⟨hS,trivial⟩) (by kernel_rfl) (j:=1) rfl ?_
        refine Zat [0] _ (fun L hL hcl v u hS hd K' hK=>by
         simp only[Zal,Zak,eqv,Zl3,Zl4,Nat.reduceSub]at hd
         simp only[Act.put,Zl2,Zl0,Zl1]at hK
         try simp only[hd]at hK
         have c1:u.cell? ⟨p8,1,none⟩=some (.string (str t.t)):=hS.2.2.1.cell 1
         go_simp
         exact hK.out _ ⟨hS,trivial⟩) (by kernel_rfl) (j:=2) rfl ?_
        refine Zat [1] _ (fun L hL hcl v u hS hd K' hK=>by
         simp only[Zal,Zak,eqv,Zl3,Zl4,Nat.reduceSub]at hd
         simp only[Act.put,Zl2,Zl0,Zl1]at hK
         try simp only[hd]at hK
         go_simp
         refine (Zkj t.t hsign u (hE.step hS.1).tbs).mono ?_
         rintro e9 u1 ⟨rfl,hb9⟩
         have hg9:=Zad hb9 (some p)
         exact hK.out _ ⟨⟨hS.1.trans hg9,hS.2.1.below hb9,hS.2.2.1.below hb9,hS.2.2.2.below hb9⟩,trivial⟩) (by kernel_rfl) (j:=3) rfl ?_
        refine Zat [] _ (fun L hL hcl v u hS hd K' hK=>by
         simp only[Act.put,Zl2,Zl0,Zl1]at hK
         have k7:=hS.2.2.2
         rw[hre.out]at k7
         have q0:u.cell? ⟨p7,0,none⟩=some (.int .u8 (o1:Int)):=k7.cell 0
         have q1:u.cell? ⟨p7,1,none⟩=some (.int .i64 n1):=k7.cell 1
         have q2:u.cell? ⟨p7,2,none⟩=some (.string s1):=k7.cell 2
         have q3:u.cell? ⟨p7,3,none⟩=some (.string t1):=k7.cell 3
         have q4:u.cell? ⟨p7,4,none⟩=some (.slice A1 a1 c1):=k7.cell 4
         have q5:u.cell? ⟨p7,5,none⟩=some (.slice B1 b1 d1):=k7.cell 5
         go_simp
         exact hK.out _ ⟨hS,trivial⟩) (by kernel_rfl) (j:=4) rfl ?_
        refine Zat [] _ (fun L hL hcl v u hS hd K' hK=>by
         simp only[Act.put,Zl2,Zl0,Zl1]at hK
         go_simp
         exact hK.out _ ⟨hS,trivial⟩) (by kernel_rfl) (j:=5) rfl ?_
        refine Zar [4] (fun _ _=>False) ((fun _ _ _ _ _ _ h=>h)) (fun L hL hcl v u hS hd K' hK=>by
         simp only[Zal,Zak,eqv,Zl3,Zl4,Nat.reduceSub]at hd
         simp only[Act.put,Zl2,Zl0,Zl1]at hK
         try simp only[hd]at hK
         go_simp
         refine (hone u hS.2.1 (hE.step hS.1)).mono ?_
         rintro e9 u1 ⟨hg9,hd9,rfl⟩
         first|exact ⟨rfl,hq,hS.1.trans hg9,hd9⟩|exact ⟨rfl,hS.1.trans hg9,hd9⟩|exact ⟨hS.1.trans hg9,hd9⟩) (by kernel_rfl) (j:=6) rfl ?_
        refine Zar [3,5] (fun _ _=>False) ((fun _ _ _ _ _ _ h=>h)) (fun L hL hcl v u hS hd K' hK=>by
         simp only[Zal,Zak,eqv,Zl3,Zl4,Nat.reduceSub]at hd
         try exact hd.2.elim) (by kernel_rfl) (j:=7) rfl ?_
        refine Zar [2,6] (fun _ _=>False) ((fun _ _ _ _ _ _ h=>h)) (fun L hL hcl v u hS hd K' hK=>by
         simp only[Zal,Zak,eqv,Zl3,Zl4,Nat.reduceSub]at hd
         try exact hd.2.elim) (by kernel_rfl) (j:=8) rfl ?_
        refine Zar [7] (fun _ _=>False) ((fun _ _ _ _ _ _ h=>h)) (fun L hL hcl v u hS hd K' hK=>by
         simp only[Zal,Zak,eqv,Zl3,Zl4,Nat.reduceSub]at hd
         try exact hd.elim) (by kernel_rfl) (j:=9) rfl ?_
        refine Zee [8] (by decide) ?_
        rintro v u hS hR
        simp only[Zal,Zak,eqv,Zl3,Zl4,Nat.reduceSub]at hR
        try exact hR.elim
      · have hone:∀ (u:World),Zbg u p r1→Env w0 p u→Calls Tryz.prog F #[.pointer (some ⟨p,0,none⟩)] u fun e w'=>u.grownBy w' (some p)∧Zbg w' p r2∧∃ v,e=.returned v∧ExV u.heap.size e2 w' v:=fun u a b=>hF f1 hf1 p w0 u r1 (.ok (e2,r2)) a hok1 b h1
        have hok2:=hok1.sfx (Zmx f1 _ _ _ h1).1
        have hl2:=(Zmx f1 _ _ _ h1).2
        replace hl2:r2.length+1≤r1.length:=hl2
        have hS0:w.grownBy w5.drew (some p)∧w5.heap.size≤w5.drew.heap.size∧Blk w5.drew p6 Zag 26∧Zbg w5.drew p (if (fun _:Nat=>false) 5 then r2 else r1)∧EAt w5.drew (Up w5.drew (fun b=>p6 < b∧b ≠ p7)) e re∧Blk w5.drew p8 (Zae t) 46∧((fun _:Nat=>false) 8=false→Blk w5.drew p7 re 26):=⟨hg5.trans (Zad (Zaj (Below.refl _ _)) _),Nat.le_refl _,k65,hd5,hv5.up (Zad (Zaj (Below.refl _ _)) (some p)) (fun b hb=>by have:=hb.1;omega),k8,fun _=>k75⟩
        clear hg5 k65 hd5 hv5 k8 k75 HBD h1
        refine Zap (fun L _ u=>w.grownBy u (some p)∧w5.heap.size≤u.heap.size∧Blk u p6 Zag 26∧Zbg u p (if L 5 then r2 else r1)∧EAt u (Up u (fun b=>p6 < b∧b ≠ p7)) e re∧Blk u p8 (Zae t) 46∧(L 8=false→Blk u p7 re 26)) (fun i u u'=>(i ≠ 8→u.grownBy u' (some p))∧(i=8→u.grownBy u' (some p7))) _ (by kernel_rfl) (by kernel_rfl) (fun v=>by simp only[Zbx,Act.put,List.toList_toArray,Zl2,Zl0,Zl1,Nat.reduceAdd,Nat.zero_add];rfl) hS0 (fun L L' v u hL h=>by rw[←hL 5 (by decide),←hL 8 (by decide)];exact h) ?_
        refine Zaa [] _ (fun L hL hcl v u hS hd K' hK=>by
         simp only[Act.put,Zl2,Zl0,Zl1]at hK
         go_simp
         exact hK.out _ ⟨⟨hS.1,hS.2.1,hS.2.2.1,by simpa using hS.2.2.2.1,hS.2.2.2.2.1,hS.2.2.2.2.2.1,fun h=>hS.2.2.2.2.2.2 (by simpa using h)⟩,⟨fun _=>Zab _ _,fun h=>by cases h⟩⟩) (by kernel_rfl) (j:=1) rfl ?_
        refine Zaa [0] _ (fun L hL hcl v u hS hd K' hK=>by
         simp only[Zal,Zak,eqv,Zl3,Zl4,Nat.reduceSub]at hd
         simp only[Act.put,Zl2,Zl0,Zl1]at hK
         try simp only[hd]at hK
         have c1:u.cell? ⟨p8,1,none⟩=some (.string (str t.t)):=hS.2.2.2.2.2.1.cell 1
         go_simp
         exact hK.out _ ⟨⟨hS.1,hS.2.1,hS.2.2.1,by simpa using hS.2.2.2.1,hS.2.2.2.2.1,hS.2.2.2.2.2.1,fun h=>hS.2.2.2.2.2.2 (by simpa using h)⟩,⟨fun _=>Zab _ _,fun h=>by cases h⟩⟩) (by kernel_rfl) (j:=2) rfl ?_
        refine Zaa [1] _ (fun L hL hcl v u hS hd K' hK=>by
         simp only[Zal,Zak,eqv,Zl3,Zl4,Nat.reduceSub]at hd
         simp only[Act.put,Zl2,Zl0,Zl1]at hK
         try simp only[hd]at hK
         go_simp
         refine (Zkj t.t hsign u (hE.step hS.1).tbs).mono ?_
         rintro e9 u1 ⟨rfl,hb9⟩
         have hg9:=Zad hb9 (some p)
         exact hK.out _ ⟨⟨hS.1.trans hg9,Nat.le_trans hS.2.1 hg9.size,hS.2.2.1.grown hg9 (by omega),by simpa using hS.2.2.2.1.below hb9,hS.2.2.2.2.1.up hg9 (fun b hb=>by have:=hb.1;omega),hS.2.2.2.2.2.1.grown hg9 (by omega),fun h=>(hS.2.2.2.2.2.2 (by simpa using h)).grown hg9 (by omega)⟩,⟨fun _=>hg9,fun h=>by cases h⟩⟩) (by kernel_rfl) (j:=3) rfl ?_
        refine Zaa [] _ (fun L hL hcl v u hS hd K' hK=>by
         simp only[Act.put,Zl2,Zl0,Zl1]at hK
         have h8:L 8=false:=by
          cases hq:L 8 with
          | false=>rfl
          | true=>have:=hcl 8 3 hq (by kernel_rfl);rw[hL]at this;cases this
         have k7:=hS.2.2.2.2.2.2 h8
         rw[hre.out]at k7
         have q0:u.cell? ⟨p7,0,none⟩=some (.int .u8 (o1:Int)):=k7.cell 0
         have q1:u.cell? ⟨p7,1,none⟩=some (.int .i64 n1):=k7.cell 1
         have q2:u.cell? ⟨p7,2,none⟩=some (.string s1):=k7.cell 2
         have q3:u.cell? ⟨p7,3,none⟩=some (.string t1):=k7.cell 3
         have q4:u.cell? ⟨p7,4,none⟩=some (.slice A1 a1 c1):=k7.cell 4
         have q5:u.cell? ⟨p7,5,none⟩=some (.slice B1 b1 d1):=k7.cell 5
         go_simp
         exact hK.out _ ⟨⟨hS.1,hS.2.1,hS.2.2.1,by simpa using hS.2.2.2.1,hS.2.2.2.2.1,hS.2.2.2.2.2.1,fun h=>hS.2.2.2.2.2.2 (by simpa using h)⟩,⟨fun _=>Zab _ _,fun h=>by cases h⟩⟩) (by kernel_rfl) (j:=4) rfl ?_
        refine Zaa [] _ (fun L hL hcl v u hS hd K' hK=>by
         simp only[Act.put,Zl2,Zl0,Zl1]at hK
         go_simp
         exact hK.out _ ⟨⟨hS.1,hS.2.1,hS.2.2.1,by simpa using hS.2.2.2.1,hS.2.2.2.2.1,hS.2.2.2.2.2.1,fun h=>hS.2.2.2.2.2.2 (by simpa using h)⟩,⟨fun _=>Zab _ _,fun h=>by cases h⟩⟩) (by kernel_rfl) (j:=5) rfl ?_
        refine Zam [4] (fun v u=>∃ (o2:Nat) (n2:Int) (s2 t2:ByteArray) (A2:Option Addr) (a2 c2:Nat) (B2:Option Addr) (b2 d2:Nat),v=.agg #[.int .u8 (o2:Int),.int .i64 n2,.string s2,.string t2,.slice A2 a2 c2,.slice B2 b2 d2]∧EAt u (Up u (fun b=>w5.heap.size≤b)) e2 (Zav o2 n2 s2 t2 (.slice A2 a2 c2) (.slice B2 b2 d2))) ((by
         rintro j x u u' hj hg ⟨o2,n2,s2,t2,A2,a2,c2,B2,b2,d2,h1,h2⟩
         refine ⟨o2,n2,s2,t2,A2,a2,c2,B2,b2,d2,h1,?_⟩
         by_cases e:j=8
         · exact h2.up (hg.2 e) (fun b hb=>by omega)
         · exact h2.up (hg.1 e) (fun b hb=>by omega))) (fun L hL hcl v u hS hd K' hK=>by
         simp only[Zal,Zak,eqv,Zl3,Zl4,Nat.reduceSub]at hd
         simp only[Act.put,Zl2,Zl0,Zl1]at hK
         try simp only[hd]at hK
         go_simp
         refine (hone u (by have:=hS.2.2.2.1;rw[hL]at this;exact this) (hE.step hS.1)).mono ?_
         rintro e9 u1 ⟨hg9,hd9,v9,rfl,r9,rfl,hv9,-⟩
         obtain ⟨o2,n2,s2,t2,A2,a2,c2,B2,b2,d2,rfl,-⟩:=Zbu hv9
         exact hK.out _ _ ⟨⟨hS.1.trans hg9,Nat.le_trans hS.2.1 hg9.size,hS.2.2.1.grown hg9 (by omega),by simpa using hd9,hS.2.2.2.2.1.up hg9 (fun b hb=>by have:=hb.1;omega),hS.2.2.2.2.2.1.grown hg9 (by omega),fun h=>(hS.2.2.2.2.2.2 (by simpa using h)).grown hg9 (by omega)⟩,⟨fun _=>hg9,fun h=>by cases h⟩,o2,n2,s2,t2,A2,a2,c2,B2,b2,d2,rfl,hv9.imp (fun b hb=>⟨Nat.le_trans hS.2.1 hb.1,hb.2⟩)⟩) (by kernel_rfl) (j:=6) rfl ?_
        refine Zam [3,5] (fun v u=>∃ (g:Nat) (rb:List Value),v=.slice (some ⟨g,0,none⟩) 2 2∧w5.heap.size≤g∧Blk u g (re ++ rb) 26∧EAt u (Up u (fun b=>w5.heap.size≤b)) e2 rb) ((by
         rintro j x u u' hj hg ⟨g,rb,h1,h2,h3,h4⟩
         refine ⟨g,rb,h1,h2,?_⟩
         by_cases e:j=8
         · exact ⟨h3.grown (hg.2 e) (by omega),h4.up (hg.2 e) (fun b hb=>by omega)⟩
         · exact ⟨h3.grown (hg.1 e) (by omega),h4.up (hg.1 e) (fun b hb=>by omega)⟩)) (fun L hL hcl v u hS hd K' hK=>by
         simp only[Zal,Zak,eqv,Zl3,Zl4,Nat.reduceSub]at hd
         simp only[Act.put,Zl2,Zl0,Zl1]at hK
         try simp only[hd]at hK
         obtain ⟨h0,o2,n2,s2,t2,A2,a2,c2,B2,b2,d2,h1,hv⟩:=hd
         simp only[h0,h1]at hK
         simp only[h0,h1]
         go_simp
         have hb9:=Zac u (.cells (re ++ Zav o2 n2 s2 t2 (.slice A2 a2 c2) (.slice B2 b2 d2)).toArray 26)
         have hg9:=Zad hb9 (some p)
         have k9:=Blk.new u (re ++ Zav o2 n2 s2 t2 (.slice A2 a2 c2) (.slice B2 b2 d2)) 26
         rw[hre.out]at hb9 hg9 k9
         have hh:=hK.out (.slice (some ⟨u.heap.size,0,none⟩) 2 2) _ ⟨⟨hS.1.trans hg9,Nat.le_trans hS.2.1 hg9.size,hS.2.2.1.grown hg9 (by omega),by simpa using hS.2.2.2.1.below hb9,hS.2.2.2.2.1.up hg9 (fun b hb=>by have:=hb.1;omega),hS.2.2.2.2.2.1.grown hg9 (by omega),fun h=>(hS.2.2.2.2.2.2 (by simpa using h)).grown hg9 (by omega)⟩,⟨fun _=>hg9,fun h=>by cases h⟩,u.heap.size,Zav o2 n2 s2 t2 (.slice A2 a2 c2) (.slice B2 b2 d2),rfl,hS.2.1,by rw[hre.out];exact k9,hv.up hg9 (fun b hb=>by omega)⟩
         exact hh) (by kernel_rfl) (j:=7) rfl ?_
        refine Zam [2,6] (fun v u=>∃ (g:Nat) (rb:List Value),v=.agg (Zav (Znt t.t) 0 ⟨#[]⟩ ⟨#[]⟩ (.slice none 0 0) (.slice (some ⟨g,0,none⟩) 2 2)).toArray∧w5.heap.size≤g∧Blk u g (re ++ rb) 26∧EAt u (Up u (fun b=>w5.heap.size≤b)) e2 rb) ((by
         rintro j x u u' hj hg ⟨g,rb,h1,h2,h3,h4⟩
         refine ⟨g,rb,h1,h2,?_⟩
         by_cases e:j=8
         · exact ⟨h3.grown (hg.2 e) (by omega),h4.up (hg.2 e) (fun b hb=>by omega)⟩
         · exact ⟨h3.grown (hg.1 e) (by omega),h4.up (hg.1 e) (fun b hb=>by omega)⟩)) (fun L hL hcl v u hS hd K' hK=>by
         simp only[Zal,Zak,eqv,Zl3,Zl4,Nat.reduceSub]at hd
         simp only[Act.put,Zl2,Zl0,Zl1]at hK
         try simp only[hd]at hK
         obtain ⟨h0,g,rb,h1,h2,h3,h4⟩:=hd
         simp only[h0,h1]at hK
         simp only[h0,h1]
         go_simp
         refine (Zjp (Znt t.t) (some ⟨g,0,none⟩) 2 2 u).mono ?_
         rintro e9 u1 ⟨rfl,hb9⟩
         have hg9:=Zad hb9 (some p)
         exact hK.out _ _ ⟨⟨hS.1.trans hg9,Nat.le_trans hS.2.1 hg9.size,hS.2.2.1.grown hg9 (by omega),by simpa using hS.2.2.2.1.below hb9,hS.2.2.2.2.1.up hg9 (fun b hb=>by have:=hb.1;omega),hS.2.2.2.2.2.1.grown hg9 (by omega),fun h=>(hS.2.2.2.2.2.2 (by simpa using h)).grown hg9 (by omega)⟩,⟨fun _=>hg9,fun h=>by cases h⟩,g,rb,rfl,h2,h3.below hb9,h4.up hg9 (fun b hb=>by omega)⟩) (by kernel_rfl) (j:=8) rfl ?_
        refine Zam [7] (fun _ u=>∃ (g:Nat) (rb:List Value),Blk u p7 (Zav (Znt t.t) 0 ⟨#[]⟩ ⟨#[]⟩ (.slice none 0 0) (.slice (some ⟨g,0,none⟩) 2 2)) 26∧w5.heap.size≤g∧Blk u g (re ++ rb) 26∧EAt u (Up u (fun b=>w5.heap.size≤b)) e2 rb) ((by
         rintro j x u u' hj hg ⟨g,rb,h1,h2,h3,h4⟩
         exact ⟨g,rb,h1.grown (hg.1 hj) (by omega),h2,h3.grown (hg.1 hj) (by omega),h4.up (hg.1 hj) (fun b hb=>by omega)⟩)) (fun L hL hcl v u hS hd K' hK=>by
         simp only[Zal,Zak,eqv,Zl3,Zl4,Nat.reduceSub]at hd
         obtain ⟨g,rb,h1,h2,h3,h4⟩:=hd
         have k7:=hS.2.2.2.2.2.2 hL
         refine Zbe rfl ?_
         refine wp_store_row 26 _ _ rfl _ (Zav (Znt t.t) 0 ⟨#[]⟩ ⟨#[]⟩ (.slice none 0 0) (.slice (some ⟨g,0,none⟩) 2 2)).toArray rfl h1 26 re.toArray k7 (kE6 rfl) (by rw[hre.out];rfl) (Zas Zcd) ?_
         have hgr:=Zbc u p7 (Zav (Znt t.t) 0 ⟨#[]⟩ ⟨#[]⟩ (.slice none 0 0) (.slice (some ⟨g,0,none⟩) 2 2)).toArray
         refine hK.out undef _ ⟨⟨Zaq hS.1 (by have:=HB2.out;omega) _,by rw[Zgn];exact hS.2.1,(hS.2.2.1).grown hgr (by omega),by simpa using (hS.2.2.2.1).row (show p < p7 by omega) _,(hS.2.2.2.2.1).up hgr (fun b hb=>hb.2),(hS.2.2.2.2.2.1).grown hgr (by omega),fun h=>by simp at h⟩,⟨fun h=>absurd rfl h,fun _=>hgr⟩,g,rb,k7.vrow _,h2,h3.grown hgr (by omega),h4.up hgr (fun b hb=>by omega)⟩) (by kernel_rfl) (j:=9) rfl ?_
        refine Zau [8] (by decide) ?_
        rintro v u hS hR
        simp only[Zal,Zak,eqv,Zl3,Zl4,Nat.reduceSub]at hR
        obtain ⟨g,rb,q1,q2,q3,q4⟩:=hR
        obtain ⟨z1,z2,z3,z4,z5,z6,-⟩:=hS
        replace z4:Zbg u p r2:=by simpa using z4
        clear hS0 hone
        go_wp2_with (first|(at_builtin;fail))
        go_roundw
        case rel=>
         have hlt:=q3.lt
         refine ⟨Zbk (Znt t.t) [e,e2],r2,_,hok2,⟨f1,by omega,hnext⟩,z1,z4,z3,q1,?_,?_⟩
         · refine Zfg (l:=[e,e2]) (rows:=[re,rb]) hop256 ⟨by omega,by omega⟩ (by decide) (by decide) (show 2 * 96≤Zbq by decide) (Nat.le_refl _) (by simpa using q3) ⟨⟨by omega,by omega⟩,hlt⟩ ?_
           exact Zmj z5 (q4.imp (fun b hb=>⟨⟨by have:=hb.1;omega,by have:=hb.1;omega⟩,hb.2⟩))
         · exact Zid q3 (by rw[hre.out,List.length_append,Zby q4];exact (by decide:2 * 6≤6+6))
        case measure=>
         rw[Zdn z4,Zdn HD.out]
         have:=HL.out
         omega
theorem Zkz (w:World) (o:Obj):(w.alloc o).heap.size=w.heap.size+1:=Array.size_push _
set_option maxRecDepth 100000 in
theorem rand_w (n:Nat) (hF:Zla 129 (.lv 2) n):Zla 99 (.lv 1) (n+1):=by
 intro f hf p w0 w ts y hr hok hE hy
 have hplt:=hr.lt
 have hb0:=Zac w (.cells Zag.toArray 26)
 have k0:=Blk.new w Zag 26
 have hb1:=Zac (w.alloc (.cells Zag.toArray 26)) (.cells #[.string ⟨#[38,38]⟩] 9)
 have hx:TxS ((w.alloc (.cells Zag.toArray 26)).alloc (.cells #[.string ⟨#[38,38]⟩] 9)) (some ⟨w.heap.size+1,0,none⟩) (Zej 1):=by
  have:=Zfi (w.alloc (.cells Zag.toArray 26)) [[38,38]]
  rw[Zkz]at this
  exact this
 obtain ⟨W,hW⟩:=Zaf ((w.alloc (.cells Zag.toArray 26)).alloc (.cells #[.string ⟨#[38,38]⟩] 9))
 have hWl:Hid (W=(w.alloc (.cells #[.int .u8 0,.int .i64 0,.string ⟨#[]⟩,.string ⟨#[]⟩,.slice none 0 0,.slice none 0 0] 26)).alloc (.cells #[.string ⟨#[38,38]⟩] 9)):=hW
 have hb:=hb0.trans (hb1.mono (by rw[Zkz];exact Nat.le_succ _))
 have k1:=k0.below hb1
 rw[←hW.out]at hx hb k1
 have hd:=hr.below hb
 have hrow:=Zzn 129 1 n (by decide) hF (fun _ _=>rfl) f hf p w0 W ts y hd hok (hE.step (Zad hb _)) hy _ 1 hx (by rintro a ⟨⟩;show w.heap.size+1 ≠ p;omega)
 have hsz:w.heap.size≤W.heap.size:=hb.size
 have HL:Hid (w.heap.size < W.heap.size):=Zai k1.lt
 have hrow2:Calls Tryz.prog 98 #[.pointer (some ⟨p,0,none⟩),.func (.func 129) #[.pointer (some ⟨p,0,none⟩)] #[],.slice (some ⟨w.heap.size+1,0,none⟩) 1 1] W fun e w'=>Zhk p W y (ExV W.heap.size) e w':=hrow
 clear hrow hx hb0 hb1 k0 hd hW hy
 go_enter Tryz.func99,Tryz.ntmps99
 go_wp2_with (first|(at_builtin;fail))
 try simp only[Zkz]
 rw[←hWl.out]
 refine hrow2.mono ?_
 clear hrow2 hWl
 rintro e9 w1 ⟨hg1,h1⟩
 have hg:=(Zad hb (some p)).trans hg1
 have k2:=k1.grown hg1 (by omega)
 cases y with
 | error e0=>
   obtain ⟨h2,rfl⟩:=h1
   exact ⟨rfl,hg,h2,rfl⟩
 | ok z=>
   obtain ⟨h2,v,rfl,r,rfl,hv,hw⟩:=h1
   have hlen:=Zby hv
   go_wp2_with (first
    | (at_builtin;fail)
    | refine wpList_store_row rfl 26 _ _ rfl _ r.toArray rfl rfl 26 Zag.toArray k2 (kE6 hlen) (zE6 hlen) (Zas (Zcy hv)) ?_)
   have hgr:=Zbc w1 w.heap.size r.toArray
   refine bodyPost_ret (Zfz rfl _ rfl (k2.vrow r) hlen) rfl ?_
   refine ⟨Zaq hg (Nat.le_refl _) _,h2.row hplt _,_,rfl,r,rfl,?_,hw.grown hv hgr (fun b hb=>by have:W.heap.size≤b:=hb.1;have:=HL.out;omega)⟩
   exact (EAt.up (Q:=fun b=>W.heap.size≤b) hv hgr (fun b hb=>by have:W.heap.size≤b:=hb;have:=HL.out;omega)).imp (fun b hb=>⟨Nat.le_trans hsz hb.1,hb.2⟩)
set_option maxRecDepth 100000 in
theorem rsum_w (n:Nat) (hF:Zla 169 (.lv 4) n):Zla 150 (.lv 3) (n+1):=by
 intro f hf p w0 w ts y hr hok hE hy
 have hplt:=hr.lt
 have hb0:=Zac w (.cells Zag.toArray 26)
 have k0:=Blk.new w Zag 26
 have hb1:=Zac (w.alloc (.cells Zag.toArray 26)) (.cells #[.string ⟨#[43]⟩,.string ⟨#[45]⟩] 9)
 have hx:TxS ((w.alloc (.cells Zag.toArray 26)).alloc (.cells #[.string ⟨#[43]⟩,.string ⟨#[45]⟩] 9)) (some ⟨w.heap.size+1,0,none⟩) (Zej 3):=by
  have:=Zfi (w.alloc (.cells Zag.toArray 26)) [[43],[45]]
  rw[Zkz]at this
  exact this
 obtain ⟨W,hW⟩:=Zaf ((w.alloc (.cells Zag.toArray 26)).alloc (.cells #[.string ⟨#[43]⟩,.string ⟨#[45]⟩] 9))
 have hWl:Hid (W=(w.alloc (.cells #[.int .u8 0,.int .i64 0,.string ⟨#[]⟩,.string ⟨#[]⟩,.slice none 0 0,.slice none 0 0] 26)).alloc (.cells #[.string ⟨#[43]⟩,.string ⟨#[45]⟩] 9)):=hW
 have hb:=hb0.trans (hb1.mono (by rw[Zkz];exact Nat.le_succ _))
 have k1:=k0.below hb1
 rw[←hW.out]at hx hb k1
 have hd:=hr.below hb
 have hrow:=Zzn 169 3 n (by decide) hF (fun _ _=>rfl) f hf p w0 W ts y hd hok (hE.step (Zad hb _)) hy _ 2 hx (by rintro a ⟨⟩;show w.heap.size+1 ≠ p;omega)
 have hsz:w.heap.size≤W.heap.size:=hb.size
 have HL:Hid (w.heap.size < W.heap.size):=Zai k1.lt
 have hrow2:Calls Tryz.prog 98 #[.pointer (some ⟨p,0,none⟩),.func (.func 169) #[.pointer (some ⟨p,0,none⟩)] #[],.slice (some ⟨w.heap.size+1,0,none⟩) 2 2] W fun e w'=>Zhk p W y (ExV W.heap.size) e w':=hrow
 clear hrow hx hb0 hb1 k0 hd hW hy
 go_enter Tryz.func150,Tryz.ntmps150
 go_wp2_with (first|(at_builtin;fail))
 try simp only[Zkz]
 rw[←hWl.out]
 refine hrow2.mono ?_
 clear hrow2 hWl
 rintro e9 w1 ⟨hg1,h1⟩
 have hg:=(Zad hb (some p)).trans hg1
 have k2:=k1.grown hg1 (by omega)
 cases y with
 | error e0=>
   obtain ⟨h2,rfl⟩:=h1
   exact ⟨rfl,hg,h2,rfl⟩
 | ok z=>
   obtain ⟨h2,v,rfl,r,rfl,hv,hw⟩:=h1
   have hlen:=Zby hv
   go_wp2_with (first
    | (at_builtin;fail)
    | refine wpList_store_row rfl 26 _ _ rfl _ r.toArray rfl rfl 26 Zag.toArray k2 (kE6 hlen) (zE6 hlen) (Zas (Zcy hv)) ?_)
   have hgr:=Zbc w1 w.heap.size r.toArray
   refine bodyPost_ret (Zfz rfl _ rfl (k2.vrow r) hlen) rfl ?_
   refine ⟨Zaq hg (Nat.le_refl _) _,h2.row hplt _,_,rfl,r,rfl,?_,hw.grown hv hgr (fun b hb=>by have:W.heap.size≤b:=hb.1;have:=HL.out;omega)⟩
   exact (EAt.up (Q:=fun b=>W.heap.size≤b) hv hgr (fun b hb=>by have:W.heap.size≤b:=hb;have:=HL.out;omega)).imp (fun b hb=>⟨Nat.le_trans hsz hb.1,hb.2⟩)
set_option maxRecDepth 100000 in
theorem rproduct_w (n:Nat) (hF:Zla 191 (.lv 5) n):Zla 169 (.lv 4) (n+1):=by
 intro f hf p w0 w ts y hr hok hE hy
 have hplt:=hr.lt
 have hb0:=Zac w (.cells Zag.toArray 26)
 have k0:=Blk.new w Zag 26
 have hb1:=Zac (w.alloc (.cells Zag.toArray 26)) (.cells #[.string ⟨#[42]⟩] 9)
 have hx:TxS ((w.alloc (.cells Zag.toArray 26)).alloc (.cells #[.string ⟨#[42]⟩] 9)) (some ⟨w.heap.size+1,0,none⟩) (Zej 4):=by
  have:=Zfi (w.alloc (.cells Zag.toArray 26)) [[42]]
  rw[Zkz]at this
  exact this
 obtain ⟨W,hW⟩:=Zaf ((w.alloc (.cells Zag.toArray 26)).alloc (.cells #[.string ⟨#[42]⟩] 9))
 have hWl:Hid (W=(w.alloc (.cells #[.int .u8 0,.int .i64 0,.string ⟨#[]⟩,.string ⟨#[]⟩,.slice none 0 0,.slice none 0 0] 26)).alloc (.cells #[.string ⟨#[42]⟩] 9)):=hW
 have hb:=hb0.trans (hb1.mono (by rw[Zkz];exact Nat.le_succ _))
 have k1:=k0.below hb1
 rw[←hW.out]at hx hb k1
 have hd:=hr.below hb
 have hrow:=Zzn 191 4 n (by decide) hF (fun _ _=>rfl) f hf p w0 W ts y hd hok (hE.step (Zad hb _)) hy _ 1 hx (by rintro a ⟨⟩;show w.heap.size+1 ≠ p;omega)
 have hsz:w.heap.size≤W.heap.size:=hb.size
 have HL:Hid (w.heap.size < W.heap.size):=Zai k1.lt
 have hrow2:Calls Tryz.prog 98 #[.pointer (some ⟨p,0,none⟩),.func (.func 191) #[.pointer (some ⟨p,0,none⟩)] #[],.slice (some ⟨w.heap.size+1,0,none⟩) 1 1] W fun e w'=>Zhk p W y (ExV W.heap.size) e w':=hrow
 clear hrow hx hb0 hb1 k0 hd hW hy
 go_enter Tryz.func169,Tryz.ntmps169
 go_wp2_with (first|(at_builtin;fail))
 try simp only[Zkz]
 rw[←hWl.out]
 refine hrow2.mono ?_
 clear hrow2 hWl
 rintro e9 w1 ⟨hg1,h1⟩
 have hg:=(Zad hb (some p)).trans hg1
 have k2:=k1.grown hg1 (by omega)
 cases y with
 | error e0=>
   obtain ⟨h2,rfl⟩:=h1
   exact ⟨rfl,hg,h2,rfl⟩
 | ok z=>
   obtain ⟨h2,v,rfl,r,rfl,hv,hw⟩:=h1
   have hlen:=Zby hv
   go_wp2_with (first
    | (at_builtin;fail)
    | refine wpList_store_row rfl 26 _ _ rfl _ r.toArray rfl rfl 26 Zag.toArray k2 (kE6 hlen) (zE6 hlen) (Zas (Zcy hv)) ?_)
   have hgr:=Zbc w1 w.heap.size r.toArray
   refine bodyPost_ret (Zfz rfl _ rfl (k2.vrow r) hlen) rfl ?_
   refine ⟨Zaq hg (Nat.le_refl _) _,h2.row hplt _,_,rfl,r,rfl,?_,hw.grown hv hgr (fun b hb=>by have:W.heap.size≤b:=hb.1;have:=HL.out;omega)⟩
   exact (EAt.up (Q:=fun b=>W.heap.size≤b) hv hgr (fun b hb=>by have:W.heap.size≤b:=hb;have:=HL.out;omega)).imp (fun b hb=>⟨Nat.le_trans hsz hb.1,hb.2⟩)
def blk (j:Nat) (t:Tok):Bool:=
 isS t [91] || isS t [46] || isS t [40] || (decide (j≤4) && (decide (t.k=4) && (Zej 4).contains t.t)) || (decide (j≤3) && (decide (t.k=4) && (Zej 3).contains t.t)) ||
 (decide (j≤2) && ((decide (t.k=4) && Zgw.contains t.t) || isW t wIn || isW t Zjt || isW t wIs || isW t Zel)) || (decide (j≤1) && (decide (t.k=4) && (Zej 1).contains t.t)) || (decide (j≤0) && (decide (t.k=4) && (Zej 0).contains t.t))
def Off (j:Nat) (r:List Tok):Prop:=∀ t r',r=t :: r'→blk j t=false
theorem Off.cons {j:Nat} {t:Tok} {r:List Tok} (h:blk j t=false):Off j (t :: r):=fun _ _ e=>by cases e;exact h
theorem Off.up {i j:Nat} {r:List Tok} (h:Off i r) (hij:i≤j):Off j r:=fun t r' e=>by
 have:=h t r' e
 unfold blk at this ⊢
 simp only[Bool.or_eq_false_iff,Bool.and_eq_false_iff,decide_eq_false_iff_not]at this ⊢
 obtain ⟨⟨⟨⟨⟨⟨⟨a,b⟩,c⟩,d4⟩,d3⟩,d2⟩,d1⟩,d0⟩:=this
 refine ⟨⟨⟨⟨⟨⟨⟨a,b⟩,c⟩,?_⟩,?_⟩,?_⟩,?_⟩,?_⟩
 · rcases d4 with h|h
   · exact .inl (by omega)
   · exact .inr h
 · rcases d3 with h|h
   · exact .inl (by omega)
   · exact .inr h
 · rcases d2 with h|h
   · exact .inl (by omega)
   · exact .inr h
 · rcases d1 with h|h
   · exact .inl (by omega)
   · exact .inr h
 · rcases d0 with h|h
   · exact .inl (by omega)
   · exact .inr h
theorem off_mem {j:Nat} {t:Tok} {r:List Tok} (h:Off j (t :: r)):isS t [91]=false∧isS t [46]=false∧isS t [40]=false:=by
 have:=h t r rfl
 unfold blk at this
 simp only[Bool.or_eq_false_iff]at this
 exact ⟨this.1.1.1.1.1.1.1,this.1.1.1.1.1.1.2,this.1.1.1.1.1.2⟩
theorem off_row {j k:Nat} {t:Tok} {r:List Tok} (h:Off j (t :: r)) (hj:j≤k) (hk:k=0∨k=1∨k=3∨k=4):(decide (t.k=4) && (Zej k).contains t.t)=false:=by
 have:=(h.up hj) t r rfl
 unfold blk at this
 rcases hk with rfl|rfl|rfl|rfl
 all_goals
  simp only[Bool.or_eq_false_iff]at this
  first
  | exact (by simpa using this.2)
  | exact (by simpa using this.1.2)
  | exact (by simpa using this.1.1.1.2)
  | exact (by simpa using this.1.1.1.1.2)
theorem off_rel {j:Nat} {t:Tok} {r:List Tok} (h:Off j (t :: r)) (hj:j≤2):(decide (t.k=4) && Zgw.contains t.t)=false∧isW t wIn=false∧isW t Zjt=false∧isW t wIs=false∧isW t Zel=false:=by
 have:=(h.up hj) t r rfl
 unfold blk at this
 simp only[Bool.or_eq_false_iff]at this
 have h2:=this.1.1.2
 simp only[Nat.le_refl,decide_true,Bool.true_and,Bool.or_eq_false_iff]at h2
 exact ⟨h2.1.1.1.1,h2.1.1.1.2,h2.1.1.2,h2.1.2,h2.2⟩
def Rd0 (nt:NT) (ts:List Tok) (e:Et) (r:List Tok):Prop:=∃ f,pr f nt ts=some (.ok (e,r))
theorem Rd0.le {nt:NT} {ts:List Tok} {y:Zcs Et} {f g:Nat} (h:pr f nt ts=some y) (hg:f≤g):pr g nt ts=some y:=pr_le hg nt ts _ h
theorem up_row {k:Nat} {ts r:List Tok} {e:Et} (hk:k=0∨k=1∨k=3∨k=4) (h:Rd0 (.lv (k+1)) ts e r) (ho:Off k r):Rd0 (.lv k) ts e r:=by
 obtain ⟨f,h⟩:=h
 refine ⟨f+2,?_⟩
 show Zbj (pr (f+1)) (.lv k) ts=_
 rw[Zlu k (by omega) (by omega) (by omega) (by omega),Zaw (Rd0.le h (Nat.le_succ f))]
 show Zbj (pr f) (.rowT k e) r=_
 cases r with
 | nil=>rfl
 | cons t r=>
   rw[Zgv,if_neg (by rw[off_row ho (Nat.le_refl _) hk];decide)]
   rfl
theorem up_rel {ts r:List Tok} {e:Et} (h:Rd0 (.lv 3) ts e r) (ho:Off 2 r):Rd0 (.lv 2) ts e r:=by
 obtain ⟨f,h⟩:=h
 refine ⟨f+1,?_⟩
 show Zbj (pr f) (.lv 2) ts=_
 rw[Zip,Zaw h]
 cases r with
 | nil=>rfl
 | cons t r=>
   obtain ⟨h1,h2,h3,h4,h5⟩:=off_rel ho (Nat.le_refl _)
   simp only[Zsj]
   rw[if_neg (by rw[h1];decide),if_neg (by rw[h2];decide),if_neg (by rw[h3];decide),if_neg (by rw[h4];decide),if_neg (by rw[h5];decide)]
   rfl
theorem Znp {i j:Nat} {ts r:List Tok} {e:Et} (hj:j≤5) (hij:i≤j) (h:Rd0 (.lv j) ts e r) (ho:Off i r):Rd0 (.lv i) ts e r:=by
 obtain ⟨d,rfl⟩:∃ d,j=i+d:=⟨j - i,by omega⟩
 clear hij
 induction d with
 | zero=>exact h
 | succ d ih=>
   refine ih (by omega) ?_
   have ho':Off (i+d) r:=ho.up (by omega)
   by_cases h2:i+d=2
   · rw[h2]
     rw[h2]at ho'
     exact up_rel (by rw[show i+(d+1)=3 by omega]at h;exact h) ho'
   · exact up_row (by omega) h ho'
theorem up_expr {t:Tok} {ts r:List Tok} {e:Et} (h:Rd0 (.lv 0) (t :: ts) e r) (hi:isW t wIf=false):Rd0 .expr (t :: ts) e r:=by
 obtain ⟨f,h⟩:=h
 refine ⟨f+1,?_⟩
 show Zbj (pr f) .expr (t :: ts)=_
 rw[Zhq,if_neg (by rw[hi];decide)]
 exact h
theorem up_un {t:Tok} {ts r:List Tok} {e:Et} (h:Rd0 (.lv 6) (t :: ts) e r) (h1:isS t [33]=false) (h2:isS t [45]=false):Rd0 (.lv 5) (t :: ts) e r:=by
 obtain ⟨f,h⟩:=h
 refine ⟨f+1,?_⟩
 show Zbj (pr f) (.lv 5) (t :: ts)=_
 rw[Zqj,if_neg (by rw[h1];decide),if_neg (by rw[h2];decide)]
 exact h
def Go6 (ts:List Tok) (e:Et) (r:List Tok):Prop:=∀ y r2,Rd0 (.memT e) r y r2→Rd0 (.lv 6) ts y r2
theorem Zgi {ts r:List Tok} {e:Et} (h:Rd0 (.lv 7) ts e r):Go6 ts e r:=by
 rintro y r2 ⟨g,hg⟩
 obtain ⟨f,h⟩:=h
 refine ⟨max f g+1,?_⟩
 show Zbj (pr (max f g)) (.lv 6) ts=_
 rw[Zuf,Zaw (Rd0.le h (Nat.le_max_left f g))]
 exact Rd0.le hg (Nat.le_max_right f g)
theorem mem_end {e:Et} {r:List Tok} (ho:Off 5 r):Rd0 (.memT e) r e r:=by
 refine ⟨1,?_⟩
 show Zbj (pr 0) (.memT e) r=_
 cases r with
 | nil=>rfl
 | cons t r=>
   obtain ⟨h1,h2,h3⟩:=off_mem ho
   rw[Zgd,if_neg (by rw[h1];decide),if_neg (by rw[h2];decide)]
   rfl
theorem isS_tS (a b:List UInt8):isS (tS a) b=(a == b):=rfl
theorem isW_tW (a b:List UInt8):isW (tW a) b=(a == b):=rfl
theorem isS_tW (a b:List UInt8):isS (tW a) b=false:=rfl
theorem Zji (a:List UInt8) (r:List Tok):Zbr a (tS a :: r)=.ok ((),r):=by simp only[Zbr,isS_tS,beq_self_eq_true,if_true]
theorem Zyt (a:List UInt8) (r:List Tok):Zhy a (tW a :: r)=.ok ((),r):=by simp only[Zhy,isW_tW,beq_self_eq_true,if_true]
theorem Zjl {a:List UInt8} (h:Zcu a=true) (r:List Tok):Zcj (tW a :: r)=.ok (a,r):=by unfold Zcj;exact if_pos ⟨rfl,h⟩
theorem Zsa (a:List UInt8) (r:List Tok):Zdg (tQ a :: r)=.ok (a,r):=by unfold Zdg;exact if_pos rfl
theorem textP_tW (a:List UInt8) (r:List Tok):Zdg (tW a :: r)=.error (tW a :: r):=rfl
theorem Zps (a:List UInt8) (r:List Tok):Zda (Znw a :: r)=.ok (a,r):=by
 unfold Znw
 by_cases h:Zcu a=true
 · rw[if_pos h]
   simp only[Zda]
   exact Zjl h r
 · rw[if_neg h]
   simp only[Zda]
   exact if_pos rfl
theorem par7 {X r:List Tok} {e:Et} (h:Rd0 .expr (X ++ tS [41] :: r) e (tS [41] :: r)):Rd0 (.lv 7) (tS [40] :: (X ++ tS [41] :: r)) e r:=by
 obtain ⟨f,h⟩:=h
 refine ⟨f+1,?_⟩
 show Zbj (pr f) (.lv 7) _=_
 rw[Zfr,if_neg (by decide),if_neg (by decide),if_neg (by decide),if_neg (by decide),if_neg (by decide),if_pos (by decide),Zaw h,Zbb (Zji _ _)]
 rfl
theorem row_op {k:Nat} {s:List UInt8} {X Y r:List Tok} {a b:Et} (hk:k=0∨k=1∨k=3∨k=4) (hs:(Zej k).contains s=true) (ha:Rd0 (.lv (k+1)) (X ++ tS s :: (Y ++ r)) a (tS s :: (Y ++ r))) (hb:Rd0 (.lv (k+1)) (Y ++ r) b r) (ho:Off k r) :
 Rd0 (.lv k) (X ++ tS s :: (Y ++ r)) (Zbk (Znt s) [a,b]) r:=by
 obtain ⟨f,h⟩:=ha
 obtain ⟨g,hg⟩:=hb
 refine ⟨max f g+3,?_⟩
 show Zbj (pr (max f g+2)) (.lv k) _=_
 rw[Zlu k (by omega) (by omega) (by omega) (by omega),Zaw (Rd0.le h (by omega))]
 show Zbj (pr (max f g+1)) (.rowT k a) _=_
 rw[Zgv,if_pos (by rw[show (tS s).t=s from rfl,hs];rfl),Zaw (Rd0.le hg (by omega))]
 show Zbj (pr (max f g)) (.rowT k _) r=_
 cases r with
 | nil=>rfl
 | cons t r=>
   rw[Zgv,if_neg (by rw[off_row ho (Nat.le_refl _) hk];decide)]
   rfl
theorem rel_op {s:List UInt8} {X Y r:List Tok} {a b:Et} (hs:Zgw.contains s=true) (ha:Rd0 (.lv 3) (X ++ tS s :: (Y ++ r)) a (tS s :: (Y ++ r))) (hb:Rd0 (.lv 3) (Y ++ r) b r) :
 Rd0 (.lv 2) (X ++ tS s :: (Y ++ r)) (Zbk (Znt s) [a,b]) r:=by
 obtain ⟨f,h⟩:=ha
 obtain ⟨g,hg⟩:=hb
 refine ⟨max f g+1,?_⟩
 show Zbj (pr (max f g)) (.lv 2) _=_
 rw[Zip,Zaw (Rd0.le h (by omega))]
 simp only[Zsj]
 rw[if_pos (by rw[show (tS s).t=s from rfl,hs];rfl),Zaw (Rd0.le hg (by omega))]
 rfl
theorem in_op {X Y r:List Tok} {a b:Et} (ha:Rd0 (.lv 3) (X ++ tW wIn :: (Y ++ r)) a (tW wIn :: (Y ++ r))) (hb:Rd0 (.lv 3) (Y ++ r) b r) :
 Rd0 (.lv 2) (X ++ tW wIn :: (Y ++ r)) (Zbk 23 [a,b]) r:=by
 obtain ⟨f,h⟩:=ha
 obtain ⟨g,hg⟩:=hb
 refine ⟨max f g+1,?_⟩
 show Zbj (pr (max f g)) (.lv 2) _=_
 rw[Zip,Zaw (Rd0.le h (by omega))]
 simp only[Zsj]
 rw[if_neg (by decide),if_pos (by decide),Zaw (Rd0.le hg (by omega))]
 rfl
theorem has_op {X r:List Tok} {s:List UInt8} {a:Et} (ha:Rd0 (.lv 3) (X ++ tW Zjt :: Znw s :: r) a (tW Zjt :: Znw s :: r)):Rd0 (.lv 2) (X ++ tW Zjt :: Znw s :: r) (.mk 9 0 (str s) noS [] [a]) r:=by
 obtain ⟨f,h⟩:=ha
 refine ⟨f+1,?_⟩
 show Zbj (pr f) (.lv 2) _=_
 rw[Zip,Zaw h]
 simp only[Zsj]
 rw[if_neg (by decide),if_neg (by decide),if_pos (by decide),Zbb (Zps _ _)]
 rfl
theorem like_op {X r:List Tok} {s:List UInt8} {a:Et} (ha:Rd0 (.lv 3) (X ++ tW Zel :: tQ s :: r) a (tW Zel :: tQ s :: r)):Rd0 (.lv 2) (X ++ tW Zel :: tQ s :: r) (.mk 11 0 (str s) noS [] [a]) r:=by
 obtain ⟨f,h⟩:=ha
 refine ⟨f+1,?_⟩
 show Zbj (pr f) (.lv 2) _=_
 rw[Zip,Zaw h]
 simp only[Zsj]
 rw[if_neg (by decide),if_neg (by decide),if_neg (by decide),if_neg (by decide),if_pos (by decide),Zbb (Zsa _ _)]
 rfl
theorem Zqv {r:List Tok} (hr:∀ t r',r=t :: r'→isS t [58,58]=false):∀ (ps:List (List UInt8)) (f:Nat) (acc:List UInt8),(∀ p ∈ ps,Zcu p=true)→(Zhc ps ++ r).length < f→Zfh f acc (Zhc ps ++ r)=.ok (Zlk acc ps,r)
 | [],0,acc,_,h=>by omega
 | [],f+1,acc,_,h=>by
   show Zfh (f+1) acc r=_
   unfold Zfh
   cases r with
   | nil=>rfl
   | cons t r=>
     have:=hr t r rfl
     simp only[Zbr]
     rw[if_neg (by rw[this];decide)]
     rfl
 | p :: ps,0,acc,_,h=>by omega
 | p :: ps,f+1,acc,hn,h=>by
   show Zfh (f+1) acc (tS [58,58] :: tW p :: (Zhc ps ++ r))=_
   unfold Zfh
   rw[Zji]
   simp only[]
   rw[Zjl (hn p (by simp))]
   simp only[]
   rw[Zqv hr ps f _ (fun q hq=>hn q (by simp[hq])) (by simp[Zhc]at h ⊢;omega)]
   rfl
theorem Zub (s:List UInt8) (r:List Tok):∀ (ps:List (List UInt8)) (f:Nat) (acc:List UInt8),(∀ p ∈ ps,Zcu p=true)→(Zhc ps ++ tS [58,58] :: tQ s :: r).length < f→Zlb f acc (Zhc ps ++ tS [58,58] :: tQ s :: r)=.ok ((Zlk acc ps,s),r)
 | _,0,acc,_,h=>by omega
 | [],f+1,acc,_,h=>by
   show Zlb (f+1) acc (tS [58,58] :: tQ s :: r)=_
   unfold Zlb
   rw[Zji]
   simp only[]
   rw[Zsa]
   rfl
 | p :: ps,f+1,acc,hn,h=>by
   show Zlb (f+1) acc (tS [58,58] :: tW p :: (Zhc ps ++ tS [58,58] :: tQ s :: r))=_
   unfold Zlb
   rw[Zji]
   simp only[]
   rw[textP_tW]
   simp only[]
   rw[Zjl (hn p (by simp))]
   simp only[]
   rw[Zub s r ps f _ (fun q hq=>hn q (by simp[hq])) (by simp[Zhc]at h ⊢;omega)]
   rfl
theorem Zlr {t:List UInt8} (h:Zhe t=true):∃ p ps,tyT t=tW p :: Zhc ps∧Zcu p=true∧(∀ q ∈ ps,Zcu q=true)∧Zlk p ps=t:=by
 unfold Zhe at h
 rw[Bool.and_eq_true]at h
 unfold tyT
 cases hq:pcs [] t with
 | nil=>exact absurd hq (Zzx _ t [] (Nat.le_refl _))
 | cons p ps=>
   rw[hq,List.all_eq_true]at h
   exact ⟨p,ps,rfl,h.2 p (by simp),fun q hq=>h.2 q (by simp[hq]),Zzy _ t [] p ps (Nat.le_refl _) hq⟩
theorem typeP_read {t:List UInt8} (h:Zhe t=true) {r:List Tok} (hr:∀ q r',r=q :: r'→isS q [58,58]=false):Zju (tyT t ++ r)=.ok (t,r):=by
 obtain ⟨p,ps,e,hp,hps,hj⟩:=Zlr h
 rw[e,List.cons_append]
 unfold Zju
 rw[Zjl hp]
 simp only[]
 rw[Zqv hr ps _ _ hps (by omega),hj]
theorem uidP_read {t:List UInt8} (h:Zhe t=true) (s:List UInt8) (r:List Tok):Zqt (tyT t ++ tS [58,58] :: tQ s :: r)=.ok ((t,s),r):=by
 obtain ⟨p,ps,e,hp,hps,hj⟩:=Zlr h
 rw[e,List.cons_append]
 unfold Zqt
 rw[Zjl hp]
 simp only[]
 rw[Zub s r ps _ _ hps (by omega),hj]
theorem is_op {X r:List Tok} {s:List UInt8} {a:Et} (h:Zhe s=true) (hr:∀ q r',r=q :: r'→isS q [58,58]=false) (ha:Rd0 (.lv 3) (X ++ tW wIs :: (tyT s ++ r)) a (tW wIs :: (tyT s ++ r))):Rd0 (.lv 2) (X ++ tW wIs :: (tyT s ++ r)) (.mk 10 0 noS (str s) [] [a]) r:=by
 obtain ⟨f,h1⟩:=ha
 refine ⟨f+1,?_⟩
 show Zbj (pr f) (.lv 2) _=_
 rw[Zip,Zaw h1]
 simp only[Zsj]
 rw[if_neg (by decide),if_neg (by decide),if_neg (by decide),if_pos (by decide),Zbb (typeP_read h hr)]
 rfl
theorem size0 {s:ByteArray} (h:s.size=0):s=noS:=by
 rw[←Zdh s]
 have:s.data.toList=[]:=List.eq_nil_of_length_eq_zero (by rw[←Lib.size_eq];exact h)
 rw[this]
 rfl
theorem nil0 {α:Type} {l:List α} (h:l.length=0):l=[]:=List.eq_nil_of_length_eq_zero h
theorem Zbh {o:Nat} {n:Int} {s t:ByteArray} {ns:List ByteArray} {l:List Et} (h:Zbt (.mk o n s t ns l)=true):Zld o l.length=true∧bareB o n s t ns=true∧Zcx o n s t ns l.length=true∧Zcw l=true:=by
 rw[Zbt,Zmc,Bool.and_eq_true,Bool.and_eq_true,Bool.and_eq_true]at h
 exact ⟨h.1.1.1,h.1.1.2,h.1.2,h.2⟩
theorem Zwm {o:Nat} {n:Int} {s t:ByteArray} {ns:List ByteArray} (h:bareB o n s t ns=true):(o=1∨o=2∨n=0)∧(o=3∨o=4∨o=5∨o=8∨o=9∨o=11∨s=noS)∧(o=4∨o=10∨t=noS)∧(o=7∨ns=[]):=by
 unfold bareB at h
 simp only[Bool.and_eq_true,decide_eq_true_eq]at h
 obtain ⟨⟨⟨a,b⟩,c⟩,d⟩:=h
 refine ⟨a,?_,?_,?_⟩
 · rcases b with b|b|b|b|b|b|b
   · exact .inl b
   · exact .inr (.inl b)
   · exact .inr (.inr (.inl b))
   · exact .inr (.inr (.inr (.inl b)))
   · exact .inr (.inr (.inr (.inr (.inl b))))
   · exact .inr (.inr (.inr (.inr (.inr (.inl b)))))
   · exact .inr (.inr (.inr (.inr (.inr (.inr (size0 b))))))
 · rcases c with c|c|c
   · exact .inl c
   · exact .inr (.inl c)
   · exact .inr (.inr (size0 c))
 · rcases d with d|d
   · exact .inl d
   · exact .inr (nil0 d)
theorem Zoi {o c:Nat} (h:Zld o c=true):o ≠ 0∧o < 30∧((o=6∨o=7)→c≤16)∧(o < 6→c=0)∧(7 < o→o≤13→c=1)∧(o=14→c=3)∧(14 < o→c=2):=by
 unfold Zld Zfn at h
 simp only[Bool.and_eq_true,decide_eq_true_eq]at h
 obtain ⟨⟨h1,h2⟩,h3⟩:=h
 refine ⟨h1,h2,fun h=>?_,fun h=>?_,fun h h'=>?_,fun h=>?_,fun h=>?_⟩
 · rw[if_pos h]at h3
   exact of_decide_eq_true h3
 · rw[if_neg (by omega),if_pos h]at h3
   exact of_decide_eq_true h3
 · rw[if_neg (by omega),if_neg (by omega),if_pos h']at h3
   exact of_decide_eq_true h3
 · rw[if_neg (by omega),if_neg (by omega),if_neg (by omega),if_pos h]at h3
   exact of_decide_eq_true h3
 · rw[if_neg (by omega),if_neg (by omega),if_neg (by omega),if_neg (by omega)]at h3
   exact of_decide_eq_true h3
theorem len1 {α:Type} {l:List α} (h:l.length=1):∃ a,l=[a]:=by
 match l,h with
 | [a],_=>exact ⟨a,rfl⟩
theorem len2 {α:Type} {l:List α} (h:l.length=2):∃ a b,l=[a,b]:=by
 match l,h with
 | [a,b],_=>exact ⟨a,b,rfl⟩
theorem len3 {α:Type} {l:List α} (h:l.length=3):∃ a b c,l=[a,b,c]:=by
 match l,h with
 | [a,b,c],_=>exact ⟨a,b,c,rfl⟩
theorem Zdu (o:Nat) (n:Int) (s t:ByteArray) (ns:List ByteArray) (l:List Et):Zbd (.mk o n s t ns l)=Zxy o n s.data.toList t.data.toList ns (l.map Zbd) (l.head?.elim false unE):=by
 rw[Zbd,toksEs_map]
structure Zol (u:Bool) (ts:List Tok):Prop where
 hd:∃ t ts',ts=t :: ts'∧isW t wIf=false∧isS t [93]=false∧isS t [125]=false∧(u=false→isS t [33]=false∧isS t [45]=false)
theorem Zol.of {u:Bool} {t:Tok} {ts:List Tok} (h1:isW t wIf=false) (h2:isS t [93]=false) (h3:isS t [125]=false) (h4:u=false→isS t [33]=false∧isS t [45]=false):Zol u (t :: ts):=⟨t,ts,rfl,h1,h2,h3,h4⟩
theorem Zol.app {u v:Bool} {ts:List Tok} (h:Zol u ts) (r:List Tok) (hv:v=false→u=false):Zol v (ts ++ r):=by
 obtain ⟨t,ts',rfl,h1,h2,h3,h4⟩:=h.hd
 exact ⟨t,ts' ++ r,rfl,h1,h2,h3,fun h=>h4 (hv h)⟩
theorem Zrv {p:List UInt8} (h:p ≠ wIf) (u:Bool) (ts:List Tok):Zol u (tW p :: ts):=.of (by rw[isW_tW];exact beq_eq_false_iff_ne.2 h) rfl rfl fun _=>⟨rfl,rfl⟩
theorem Zzr (p:List UInt8) (u:Bool) (ts:List Tok):Zol u (tQ p :: ts):=.of rfl rfl rfl fun _=>⟨rfl,rfl⟩
theorem labT_hd (p:List UInt8) (u:Bool) (ts:List Tok):Zol u (Znw p :: ts):=by
 unfold Znw
 by_cases h:Zcu p=true
 · rw[if_pos h];exact Zrv (Zmf h (by decide)) _ _
 · rw[if_neg h];exact Zzr _ _ _
theorem Zrj (u:Bool) (ts:List Tok):Zol u (tS [40] :: ts):=.of rfl rfl rfl fun _=>⟨rfl,rfl⟩
theorem base_hd {u v:Bool} {k:List Tok} (h:Zol u k) (ts:List Tok):Zol v (Znm u k ++ ts):=by
 unfold Znm
 cases u with
 | true=>rw[if_pos rfl];exact Zrj _ _
 | false=>rw[if_neg (by decide)];exact h.app ts (fun _=>rfl)
theorem Zrw {s:List UInt8} (h:Zea.contains s=true) {y:List UInt8} (hy:Zea.contains y=false):s ≠ y:=by
 rintro rfl
 rw[hy]at h
 cases h
theorem hd_ok:∀ (n:Nat) (e:Et),e.ht≤n→Zbt e=true→Zol (unE e) (Zbd e):=by
 intro n
 induction n with
 | zero=>intro e h;cases e;rw[Et.ht]at h;omega
 | succ n ih=>
   intro e hh hr
   cases e with
   | mk o k s t ns l=>
     obtain ⟨hc,hb,hp,hl⟩:=Zbh hr
     obtain ⟨c1,c2,c3,c4,c5,c6,c7⟩:=Zoi hc
     rw[Et.ht]at hh
     have kid:∀ a,l.head?=some a→Zol (unE a) (Zbd a):=fun a ha=>by
      have hm:a ∈ l:=List.mem_of_mem_head? (by rw[ha];rfl)
      exact ih a (by have:=Et.ht_mem hm;omega) (Zeo hl hm)
     rw[Zdu]
     unfold Zxy
     simp only[]
     by_cases q:o=1
     · rw[if_pos q]
       exact Zrv (by split <;> decide) _ _
     rw[if_neg q]
     by_cases q:o=2
     · rw[if_pos q];exact .of rfl rfl rfl fun _=>⟨rfl,rfl⟩
     rw[if_neg q]
     by_cases q:o=3
     · rw[if_pos q];exact Zzr _ _ _
     rw[if_neg q]
     by_cases q:o=4
     · rw[if_pos q]
       subst q
       have:Zhe t.data.toList=true:=by
        unfold Zcx at hp
        rw[if_neg (by decide),if_neg (by decide),if_neg (by decide),if_pos rfl,Zqi,Bool.and_eq_true,Bool.and_eq_true]at hp
        exact hp.1.1
       obtain ⟨p,ps,e,h1,_,_⟩:=Zlr this
       rw[e]
       exact Zrv (Zmf h1 (by decide)) _ _
     rw[if_neg q]
     by_cases q:o=5
     · rw[if_pos q]
       subst q
       unfold Zcx at hp
       rw[if_neg (by decide),if_neg (by decide),if_neg (by decide),if_neg (by decide),if_pos rfl]at hp
       exact Zrv (Zrw hp (by decide)) _ _
     rw[if_neg q]
     by_cases q:o=6
     · rw[if_pos q];exact .of rfl rfl rfl fun _=>⟨rfl,rfl⟩
     rw[if_neg q]
     by_cases q:o=7
     · rw[if_pos q];exact .of rfl rfl rfl fun _=>⟨rfl,rfl⟩
     rw[if_neg q]
     by_cases q:o=8
     · rw[if_pos q]
       obtain ⟨a,rfl⟩:=len1 (c5 (by omega) (by omega))
       exact base_hd (kid a rfl) _
     rw[if_neg q]
     by_cases q:o=9
     · rw[if_pos q];exact Zrj _ _
     rw[if_neg q]
     by_cases q:o=10
     · rw[if_pos q];exact Zrj _ _
     rw[if_neg q]
     by_cases q:o=11
     · rw[if_pos q];exact Zrj _ _
     rw[if_neg q]
     by_cases q:o=12
     · rw[if_pos q]
       subst q
       exact .of rfl rfl rfl fun h=>by cases h
     rw[if_neg q]
     by_cases q:o=13
     · rw[if_pos q]
       subst q
       exact .of rfl rfl rfl fun h=>by cases h
     rw[if_neg q]
     by_cases q:o=14
     · rw[if_pos q];exact Zrj _ _
     rw[if_neg q]
     by_cases q:27≤o
     · rw[if_pos q]
       obtain ⟨a,b,rfl⟩:=len2 (c7 (by omega))
       exact base_hd (kid a rfl) _
     rw[if_neg q]
     exact Zrj _ _
def LawA (e:Et):Prop:=∀ r,Off 5 r→Rd0 (.lv 5) (Zbd e ++ r) e r
def NoPar (r:List Tok):Prop:=∀ t r',r=t :: r'→isS t [40]=false
def LawB (e:Et):Prop:=∀ r,NoPar r→Go6 (Zbd e ++ r) e r
theorem Off.noPar {r:List Tok} (h:Off 5 r):NoPar r:=fun t r' e=>by subst e;exact (off_mem h).2.2
theorem a_of_b {e:Et} (h:LawB e) (hd:Zol false (Zbd e)):LawA e:=by
 intro r hr
 have h1:=h r hr.noPar e r (mem_end hr)
 obtain ⟨t,ts,e1,_,_,_,h4⟩:=hd.hd
 rw[e1]at h1 ⊢
 exact up_un h1 (h4 rfl).1 (h4 rfl).2
theorem Zhu {e:Et} (h:LawA e) {j:Nat} (hj:j≤5) {r:List Tok} (hr:Off j r):Rd0 (.lv j) (Zbd e ++ r) e r:=Znp (Nat.le_refl 5) hj (h r (hr.up hj)) hr
theorem Zyw {ts r:List Tok} {e:Et} (h:Rd0 (.lv 0) ts e r) (hd:∃ u,Zol u ts):Rd0 .expr ts e r:=by
 obtain ⟨u,hd⟩:=hd
 obtain ⟨t,ts',rfl,h1,_⟩:=hd.hd
 exact up_expr h h1
theorem Zmk {e:Et} (h:LawA e) (hd:Zol (unE e) (Zbd e)) {r:List Tok} (hr:Off 0 r):Rd0 .expr (Zbd e ++ r) e r:=Zyw (Zhu h (by omega) hr) ⟨_,hd.app r fun h=>h⟩
theorem Zuz {X r:List Tok} {e:Et} (h:Rd0 (.lv 0) (X ++ tS [41] :: r) e (tS [41] :: r)) (hd:∃ u,Zol u X):Go6 (tS [40] :: (X ++ tS [41] :: r)) e r:=by
 obtain ⟨u,hd⟩:=hd
 exact Zgi (par7 (Zyw h ⟨u,hd.app _ fun h=>h⟩))
theorem Zxu (r:List Tok):Off 0 (tS [41] :: r):=.cons (by decide)
theorem Zyn {a:Et} (hA:LawA a) (hB:unE a=false→LawB a) (hd:Zol (unE a) (Zbd a)) {r:List Tok} (hr:NoPar r):Go6 (Znm (unE a) (Zbd a) ++ r) a r:=by
 unfold Znm
 cases hu:unE a with
 | false=>rw[if_neg (by decide)];exact hB hu r hr
 | true=>
   rw[if_pos rfl,show (tS [40] :: (Zbd a ++ [tS [41]])) ++ r=tS [40] :: (Zbd a ++ tS [41] :: r) by simp]
   exact Zuz (Zhu hA (by omega) (Zxu r)) ⟨_,hd⟩
theorem Zdw {nt:NT} {ts r:List Tok} {e:Et} (h:∃ f,Zbj (pr f) nt ts=some (.ok (e,r))):Rd0 nt ts e r:=by
 obtain ⟨f,h⟩:=h
 exact ⟨f+1,h⟩
theorem items_set {r:List Tok}:∀ (l:List Et),l ≠ []→(∀ x ∈ l,LawA x∧Zol (unE x) (Zbd x))→∀ acc:List Et,Rd0 (.items false [] acc) (Zph (l.map Zbd) ++ tS [93] :: r) (.mk 6 0 noS noS [] (acc ++ l)) r:=by
 intro l
 induction l with
 | nil=>intro h;exact absurd rfl h
 | cons x l ih=>
   intro _ hl acc
   have hx:=hl x (by simp)
   cases l with
   | nil=>
     show Rd0 _ (Zbd x ++ tS [93] :: r) _ r
     obtain ⟨f,hf⟩:=Zmk hx.1 hx.2 (r:=tS [93] :: r) (.cons (by decide))
     refine Zdw ⟨f,?_⟩
     rw[Zfs,Zbb (show Zkx false [] _=.ok ([],_) from rfl),Zaw hf]
     simp only[Znc]
     rw[if_neg (by decide),if_pos (by decide)]
     rfl
   | cons y l=>
     have h1:=ih (by simp) (fun z hz=>hl z (by simp[hz])) (acc ++ [x])
     rw[show acc ++ [x] ++ (y :: l)=acc ++ (x :: y :: l) by simp]at h1
     rw[show Zph ((x :: y :: l).map Zbd) ++ tS [93] :: r=Zbd x ++ tS [44] :: (Zph ((y :: l).map Zbd) ++ tS [93] :: r) by simp[Zph]]
     obtain ⟨f,hf⟩:=Zmk hx.1 hx.2 (r:=tS [44] :: (Zph ((y :: l).map Zbd) ++ tS [93] :: r)) (.cons (by decide))
     obtain ⟨g,hg⟩:=h1
     refine Zdw ⟨max f g,?_⟩
     rw[Zfs,Zbb (show Zkx false [] _=.ok ([],_) from rfl),Zaw (Rd0.le hf (by omega))]
     simp only[Znc]
     rw[if_pos (by decide)]
     exact Rd0.le hg (by omega)
theorem Zvn (ns:List ByteArray) (x:ByteArray) (r:List Tok):Zkx true ns (Znw x.data.toList :: tS [58] :: r)=.ok (ns ++ [x],r):=by
 unfold Zkx
 rw[if_pos rfl,Zps]
 simp only[]
 rw[Zji]
 simp only[]
 rw[Zdh]
theorem items_rec {r:List Tok}:∀ (l:List Et),l ≠ []→(∀ x ∈ l,LawA x∧Zol (unE x) (Zbd x))→∀ (ns nacc:List ByteArray) (acc:List Et),ns.length=l.length→Rd0 (.items true nacc acc) (Zph (Zuv ns (l.map Zbd)) ++ tS [125] :: r) (.mk 7 0 noS noS (nacc ++ ns) (acc ++ l)) r:=by
 intro l
 induction l with
 | nil=>intro h;exact absurd rfl h
 | cons x l ih=>
   intro _ hl ns nacc acc hn
   have hx:=hl x (by simp)
   cases ns with
   | nil=>simp at hn
   | cons nm ns=>
   cases l with
   | nil=>
     have hns:ns=[]:=by simpa using hn
     subst hns
     show Rd0 _ (Znw nm.data.toList :: tS [58] :: (Zbd x ++ tS [125] :: r)) _ r
     obtain ⟨f,hf⟩:=Zmk hx.1 hx.2 (r:=tS [125] :: r) (.cons (by decide))
     refine Zdw ⟨f,?_⟩
     rw[Zfs,Zbb (Zvn nacc nm _),Zaw hf]
     simp only[Znc]
     rw[if_neg (by decide),if_pos (by decide)]
     rfl
   | cons y l=>
     cases ns with
     | nil=>simp at hn
     | cons nm2 ns=>
     have h1:=ih (by simp) (fun z hz=>hl z (by simp[hz])) (nm2 :: ns) (nacc ++ [nm]) (acc ++ [x]) (by simpa using hn)
     rw[show acc ++ [x] ++ (y :: l)=acc ++ (x :: y :: l) by simp,show nacc ++ [nm] ++ (nm2 :: ns)=nacc ++ (nm :: nm2 :: ns) by simp]at h1
     rw[show Zph (Zuv (nm :: nm2 :: ns) ((x :: y :: l).map Zbd)) ++ tS [125] :: r=Znw nm.data.toList :: tS [58] :: (Zbd x ++ tS [44] :: (Zph (Zuv (nm2 :: ns) ((y :: l).map Zbd)) ++ tS [125] :: r)) by simp[Zph,Zuv]]
     obtain ⟨f,hf⟩:=Zmk hx.1 hx.2 (r:=tS [44] :: (Zph (Zuv (nm2 :: ns) ((y :: l).map Zbd)) ++ tS [125] :: r)) (.cons (by decide))
     obtain ⟨g,hg⟩:=h1
     refine Zdw ⟨max f g,?_⟩
     rw[Zfs,Zbb (Zvn nacc nm _),Zaw (Rd0.le hf (by omega))]
     simp only[Znc]
     rw[if_pos (by decide)]
     exact Rd0.le hg (by omega)
theorem brk_read {rec:Bool} {T r r':List Tok} {e:Et} (hT:∃ u,Zol u T) (h:Rd0 (.items rec [] []) (T ++ r) e r'):∃ f,Zqe (pr f) rec (T ++ r)=some (.ok (e,r')):=by
 obtain ⟨u,hT⟩:=hT
 obtain ⟨t,ts,rfl,_,h2,h3,_⟩:=hT.hd
 obtain ⟨f,hf⟩:=h
 refine ⟨f,?_⟩
 rw[List.cons_append]at hf ⊢
 simp only[Zqe]
 rw[if_neg (by cases rec with|false=>(show ¬ isS t [93]=true);rw[h2];decide|true=>(show ¬ isS t [125]=true);rw[h3];decide)]
 exact hf
def mg {α:Type} (g:Tok→Tok):Zcs α→Zcs α
 | .ok (a,r)=>.ok (a,r.map g)
 | .error e=>.error (e.map g)
section
variable {g:Tok→Tok} (hk:∀ t,(g t).k=t.k) (ht:∀ t,(g t).t=t.t) (hn:∀ t,(g t).n=t.n)
theorem Zdk {x:Option (Zcs Et)} {k k':Et→List Tok→Option (Zcs Et)} (h:∀ e r,k' e (r.map g)=(k e r).map (mg g)):Zcn (x.map (mg g)) k'=(Zcn x k).map (mg g):=by
 cases x with
 | none=>rfl
 | some z=>
   cases z with
   | error e=>rfl
   | ok z=>exact h z.1 z.2
theorem Zeb {α:Type} {x:Zcs α} {k k':α→List Tok→Option (Zcs Et)} (h:∀ e r,k' e (r.map g)=(k e r).map (mg g)):Zdc (mg g x) k'=(Zdc x k).map (mg g):=by
 cases x with
 | error e=>rfl
 | ok z=>exact h z.1 z.2
theorem Zde {c:Prop} [Decidable c] {a b a' b':Option (Zcs Et)} (h1:a'=a.map (mg g)) (h2:b'=b.map (mg g)):(if c then a' else b')=(if c then a else b).map (mg g):=by
 split
 · exact h1
 · exact h2
theorem Zij (e:Et) (r:List Tok):okP e (r.map g)=(okP e r).map (mg g):=rfl
include hk ht in
theorem isW_n (t:Tok) (s:List UInt8):isW (g t) s=isW t s:=by unfold isW;rw[hk,ht]
include hk ht in
theorem Zpt (t:Tok) (s:List UInt8):isS (g t) s=isS t s:=by unfold isS;rw[hk,ht]
include hk ht in
theorem Ziv (ts:List Tok):Zcj (ts.map g)=mg g (Zcj ts):=by
 cases ts with
 | nil=>rfl
 | cons t ts=>
   simp only[List.map_cons,Zcj,hk,ht]
   split <;> rfl
include hk ht in
theorem Zov (ts:List Tok):Zdg (ts.map g)=mg g (Zdg ts):=by
 cases ts with
 | nil=>rfl
 | cons t ts=>
   simp only[List.map_cons,Zdg,hk,ht]
   split <;> rfl
include hk ht in
theorem Zrl (ts:List Tok):Zda (ts.map g)=mg g (Zda ts):=by
 cases ts with
 | nil=>rfl
 | cons t ts=>
   have:=Ziv hk ht (t :: ts)
   rw[List.map_cons]at this
   simp only[List.map_cons,Zda,hk,ht,this]
   split <;> rfl
include hk ht in
theorem Zir (s:List UInt8) (ts:List Tok):Zbr s (ts.map g)=mg g (Zbr s ts):=by
 cases ts with
 | nil=>rfl
 | cons t ts=>
   simp only[List.map_cons,Zbr,Zpt hk ht]
   split <;> rfl
include hk ht in
theorem Ztx (s:List UInt8) (ts:List Tok):Zhy s (ts.map g)=mg g (Zhy s ts):=by
 cases ts with
 | nil=>rfl
 | cons t ts=>
   simp only[List.map_cons,Zhy,isW_n hk ht]
   split <;> rfl
include hk ht in
theorem Zud:∀ (f:Nat) (acc:List UInt8) (ts:List Tok),Zfh f acc (ts.map g)=mg g (Zfh f acc ts)
 | 0,acc,ts=>rfl
 | f+1,acc,ts=>by
   unfold Zfh
   rw[Zir hk ht]
   cases Zbr [58,58] ts with
   | error e=>rfl
   | ok z=>
     simp only[mg]
     rw[Ziv hk ht]
     cases Zcj z.2 with
     | error e=>rfl
     | ok q=>
       simp only[mg]
       exact Zud f _ _
include hk ht in
theorem typeP_nat (ts:List Tok):Zju (ts.map g)=mg g (Zju ts):=by
 unfold Zju
 rw[Ziv hk ht]
 cases Zcj ts with
 | error e=>rfl
 | ok z=>
   simp only[mg,List.length_map]
   exact Zud hk ht _ _ _
include hk ht in
theorem Zyx:∀ (f:Nat) (acc:List UInt8) (ts:List Tok),Zlb f acc (ts.map g)=mg g (Zlb f acc ts)
 | 0,acc,ts=>rfl
 | f+1,acc,ts=>by
   unfold Zlb
   rw[Zir hk ht]
   cases Zbr [58,58] ts with
   | error e=>rfl
   | ok z=>
     simp only[mg]
     rw[Zov hk ht]
     cases Zdg z.2 with
     | ok q=>rfl
     | error e=>
       simp only[mg]
       rw[Ziv hk ht]
       cases Zcj z.2 with
       | error e=>rfl
       | ok q=>
         simp only[mg]
         exact Zyx f _ _
include hk ht in
theorem uidP_nat (ts:List Tok):Zqt (ts.map g)=mg g (Zqt ts):=by
 unfold Zqt
 rw[Ziv hk ht]
 cases Zcj ts with
 | error e=>rfl
 | ok z=>
   simp only[mg,List.length_map]
   exact Zyx hk ht _ _ _
include hk ht in
theorem itemP_nat (rec:Bool) (ns:List ByteArray) (ts:List Tok):Zkx rec ns (ts.map g)=mg g (Zkx rec ns ts):=by
 unfold Zkx
 cases rec with
 | false=>rfl
 | true=>
   simp only[if_true]
   rw[Zrl hk ht]
   cases Zda ts with
   | error e=>rfl
   | ok z=>
     simp only[mg]
     rw[Zir hk ht]
     cases Zbr [58] z.2 with
     | error e=>rfl
     | ok q=>rfl
def Nt (g:Tok→Tok) (rc:NT→List Tok→Option (Zcs Et)):Prop:=∀ nt ts,rc nt (ts.map g)=(rc nt ts).map (mg g)
variable {rc:NT→List Tok→Option (Zcs Et)}
include hk ht hn in
theorem step_nat (hrc:Nt g rc):Nt g (Zbj rc):=by
 intro nt ts
 cases nt with
 | expr=>
   cases ts with
   | nil=>exact hrc (.lv 0) []
   | cons t ts=>
     rw[List.map_cons,Zhq,Zhq,isW_n hk ht]
     refine Zde ?_ (hrc (.lv 0) (t :: ts))
     rw[hrc]
     refine Zdk fun a r=>?_
     rw[Ztx hk ht]
     refine Zeb fun _ r=>?_
     rw[hrc]
     refine Zdk fun b r=>?_
     rw[Ztx hk ht]
     refine Zeb fun _ r=>?_
     rw[hrc]
     exact Zdk fun c r=>Zij _ _
 | lv k=>
   by_cases h2:k=2
   · subst h2
     rw[Zip,Zip,hrc]
     refine Zdk fun e r=>?_
     cases r with
     | nil=>rfl
     | cons t r=>
       rw[List.map_cons]
       simp only[Zsj,hk,ht,isW_n hk ht]
       refine Zde ?_ (Zde ?_ (Zde ?_ (Zde ?_ (Zde ?_ rfl))))
       · rw[hrc];exact Zdk fun _ _=>Zij _ _
       · rw[hrc];exact Zdk fun _ _=>Zij _ _
       · rw[Zrl hk ht];exact Zeb fun _ _=>Zij _ _
       · rw[typeP_nat hk ht];exact Zeb fun _ _=>Zij _ _
       · rw[Zov hk ht];exact Zeb fun _ _=>Zij _ _
   by_cases h5:k=5
   · subst h5
     cases ts with
     | nil=>exact hrc (.lv 6) []
     | cons t ts=>
       rw[List.map_cons,Zqj,Zqj,Zpt hk ht,Zpt hk ht]
       refine Zde ?_ (Zde ?_ (hrc (.lv 6) (t :: ts)))
       · rw[hrc];exact Zdk fun _ _=>Zij _ _
       · rw[hrc];exact Zdk fun _ _=>Zij _ _
   by_cases h6:k=6
   · subst h6
     rw[Zuf,Zuf,hrc]
     exact Zdk fun e r=>hrc _ _
   by_cases h7:k=7
   · subst h7
     cases ts with
     | nil=>rfl
     | cons t ts=>
       have hbrk:∀ b:Bool,Zqe rc b (ts.map g)=(Zqe rc b ts).map (mg g):=by
        intro b
        cases ts with
        | nil=>exact hrc _ []
        | cons t2 ts=>
          rw[List.map_cons]
          simp only[Zqe,Zpt hk ht]
          exact Zde rfl (hrc _ (t2 :: ts))
       have hu:=uidP_nat hk ht (t :: ts)
       rw[List.map_cons]at hu
       rw[List.map_cons,Zfr,Zfr,isW_n hk ht,isW_n hk ht,Zpt hk ht,Zpt hk ht,Zpt hk ht,hk,ht,hn,hu]
       refine Zde rfl (Zde rfl (Zde rfl (Zde rfl (Zde rfl (Zde ?_ (Zde (hbrk _) (Zde (hbrk _) ?_)))))))
       · rw[hrc]
         refine Zdk fun e r=>?_
         rw[Zir hk ht]
         exact Zeb fun _ _=>Zij _ _
       · exact Zeb fun _ _=>Zij _ _
   rw[Zlu k h2 h5 h6 h7,Zlu k h2 h5 h6 h7,hrc]
   exact Zdk fun e r=>hrc _ _
 | rowT k a=>
   cases ts with
   | nil=>rfl
   | cons t ts=>
     rw[List.map_cons,Zgv,Zgv,hk,ht]
     refine Zde ?_ rfl
     rw[hrc]
     exact Zdk fun e r=>hrc _ _
 | memT a=>
   cases ts with
   | nil=>rfl
   | cons t ts=>
     rw[List.map_cons,Zgd,Zgd,Zpt hk ht,Zpt hk ht]
     refine Zde ?_ (Zde ?_ rfl)
     · rw[Zov hk ht]
       refine Zeb fun s r=>?_
       rw[Zir hk ht]
       exact Zeb fun _ r=>hrc _ _
     · rw[Ziv hk ht]
       refine Zeb fun s r=>?_
       cases r with
       | nil=>exact hrc _ []
       | cons t2 r=>
         rw[List.map_cons]
         simp only[dotT,Zpt hk ht]
         refine Zde ?_ (hrc _ (t2 :: r))
         rw[hrc]
         refine Zdk fun e r=>?_
         rw[Zir hk ht]
         exact Zeb fun _ r=>hrc _ _
 | items b ns l=>
   rw[Zfs,Zfs,itemP_nat hk ht]
   refine Zeb fun ns2 r=>?_
   rw[hrc]
   refine Zdk fun e r=>?_
   cases r with
   | nil=>rfl
   | cons t r=>
     rw[List.map_cons]
     simp only[Znc,Zpt hk ht]
     exact Zde (hrc _ _) (Zde rfl rfl)
include hk ht hn in
theorem pr_nat:∀ f:Nat,Nt g (pr f):=by
 intro f
 induction f with
 | zero=>intro nt ts;rfl
 | succ f ih=>exact step_nat hk ht hn ih
include hk ht hn in
theorem prL_nat (ts:List Tok):prL (ts.map g)=mg g (prL ts):=by
 refine Zzu (f:=ts.length * 12+11) ?_
 rw[pr_nat hk ht hn,Zpm]
 rfl
end
def Zql (t:Tok):Tok:={ t with at_:=0 }
theorem Zsk {ts us:List Tok} (h:ts.map Zql=us.map Zql) {e:Et} {r:List Tok} (hr:prL ts=.ok (e,r)):∃ r',prL us=.ok (e,r')∧r.map Zql=r'.map Zql:=by
 have h1:=prL_nat (g:=Zql) (fun _=>rfl) (fun _=>rfl) (fun _=>rfl) ts
 have h2:=prL_nat (g:=Zql) (fun _=>rfl) (fun _=>rfl) (fun _=>rfl) us
 rw[hr]at h1
 rw[←h,h1]at h2
 cases hq:prL us with
 | error e=>rw[hq]at h2;cases h2
 | ok z=>
   rw[hq]at h2
   simp only[mg]at h2
   injection h2 with h2
   injection h2 with h3 h4
   exact ⟨z.2,by rw[h3],h4⟩
end Go.Proofs.YtnhooehmcggmdaaGreatDoor
