/- Parts of a proof about the given program: XRdW14. -/
import Derived.Test.YtnhooehmcggmdaaGreatDoorZ30
namespace Go.Proofs.YtnhooehmcggmdaaGreatDoor
set_option maxHeartbeats 16000000
set_option linter.unusedVariables false
set_option linter.unusedSimpArgs false
set_option linter.unusedSectionVars false
open Go.RowKit
theorem expr_go {f:Nat} {ts:List Tok} {y:Zcs Et} (h:pr f .expr ts=some y):∃ f',f=f'+1∧((nxB 1 [wIf] ts=false∧pr f' (.lv 0) ts=some y) ∨
 (nxB 1 [wIf] ts=true∧∃ t r,ts=t :: r∧Zcn (pr f' .expr r) (fun a r1=>Zdc (Zhy Zeu r1) fun _ r2=>Zcn (pr f' .expr r2) fun b r3=>Zdc (Zhy Zem r3) fun _ r4=>Zcn (pr f' .expr r4) fun c r5=>okP (Zbk 14 [a,b,c]) r5)=some y)):=by
 cases f with
 | zero=>cases h
 | succ f'=>
   refine ⟨f',rfl,?_⟩
   cases ts with
   | nil=>exact .inl ⟨rfl,h⟩
   | cons t r=>
     have h2:Zbj (pr f') .expr (t :: r)=some y:=h
     rw[Zhq]at h2
     have hn:nxB 1 [wIf] (t :: r)=isW t wIf:=Zpp wIf t r 1
     rw[hn]
     split at h2
     · next hc=>exact .inr ⟨hc,t,r,rfl,h2⟩
     · next hc=>exact .inl ⟨by simpa using hc,h2⟩
set_option maxRecDepth 100000 in
theorem rexpr_w (n:Nat) (hA:Zla 99 (.lv 1) n) (hX:Zla 55 .expr n):Zla 55 .expr (n+1):=by
 intro f hf p w0 w ts y hr hok hE hy
 have hplt:=hr.lt
 have hb0:=Zac w (.cells Zag.toArray 26)
 have k0:=Blk.new w Zag 26
 have hb1:=Zac (w.alloc (.cells Zag.toArray 26)) (.cells #[.string ⟨#[105,102]⟩] 9)
 have hx:TxS ((w.alloc (.cells Zag.toArray 26)).alloc (.cells #[.string ⟨#[105,102]⟩] 9)) (some ⟨w.heap.size+1,0,none⟩) [wIf]:=by
  have:=Zfi (w.alloc (.cells Zag.toArray 26)) [wIf]
  rw[Zkz]at this
  exact this
 obtain ⟨W,hW⟩:=Zaf ((w.alloc (.cells Zag.toArray 26)).alloc (.cells #[.string ⟨#[105,102]⟩] 9))
 have hWl:Hid (W=(w.alloc (.cells #[.int .u8 0,.int .i64 0,.string ⟨#[]⟩,.string ⟨#[]⟩,.slice none 0 0,.slice none 0 0] 26)).alloc (.cells #[.string ⟨#[105,102]⟩] 9)):=hW
 have hb:=hb0.trans (hb1.mono (by rw[Zkz];exact Nat.le_succ _))
 have k1:=k0.below hb1
 rw[←hW.out]at hx hb k1
 have hd:=hr.below hb
 have htk0:=Zft 1 [wIf] _ 1 p W ts hd (by decide) hx hok
 have htk:Calls Tryz.prog 97 #[.pointer (some ⟨p,0,none⟩),.int .u8 1,.slice (some ⟨w.heap.size+1,0,none⟩) 1 1] W fun e w'=>e=.returned (.tuple #[.agg (Zae (Zck 1 [wIf] ts)).toArray,.bool (nxB 1 [wIf] ts)])∧Zbg w' p (Zct 1 [wIf] ts)∧W.grownBy w' (some p):=htk0
 have hgW:=Zad hb (some p)
 obtain ⟨p6,hp6⟩:=Zaf w.heap.size
 have hpp6:p < p6:=by rw[hp6.out];exact hplt
 have HB:=Zai (Nat.le_of_eq hp6.out)
 have HB2:=Zai (Nat.le_of_eq hp6.out.symm)
 rw[←hp6.out]at k1
 clear hx hb0 hb1 k0 hd hW htk0
 obtain ⟨f',rfl,hgo⟩:=expr_go hy
 have hf':f'≤n:=by omega
 clear hy
 go_enter Tryz.func55,Tryz.ntmps55
 go_wp2_with (first|(at_builtin;fail))
 try simp only[Zkz]
 rw[←hWl.out,←hp6.out]
 rw[←hp6.out]at htk
 refine htk.mono ?_
 clear htk hWl
 rintro e9 w4 ⟨rfl,hd4,hg4'⟩
 have hg4:=hgW.trans hg4'
 have k64:=k1.grown hg4' (by omega)
 clear hgW hg4' k1 hb
 rcases hgo with ⟨hn,hy⟩|⟨hn,t,r,rfl,hy⟩
 · have e1:Zck 1 [wIf] ts=Zan:=by unfold Zck;rw[hn];rfl
   rw[Zkw hn]at hd4
   rw[hn,e1]
   have hb5:=Zah (Zac w4 (.cells #[.int .u8 0,.string ⟨#[]⟩,.int .i64 0,.int .i64 0] 46)) (Nat.le_refl _) (Zae Zan).toArray
   have k65:=k64.below hb5
   have hd5:=hd4.below hb5
   have hg5:=hg4.trans (Zad hb5 (some p))
   obtain ⟨w5,hw5⟩:=Zaf ((w4.alloc (.cells #[.int .u8 0,.string ⟨#[]⟩,.int .i64 0,.int .i64 0] 46)).setRow w4.heap.size (Zae Zan).toArray)
   rw[←hw5.out]at k65 hd5 hg5
   have hb6:=Zac w5 (.cells #[.string ⟨#[124,124]⟩] 9)
   have hx6:TxS (w5.alloc (.cells #[.string ⟨#[124,124]⟩] 9)) (some ⟨w5.heap.size,0,none⟩) (Zej 0):=Zfi w5 [[124,124]]
   have k66:=k65.below hb6
   have hd6:=hd5.below hb6
   have hg6:=hg5.trans (Zad hb6 (some p))
   have hs6:=hd5.lt
   obtain ⟨w6,hw6⟩:=Zaf (w5.alloc (.cells #[.string ⟨#[124,124]⟩] 9))
   rw[←hw6.out]at hx6 k66 hd6 hg6
   have hrow0:=Zzn 99 0 n (by decide) hA (fun _ _=>rfl) f' (by omega) p w0 w6 ts y hd6 hok (hE.step hg6) hy _ 1 hx6 (by rintro a ⟨⟩;show w5.heap.size ≠ p;omega)
   have hrow:Calls Tryz.prog 98 #[.pointer (some ⟨p,0,none⟩),.func (.func 99) #[.pointer (some ⟨p,0,none⟩)] #[],.slice (some ⟨w5.heap.size,0,none⟩) 1 1] w6 fun e w'=>Zhk p w6 y (ExV w6.heap.size) e w':=hrow0
   have hsz6:p6 < w6.heap.size:=k66.lt
   clear hrow0 hx6 hd6 hd5 hb5 hb6 k65 hg5 hd4 hg4 k64 e1 hn
   go_wp2_with (first
    | (at_builtin;fail)
    | (refine wpList_store_row rfl 46 _ _ rfl _ (Zae Zan).toArray rfl rfl 46 (Zae Zan).toArray (Blk.new w4 (Zae Zan) 46) (kT4 rfl) rfl (Zay _) ?_;rw[←hw5.out]))
   rw[←hw6.out]
   refine hrow.mono ?_
   clear hrow hw5 hw6
   rintro e9 w7 ⟨hg7,h1⟩
   have hg:=hg6.trans hg7
   have k7:=k66.grown hg7 (by omega)
   cases y with
   | error e0=>
     obtain ⟨h2,rfl⟩:=h1
     exact ⟨rfl,hg,h2,rfl⟩
   | ok z=>
     obtain ⟨h2,v,rfl,r,rfl,hv,hw⟩:=h1
     have hlen:=Zby hv
     go_wp2_with (first
      | (at_builtin;fail)
      | refine wpList_store_row rfl 26 _ _ rfl _ r.toArray rfl rfl 26 Zag.toArray k7 (kE6 hlen) (zE6 hlen) (Zas (Zcy hv)) ?_)
     have hgr:=Zbc w7 p6 r.toArray
     refine bodyPost_ret (Zfz rfl _ rfl (k7.vrow r) hlen) rfl ?_
     refine ⟨Zaq hg HB2.out _,h2.row hpp6 _,_,rfl,r,rfl,?_,hw.grown hv hgr (fun b hb=>by have:w6.heap.size≤b:=hb.1;omega)⟩
     exact (EAt.up (Q:=fun b=>w6.heap.size≤b) hv hgr (fun b hb=>by have:w6.heap.size≤b:=hb;omega)).imp (fun b hb=>⟨by have:=HB2.out;have:w6.heap.size≤b:=hb.1;omega,hb.2⟩)
 · have e1:Zck 1 [wIf] (t :: r)=t:=by unfold Zck;rw[hn];rfl
   rw[Zhp hn]at hd4
   rw[hn,e1]
   have hokr:=hok.tail
   have hb5:=Zah (Zac w4 (.cells #[.int .u8 0,.string ⟨#[]⟩,.int .i64 0,.int .i64 0] 46)) (Nat.le_refl _) (Zae t).toArray
   have k65:=k64.below hb5
   have hd5:=hd4.below hb5
   have hg5:=hg4.trans (Zad hb5 (some p))
   obtain ⟨w5,hw5⟩:=Zaf ((w4.alloc (.cells #[.int .u8 0,.string ⟨#[]⟩,.int .i64 0,.int .i64 0] 46)).setRow w4.heap.size (Zae t).toArray)
   rw[←hw5.out]at k65 hd5 hg5
   clear hb5 hd4 hg4 k64 e1 hn hr
   go_wp2_with (first
    | (at_builtin;fail)
    | (refine wpList_store_row rfl 46 _ _ rfl _ (Zae t).toArray rfl rfl 46 (Zae Zan).toArray (Blk.new w4 (Zae Zan) 46) (kT4 rfl) rfl (Zay _) ?_;rw[←hw5.out]))
   clear hw5
   rcases Zbp hy with ⟨e0,h1,hq⟩|⟨a,r1,h1,hy1⟩
   · refine (hX f' hf' p w0 w5 r (.error e0) hd5 hokr (hE.step hg5) h1).mono ?_
     rintro e9 w6 ⟨hg6,hd6,rfl⟩
     refine ⟨rfl,?_⟩
     rw[hq]
     exact ⟨hg5.trans hg6,hd6,rfl⟩
   refine (hX f' hf' p w0 w5 r (.ok (a,r1)) hd5 hokr (hE.step hg5) h1).mono ?_
   rintro e9 w6 ⟨hg6',hd6,v9,rfl,rx,rfl,hvx,-⟩
   have hok1:=hokr.sfx (Zmx f' _ _ _ h1).1
   have hg6:=hg5.trans hg6'
   have k66:=k65.grown hg6' (by omega)
   have hs5:=k65.lt
   have hlenrx:=Zby hvx
   have hb7:=Zah (Zac w6 (.cells Zag.toArray 26)) (Nat.le_refl _) rx.toArray
   have kvrx:Blk ((w6.alloc (.cells Zag.toArray 26)).setRow w6.heap.size rx.toArray) w6.heap.size rx 26:=(Blk.new w6 Zag 26).vrow _
   have k67:=k66.below hb7
   have hd7:=hd6.below hb7
   have hg7:=hg6.trans (Zad hb7 (some p))
   have hs7:p6 < w6.heap.size:=k66.lt
   obtain ⟨w7,hw7⟩:=Zaf ((w6.alloc (.cells Zag.toArray 26)).setRow w6.heap.size rx.toArray)
   have hw7l:Hid (w7=(w6.alloc (.cells #[.int .u8 0,.int .i64 0,.string ⟨#[]⟩,.string ⟨#[]⟩,.slice none 0 0,.slice none 0 0] 26)).setRow w6.heap.size rx.toArray):=hw7
   rw[←hw7.out]at kvrx k67 hd7 hg7 hb7
   have hva7:EAt w7 (Up w7 (fun b=>p6 < b∧0≤b)) a rx:=(hvx.imp (Q:=Up w6 (fun b=>p6 < b∧0≤b)) (fun b hb=>⟨⟨by have:w5.heap.size≤b:=hb.1;omega,Nat.zero_le _⟩,hb.2⟩)).up (Zad hb7 (some p)) (fun b hb=>by have:=hb.1;omega)
   obtain ⟨pa,hpa⟩:=Zaf w6.heap.size
   rw[←hpa.out]at kvrx hs7
   have hb8:=Zac w7 (.cells #[.string ⟨#[116,104,101,110]⟩] 9)
   have hx8:TxS (w7.alloc (.cells #[.string ⟨#[116,104,101,110]⟩] 9)) (some ⟨w7.heap.size,0,none⟩) [Zeu]:=Zfi w7 [Zeu]
   have hd8:=hd7.below hb8
   have hg8:=hg7.trans (Zad hb8 (some p))
   have k68:=k67.below hb8
   have kva8:=kvrx.below hb8
   have hva8:=hva7.up (Zad hb8 (some p)) (fun b hb=>by have:=hb.1;omega)
   obtain ⟨w8,hw8⟩:=Zaf (w7.alloc (.cells #[.string ⟨#[116,104,101,110]⟩] 9))
   rw[←hw8.out]at hx8 hd8 hg8 k68 kva8 hva8
   have hnd0:=Zmv 1 [Zeu] _ 1 p w8 r1 hd8 (by decide) hx8 hok1
   have hnd:Calls Tryz.prog 100 #[.pointer (some ⟨p,0,none⟩),.int .u8 1,.slice (some ⟨w7.heap.size,0,none⟩) 1 1] w8 fun e w'=>Zhk p w8 (Zmy 1 [Zeu] r1) (fun s _ v=>v=.string (str s)) e w':=hnd0
   rw[Zve]at hnd
   clear hnd0 hx8 hb8 hb7 k67 hd7 hg7 hd6 hg6' hg6 k66 hd5 hg5 k65 h1 hy kvrx hva7
   go_wp2_with (first
    | (at_builtin;fail)
    | (refine wpList_store_row rfl 26 _ _ rfl _ rx.toArray rfl rfl 26 Zag.toArray (Blk.new w6 Zag 26) (kE6 hlenrx) (zE6 hlenrx) (Zas (Zcy hvx)) ?_;rw[←hw7l.out]))
   rw[←hw8.out]
   try rw[←hpa.out]
   refine hnd.mono ?_
   clear hnd hw7 hw7l hw8 hvx hlenrx
   rintro e9 w9 ⟨hg9',h⟩
   rcases Zca hy1 with ⟨e0,h1,hq⟩|⟨_,r2,h1,hy2⟩
   · rw[h1]at h
     obtain ⟨h2,rfl⟩:=h
     refine ⟨rfl,?_⟩
     rw[hq]
     exact ⟨hg8.trans hg9',h2,rfl⟩
   rw[h1]at h
   obtain ⟨hd9,v,rfl,rfl⟩:=h
   have hok2:Zhb r2:=by
    obtain ⟨t2,e2⟩:=Zon h1
    exact hok1.sfx (by rw[e2];exact List.suffix_cons _ _)
   have hg9:=hg8.trans hg9'
   have k69:=k68.grown hg9' (by omega)
   have kva9:=kva8.grown hg9' (by omega)
   have hva9:=hva8.up hg9' (fun b hb=>by have:=hb.1;omega)
   clear h1 hy1 hg8 hg9' k68 kva8 hva8 hd8
   go_wp2_with (first|(at_builtin;fail))
   rcases Zbp hy2 with ⟨e0,h1,hq⟩|⟨b,r3,h1,hy3⟩
   · refine (hX f' hf' p w0 w9 r2 (.error e0) hd9 hok2 (hE.step hg9) h1).mono ?_
     rintro e9 wA ⟨hgA,hdA,rfl⟩
     refine ⟨rfl,?_⟩
     rw[hq]
     exact ⟨hg9.trans hgA,hdA,rfl⟩
   refine (hX f' hf' p w0 w9 r2 (.ok (b,r3)) hd9 hok2 (hE.step hg9) h1).mono ?_
   rintro e9 wA ⟨hgA',hdA,v9,rfl,ry,rfl,hvy,-⟩
   have hok3:=hok2.sfx (Zmx f' _ _ _ h1).1
   have hgA:=hg9.trans hgA'
   have k6A:=k69.grown hgA' (by omega)
   have kvaA:=kva9.grown hgA' (by omega)
   have hvaA:=hva9.up hgA' (fun b hb=>by have:=hb.1;omega)
   have hs9:=k69.lt
   have hlenry:=Zby hvy
   have hbB:=Zah (Zac wA (.cells Zag.toArray 26)) (Nat.le_refl _) ry.toArray
   have kvry:Blk ((wA.alloc (.cells Zag.toArray 26)).setRow wA.heap.size ry.toArray) wA.heap.size ry 26:=(Blk.new wA Zag 26).vrow _
   have k6B:=k6A.below hbB
   have hdB:=hdA.below hbB
   have hgB:=hgA.trans (Zad hbB (some p))
   have hsB:p6 < wA.heap.size:=k6A.lt
   have kvaB:=kvaA.below hbB
   obtain ⟨wB,hwB⟩:=Zaf ((wA.alloc (.cells Zag.toArray 26)).setRow wA.heap.size ry.toArray)
   have hwBl:Hid (wB=(wA.alloc (.cells #[.int .u8 0,.int .i64 0,.string ⟨#[]⟩,.string ⟨#[]⟩,.slice none 0 0,.slice none 0 0] 26)).setRow wA.heap.size ry.toArray):=hwB
   rw[←hwB.out]at kvry k6B hdB hgB hbB kvaB
   have hvaB:=hvaA.up (Zad hbB (some p)) (fun b hb=>by have:=hb.1;omega)
   have hvbB:EAt wB (Up wB (fun b=>p6 < b∧0≤b)) b ry:=(hvy.imp (Q:=Up wA (fun b=>p6 < b∧0≤b)) (fun b hb=>⟨⟨by have:w9.heap.size≤b:=hb.1;omega,Nat.zero_le _⟩,hb.2⟩)).up (Zad hbB (some p)) (fun b hb=>by have:=hb.1;omega)
   obtain ⟨pb,hpb⟩:=Zaf wA.heap.size
   rw[←hpb.out]at kvry hsB
   have hbC:=Zac wB (.cells #[.string ⟨#[101,108,115,101]⟩] 9)
   have hxC:TxS (wB.alloc (.cells #[.string ⟨#[101,108,115,101]⟩] 9)) (some ⟨wB.heap.size,0,none⟩) [Zem]:=Zfi wB [Zem]
   have hdC:=hdB.below hbC
   have hgC:=hgB.trans (Zad hbC (some p))
   have k6C:=k6B.below hbC
   have kvaC:=kvaB.below hbC
   have kvbC:=kvry.below hbC
   have hvaC:=hvaB.up (Zad hbC (some p)) (fun b hb=>by have:=hb.1;omega)
   have hvbC:=hvbB.up (Zad hbC (some p)) (fun b hb=>by have:=hb.1;omega)
   obtain ⟨wC,hwC⟩:=Zaf (wB.alloc (.cells #[.string ⟨#[101,108,115,101]⟩] 9))
   rw[←hwC.out]at hxC hdC hgC k6C kvaC kvbC hvaC hvbC
   have hnd0:=Zmv 1 [Zem] _ 1 p wC r3 hdC (by decide) hxC hok3
   have hnd:Calls Tryz.prog 100 #[.pointer (some ⟨p,0,none⟩),.int .u8 1,.slice (some ⟨wB.heap.size,0,none⟩) 1 1] wC fun e w'=>Zhk p wC (Zmy 1 [Zem] r3) (fun s _ v=>v=.string (str s)) e w':=hnd0
   rw[Zve]at hnd
   clear hnd0 hxC hbC hbB k6B hdB hgB hdA hgA' hgA k6A hd9 hg9 k69 h1 hy2 kvry kvaB kvaA hvaA hvaB hvbB kva9 hva9
   go_wp2_with (first
    | (at_builtin;fail)
    | (refine wpList_store_row rfl 26 _ _ rfl _ ry.toArray rfl rfl 26 Zag.toArray (Blk.new wA Zag 26) (kE6 hlenry) (zE6 hlenry) (Zas (Zcy hvy)) ?_;rw[←hwBl.out]))
   rw[←hwC.out]
   try rw[←hpb.out]
   refine hnd.mono ?_
   clear hnd hwB hwBl hwC hvy hlenry
   rintro e9 wD ⟨hgD',h⟩
   rcases Zca hy3 with ⟨e0,h1,hq⟩|⟨_,r4,h1,hy4⟩
   · rw[h1]at h
     obtain ⟨h2,rfl⟩:=h
     refine ⟨rfl,?_⟩
     rw[hq]
     exact ⟨hgC.trans hgD',h2,rfl⟩
   rw[h1]at h
   obtain ⟨hdD,v,rfl,rfl⟩:=h
   have hok4:Zhb r4:=by
    obtain ⟨t2,e2⟩:=Zon h1
    exact hok3.sfx (by rw[e2];exact List.suffix_cons _ _)
   have hgS:=hgC.trans hgD'
   have kT:=k6C.grown hgD' (by omega)
   have kb1:=kvaC.grown hgD' (by omega)
   have kb2:=kvbC.grown hgD' (by omega)
   have hv1:=hvaC.up hgD' (fun b hb=>by have:=hb.1;omega)
   have hv2:=hvbC.up hgD' (fun b hb=>by have:=hb.1;omega)
   have hdS:=hdD
   clear h1 hy3 hgC hgD' k6C kvaC kvbC hvaC hvbC hdC hdD
   go_upto_region 8 with (first|(at_builtin;fail))
   obtain ⟨o1,n1,s1,t1,A1,a1,c1,B1,b1,d1,hre0,-⟩:=Zbu hv1
   have hre1:=Zai hre0
   clear hre0
   obtain ⟨o2,n2,s2,t2,A2,a2,c2,B2,b2,d2,hre0,-⟩:=Zbu hv2
   have hre2:=Zai hre0
   clear hre0
   have hwS:w.heap.size≤wD.heap.size:=hgS.size
   have hwt:w.heap.size≤p6:=HB2.out
   have hltS:=kT.lt
   have hlta:=kb1.lt
   have hltb:=kb2.lt
   rcases Zbp hy4 with ⟨e0,h1,hq⟩|⟨eC,rB,h1,hnext⟩
   · have hone:∀ (u:World),Zbg u p r4→Env w0 p u→Calls Tryz.prog 55 #[.pointer (some ⟨p,0,none⟩)] u fun e w'=>u.grownBy w' (some p)∧Zbg w' p e0∧e=.panicked Zgu:=fun u x y=>hX f' hf' p w0 u r4 (.error e0) x hok4 y h1
     have hS0:w.grownBy wD.drew (some p)∧wD.heap.size≤wD.drew.heap.size∧((fun _:Nat=>false) 6=false→Blk wD.drew p6 Zag 26)∧Zbg wD.drew p r4∧EAt wD.drew (Up wD.drew (fun b=>p6 < b∧0≤b)) a rx∧Blk wD.drew pa rx 26∧EAt wD.drew (Up wD.drew (fun b=>p6 < b∧0≤b)) b ry∧Blk wD.drew pb ry 26:=⟨hgS.trans (Zad (Zaj (Below.refl _ _)) _),Nat.le_refl _,fun _=>kT,hdS,hv1.up (Zad (Zaj (Below.refl _ _)) (some p)) (fun b hb=>by have:=hb.1;omega),kb1,hv2.up (Zad (Zaj (Below.refl _ _)) (some p)) (fun b hb=>by have:=hb.1;omega),kb2⟩
     refine Zcz (fun ex u=>ex=.panic Zgu∧y=.error e0∧w.grownBy u (some p)∧Zbg u p e0) (by
      rintro ex b u hb ⟨rfl,h1,h2,h3⟩
      refine ⟨hb,?_⟩
      rw[h1]
      exact ⟨h2,h3,rfl⟩) (fun L _ u=>w.grownBy u (some p)∧wD.heap.size≤u.heap.size∧(L 6=false→Blk u p6 Zag 26)∧Zbg u p r4∧EAt u (Up u (fun b=>p6 < b∧0≤b)) a rx∧Blk u pa rx 26∧EAt u (Up u (fun b=>p6 < b∧0≤b)) b ry∧Blk u pb ry 26) (fun i u u'=>(i ≠ 6→u.grownBy u' (some p))∧(i=6→u.grownBy u' (some p6))) _ (by kernel_rfl) (by kernel_rfl) (fun v=>by simp only[Zbx,Act.put,List.toList_toArray,Zl2,Zl0,Zl1,Nat.reduceAdd,Nat.zero_add];rfl) hS0 (fun L L' v u hL h=>by rw[←hL 6 (by decide)];exact h) ?_
     refine Zat [] _ (fun L hL hcl v u hS hd K' hK=>by
      simp only[Act.put,Zl2,Zl0,Zl1]at hK
      have k7:=hS.2.2.2.2.2.1
      rw[hre1.out]at k7
      have q10:u.cell? ⟨pa,0,none⟩=some (.int .u8 (o1:Int)):=k7.cell 0
      have q11:u.cell? ⟨pa,1,none⟩=some (.int .i64 n1):=k7.cell 1
      have q12:u.cell? ⟨pa,2,none⟩=some (.string s1):=k7.cell 2
      have q13:u.cell? ⟨pa,3,none⟩=some (.string t1):=k7.cell 3
      have q14:u.cell? ⟨pa,4,none⟩=some (.slice A1 a1 c1):=k7.cell 4
      have q15:u.cell? ⟨pa,5,none⟩=some (.slice B1 b1 d1):=k7.cell 5
      go_simp
      exact hK.out _ ⟨⟨hS.1,hS.2.1,fun h=>hS.2.2.1 (by simpa using h),hS.2.2.2.1,hS.2.2.2.2.1,hS.2.2.2.2.2.1,hS.2.2.2.2.2.2.1,hS.2.2.2.2.2.2.2⟩,⟨fun _=>Zab _ _,fun h=>by cases h⟩⟩) (by kernel_rfl) (j:=1) rfl ?_
     refine Zat [] _ (fun L hL hcl v u hS hd K' hK=>by
      simp only[Act.put,Zl2,Zl0,Zl1]at hK
      have k7:=hS.2.2.2.2.2.2.2
      rw[hre2.out]at k7
      have q20:u.cell? ⟨pb,0,none⟩=some (.int .u8 (o2:Int)):=k7.cell 0
      have q21:u.cell? ⟨pb,1,none⟩=some (.int .i64 n2):=k7.cell 1
      have q22:u.cell? ⟨pb,2,none⟩=some (.string s2):=k7.cell 2
      have q23:u.cell? ⟨pb,3,none⟩=some (.string t2):=k7.cell 3
      have q24:u.cell? ⟨pb,4,none⟩=some (.slice A2 a2 c2):=k7.cell 4
      have q25:u.cell? ⟨pb,5,none⟩=some (.slice B2 b2 d2):=k7.cell 5
      go_simp
      exact hK.out _ ⟨⟨hS.1,hS.2.1,fun h=>hS.2.2.1 (by simpa using h),hS.2.2.2.1,hS.2.2.2.2.1,hS.2.2.2.2.2.1,hS.2.2.2.2.2.2.1,hS.2.2.2.2.2.2.2⟩,⟨fun _=>Zab _ _,fun h=>by cases h⟩⟩) (by kernel_rfl) (j:=2) rfl ?_
     refine Zat [] _ (fun L hL hcl v u hS hd K' hK=>by
      simp only[Act.put,Zl2,Zl0,Zl1]at hK
      go_simp
      exact hK.out _ ⟨⟨hS.1,hS.2.1,fun h=>hS.2.2.1 (by simpa using h),hS.2.2.2.1,hS.2.2.2.2.1,hS.2.2.2.2.2.1,hS.2.2.2.2.2.2.1,hS.2.2.2.2.2.2.2⟩,⟨fun _=>Zab _ _,fun h=>by cases h⟩⟩) (by kernel_rfl) (j:=3) rfl ?_
     refine Zar [2] (fun _ _=>False) ((fun _ _ _ _ _ _ h=>h)) (fun L hL hcl v u hS hd K' hK=>by
      simp only[Zal,Zak,eqv,Zl3,Zl4,Nat.reduceSub]at hd
      simp only[Act.put,Zl2,Zl0,Zl1]at hK
      try simp only[hd]at hK
      go_simp
      refine (hone u hS.2.2.2.1 (hE.step hS.1)).mono ?_
      rintro e9 u1 ⟨hg9,hd9,rfl⟩
      first|exact ⟨rfl,hq,hS.1.trans hg9,hd9⟩|exact ⟨rfl,hS.1.trans hg9,hd9⟩|exact ⟨hS.1.trans hg9,hd9⟩) (by kernel_rfl) (j:=4) rfl ?_
     refine Zar [0,1,3] (fun _ _=>False) ((fun _ _ _ _ _ _ h=>h)) (fun L hL hcl v u hS hd K' hK=>by
      simp only[Zal,Zak,eqv,Zl3,Zl4,Nat.reduceSub]at hd
      try exact hd.2.2.elim) (by kernel_rfl) (j:=5) rfl ?_
     refine Zar [4] (fun _ _=>False) ((fun _ _ _ _ _ _ h=>h)) (fun L hL hcl v u hS hd K' hK=>by
      simp only[Zal,Zak,eqv,Zl3,Zl4,Nat.reduceSub]at hd
      try first|exact hd.elim|exact hd.2.elim) (by kernel_rfl) (j:=6) rfl ?_
     refine Zar [5] (fun _ _=>False) ((fun _ _ _ _ _ _ h=>h)) (fun L hL hcl v u hS hd K' hK=>by
      simp only[Zal,Zak,eqv,Zl3,Zl4,Nat.reduceSub]at hd
      try exact hd.elim) (by kernel_rfl) (j:=7) rfl ?_
     refine Zee [6] (by decide) ?_
     rintro v u hS hR
     simp only[Zal,Zak,eqv,Zl3,Zl4,Nat.reduceSub]at hR
     try exact hR.elim
   · have hone:∀ (u:World),Zbg u p r4→Env w0 p u→Calls Tryz.prog 55 #[.pointer (some ⟨p,0,none⟩)] u fun e w'=>u.grownBy w' (some p)∧Zbg w' p rB∧∃ v,e=.returned v∧ExV u.heap.size eC w' v:=fun u x y=>hX f' hf' p w0 u r4 (.ok (eC,rB)) x hok4 y h1
     have HQ:Hid (y=.ok (Zbk 14 [a,b,eC],rB)):=Zai (Option.some.inj hnext).symm
     clear hnext h1 hy4
     have hS0:w.grownBy wD.drew (some p)∧wD.heap.size≤wD.drew.heap.size∧((fun _:Nat=>false) 6=false→Blk wD.drew p6 Zag 26)∧Zbg wD.drew p (if (fun _:Nat=>false) 3 then rB else r4)∧EAt wD.drew (Up wD.drew (fun b=>p6 < b∧0≤b)) a rx∧Blk wD.drew pa rx 26∧EAt wD.drew (Up wD.drew (fun b=>p6 < b∧0≤b)) b ry∧Blk wD.drew pb ry 26:=⟨hgS.trans (Zad (Zaj (Below.refl _ _)) _),Nat.le_refl _,fun _=>kT,hdS,hv1.up (Zad (Zaj (Below.refl _ _)) (some p)) (fun b hb=>by have:=hb.1;omega),kb1,hv2.up (Zad (Zaj (Below.refl _ _)) (some p)) (fun b hb=>by have:=hb.1;omega),kb2⟩
     refine Zap (fun L _ u=>w.grownBy u (some p)∧wD.heap.size≤u.heap.size∧(L 6=false→Blk u p6 Zag 26)∧Zbg u p (if L 3 then rB else r4)∧EAt u (Up u (fun b=>p6 < b∧0≤b)) a rx∧Blk u pa rx 26∧EAt u (Up u (fun b=>p6 < b∧0≤b)) b ry∧Blk u pb ry 26) (fun i u u'=>(i ≠ 6→u.grownBy u' (some p))∧(i=6→u.grownBy u' (some p6))) _ (by kernel_rfl) (by kernel_rfl) (fun v=>by simp only[Zbx,Act.put,List.toList_toArray,Zl2,Zl0,Zl1,Nat.reduceAdd,Nat.zero_add];rfl) hS0 (fun L L' v u hL h=>by rw[←hL 3 (by decide),←hL 6 (by decide)];exact h) ?_
     refine Zaa [] _ (fun L hL hcl v u hS hd K' hK=>by
      simp only[Act.put,Zl2,Zl0,Zl1]at hK
      have k7:=hS.2.2.2.2.2.1
      rw[hre1.out]at k7
      have q10:u.cell? ⟨pa,0,none⟩=some (.int .u8 (o1:Int)):=k7.cell 0
      have q11:u.cell? ⟨pa,1,none⟩=some (.int .i64 n1):=k7.cell 1
      have q12:u.cell? ⟨pa,2,none⟩=some (.string s1):=k7.cell 2
      have q13:u.cell? ⟨pa,3,none⟩=some (.string t1):=k7.cell 3
      have q14:u.cell? ⟨pa,4,none⟩=some (.slice A1 a1 c1):=k7.cell 4
      have q15:u.cell? ⟨pa,5,none⟩=some (.slice B1 b1 d1):=k7.cell 5
      go_simp
      exact hK.out _ ⟨⟨hS.1,hS.2.1,fun h=>hS.2.2.1 (by simpa using h),by simpa using hS.2.2.2.1,hS.2.2.2.2.1,hS.2.2.2.2.2.1,hS.2.2.2.2.2.2.1,hS.2.2.2.2.2.2.2⟩,⟨fun _=>Zab _ _,fun h=>by cases h⟩⟩) (by kernel_rfl) (j:=1) rfl ?_
     refine Zaa [] _ (fun L hL hcl v u hS hd K' hK=>by
      simp only[Act.put,Zl2,Zl0,Zl1]at hK
      have k7:=hS.2.2.2.2.2.2.2
      rw[hre2.out]at k7
      have q20:u.cell? ⟨pb,0,none⟩=some (.int .u8 (o2:Int)):=k7.cell 0
      have q21:u.cell? ⟨pb,1,none⟩=some (.int .i64 n2):=k7.cell 1
      have q22:u.cell? ⟨pb,2,none⟩=some (.string s2):=k7.cell 2
      have q23:u.cell? ⟨pb,3,none⟩=some (.string t2):=k7.cell 3
      have q24:u.cell? ⟨pb,4,none⟩=some (.slice A2 a2 c2):=k7.cell 4
      have q25:u.cell? ⟨pb,5,none⟩=some (.slice B2 b2 d2):=k7.cell 5
      go_simp
      exact hK.out _ ⟨⟨hS.1,hS.2.1,fun h=>hS.2.2.1 (by simpa using h),by simpa using hS.2.2.2.1,hS.2.2.2.2.1,hS.2.2.2.2.2.1,hS.2.2.2.2.2.2.1,hS.2.2.2.2.2.2.2⟩,⟨fun _=>Zab _ _,fun h=>by cases h⟩⟩) (by kernel_rfl) (j:=2) rfl ?_
     refine Zaa [] _ (fun L hL hcl v u hS hd K' hK=>by
      simp only[Act.put,Zl2,Zl0,Zl1]at hK
      go_simp
      exact hK.out _ ⟨⟨hS.1,hS.2.1,fun h=>hS.2.2.1 (by simpa using h),by simpa using hS.2.2.2.1,hS.2.2.2.2.1,hS.2.2.2.2.2.1,hS.2.2.2.2.2.2.1,hS.2.2.2.2.2.2.2⟩,⟨fun _=>Zab _ _,fun h=>by cases h⟩⟩) (by kernel_rfl) (j:=3) rfl ?_
     refine Zam [2] (fun v u=>∃ (o9:Nat) (n9:Int) (s9 t9:ByteArray) (A9:Option Addr) (a9 c9:Nat) (B9:Option Addr) (b9 d9:Nat),v=.agg #[.int .u8 (o9:Int),.int .i64 n9,.string s9,.string t9,.slice A9 a9 c9,.slice B9 b9 d9]∧EAt u (Up u (fun b=>wD.heap.size≤b)) eC (Zav o9 n9 s9 t9 (.slice A9 a9 c9) (.slice B9 b9 d9))) ((by
      rintro j x u u' hj hg ⟨o9,n9,s9,t9,A9,a9,c9,B9,b9,d9,h1,h2⟩
      refine ⟨o9,n9,s9,t9,A9,a9,c9,B9,b9,d9,h1,?_⟩
      by_cases e:j=6
      · exact h2.up (hg.2 e) (fun b hb=>by omega)
      · exact h2.up (hg.1 e) (fun b hb=>by omega))) (fun L hL hcl v u hS hd K' hK=>by
      simp only[Zal,Zak,eqv,Zl3,Zl4,Nat.reduceSub]at hd
      simp only[Act.put,Zl2,Zl0,Zl1]at hK
      try simp only[hd]at hK
      go_simp
      refine (hone u (by have:=hS.2.2.2.1;rw[hL]at this;exact this) (hE.step hS.1)).mono ?_
      rintro e9 u1 ⟨hg9,hd9,v9,rfl,r9,rfl,hv9,-⟩
      obtain ⟨o9,n9,s9,t9,A9,a9,c9,B9,b9,d9,rfl,-⟩:=Zbu hv9
      exact hK.out _ _ ⟨⟨hS.1.trans hg9,Nat.le_trans hS.2.1 hg9.size,fun h=>(hS.2.2.1 (by simpa using h)).grown hg9 (by omega),by simpa using hd9,hS.2.2.2.2.1.up hg9 (fun b hb=>by have:=hb.1;omega),hS.2.2.2.2.2.1.grown hg9 (by omega),hS.2.2.2.2.2.2.1.up hg9 (fun b hb=>by have:=hb.1;omega),hS.2.2.2.2.2.2.2.grown hg9 (by omega)⟩,⟨fun _=>hg9,fun h=>by cases h⟩,o9,n9,s9,t9,A9,a9,c9,B9,b9,d9,rfl,hv9.imp (fun b hb=>⟨Nat.le_trans hS.2.1 hb.1,hb.2⟩)⟩) (by kernel_rfl) (j:=4) rfl ?_
     refine Zam [0,1,3] (fun v u=>∃ (g:Nat) (rb:List Value),v=.slice (some ⟨g,0,none⟩) 3 3∧wD.heap.size≤g∧Blk u g (rx ++ (ry ++ rb)) 26∧EAt u (Up u (fun b=>wD.heap.size≤b)) eC rb) ((by
      rintro j x u u' hj hg ⟨g,rb,h1,h2,h3,h4⟩
      refine ⟨g,rb,h1,h2,?_⟩
      by_cases e:j=6
      · exact ⟨h3.grown (hg.2 e) (by omega),h4.up (hg.2 e) (fun b hb=>by omega)⟩
      · exact ⟨h3.grown (hg.1 e) (by omega),h4.up (hg.1 e) (fun b hb=>by omega)⟩)) (fun L hL hcl v u hS hd K' hK=>by
      simp only[Zal,Zak,eqv,Zl3,Zl4,Nat.reduceSub]at hd
      simp only[Act.put,Zl2,Zl0,Zl1]at hK
      try simp only[hd]at hK
      obtain ⟨h00,h01,o9,n9,s9,t9,A9,a9,c9,B9,b9,d9,h1,hv⟩:=hd
      simp only[h00,h01,h1]at hK
      simp only[h00,h01,h1]
      go_simp
      have hb9:=Zac u (.cells ((Zav o1 n1 s1 t1 (.slice A1 a1 c1) (.slice B1 b1 d1)) ++ ((Zav o2 n2 s2 t2 (.slice A2 a2 c2) (.slice B2 b2 d2)) ++ (Zav o9 n9 s9 t9 (.slice A9 a9 c9) (.slice B9 b9 d9)))).toArray 26)
      have hg9:=Zad hb9 (some p)
      have k9:=Blk.new u ((Zav o1 n1 s1 t1 (.slice A1 a1 c1) (.slice B1 b1 d1)) ++ ((Zav o2 n2 s2 t2 (.slice A2 a2 c2) (.slice B2 b2 d2)) ++ (Zav o9 n9 s9 t9 (.slice A9 a9 c9) (.slice B9 b9 d9)))) 26
      have hh:=hK.out (.slice (some ⟨u.heap.size,0,none⟩) 3 3) _ ⟨⟨hS.1.trans hg9,Nat.le_trans hS.2.1 hg9.size,fun h=>(hS.2.2.1 (by simpa using h)).grown hg9 (by omega),by simpa using hS.2.2.2.1.below hb9,hS.2.2.2.2.1.up hg9 (fun b hb=>by have:=hb.1;omega),hS.2.2.2.2.2.1.grown hg9 (by omega),hS.2.2.2.2.2.2.1.up hg9 (fun b hb=>by have:=hb.1;omega),hS.2.2.2.2.2.2.2.grown hg9 (by omega)⟩,⟨fun _=>hg9,fun h=>by cases h⟩,u.heap.size,(Zav o9 n9 s9 t9 (.slice A9 a9 c9) (.slice B9 b9 d9)),rfl,hS.2.1,by rw[hre1.out,hre2.out];exact k9,hv.up hg9 (fun b hb=>by omega)⟩
      exact hh) (by kernel_rfl) (j:=5) rfl ?_
     refine Zam [4] (fun v u=>∃ (g:Nat) (rb:List Value),v=.agg (Zav 14 0 ⟨#[]⟩ ⟨#[]⟩ (.slice none 0 0) (.slice (some ⟨g,0,none⟩) 3 3)).toArray∧wD.heap.size≤g∧Blk u g (rx ++ (ry ++ rb)) 26∧EAt u (Up u (fun b=>wD.heap.size≤b)) eC rb) ((by
      rintro j x u u' hj hg ⟨g,rb,h1,h2,h3,h4⟩
      refine ⟨g,rb,h1,h2,?_⟩
      by_cases e:j=6
      · exact ⟨h3.grown (hg.2 e) (by omega),h4.up (hg.2 e) (fun b hb=>by omega)⟩
      · exact ⟨h3.grown (hg.1 e) (by omega),h4.up (hg.1 e) (fun b hb=>by omega)⟩)) (fun L hL hcl v u hS hd K' hK=>by
      simp only[Zal,Zak,eqv,Zl3,Zl4,Nat.reduceSub]at hd
      simp only[Act.put,Zl2,Zl0,Zl1]at hK
      try simp only[hd]at hK
      obtain ⟨g,rb,h1,h2,h3,h4⟩:=hd
      simp only[h1]at hK ⊢
      go_simp
      refine (Zjp 14 (some ⟨g,0,none⟩) 3 3 u).mono ?_
      rintro e9 u1 ⟨rfl,hb9⟩
      have hg9:=Zad hb9 (some p)
      exact hK.out _ _ ⟨⟨hS.1.trans hg9,Nat.le_trans hS.2.1 hg9.size,fun h=>(hS.2.2.1 (by simpa using h)).grown hg9 (by omega),by simpa using hS.2.2.2.1.below hb9,hS.2.2.2.2.1.up hg9 (fun b hb=>by have:=hb.1;omega),hS.2.2.2.2.2.1.grown hg9 (by omega),hS.2.2.2.2.2.2.1.up hg9 (fun b hb=>by have:=hb.1;omega),hS.2.2.2.2.2.2.2.grown hg9 (by omega)⟩,⟨fun _=>hg9,fun h=>by cases h⟩,g,rb,rfl,h2,h3.below hb9,h4.up hg9 (fun b hb=>by omega)⟩) (by kernel_rfl) (j:=6) rfl ?_
     refine Zam [5] (fun _ u=>∃ (g:Nat) (rb:List Value),Blk u p6 (Zav 14 0 ⟨#[]⟩ ⟨#[]⟩ (.slice none 0 0) (.slice (some ⟨g,0,none⟩) 3 3)) 26∧wD.heap.size≤g∧Blk u g (rx ++ (ry ++ rb)) 26∧EAt u (Up u (fun b=>wD.heap.size≤b)) eC rb) ((by
      rintro j x u u' hj hg ⟨g,rb,h1,h2,h3,h4⟩
      exact ⟨g,rb,h1.grown (hg.1 hj) (by omega),h2,h3.grown (hg.1 hj) (by omega),h4.up (hg.1 hj) (fun b hb=>by omega)⟩)) (fun L hL hcl v u hS hd K' hK=>by
      simp only[Zal,Zak,eqv,Zl3,Zl4,Nat.reduceSub]at hd
      obtain ⟨g,rb,h1,h2,h3,h4⟩:=hd
      have k7:=hS.2.2.1 hL
      refine Zbe rfl ?_
      refine wp_store_row 26 _ _ rfl _ (Zav 14 0 ⟨#[]⟩ ⟨#[]⟩ (.slice none 0 0) (.slice (some ⟨g,0,none⟩) 3 3)).toArray rfl h1 26 Zag.toArray k7 (kE6 rfl) rfl (Zas Zcd) ?_
      have hgr:=Zbc u p6 (Zav 14 0 ⟨#[]⟩ ⟨#[]⟩ (.slice none 0 0) (.slice (some ⟨g,0,none⟩) 3 3)).toArray
      refine hK.out undef _ ⟨⟨Zaq hS.1 hwt _,by rw[Zgn];exact hS.2.1,fun h=>by simp at h,by simpa using hS.2.2.2.1.row (show p < p6 by omega) _,hS.2.2.2.2.1.up hgr (fun b hb=>by have:=hb.1;omega),hS.2.2.2.2.2.1.grown hgr (by omega),hS.2.2.2.2.2.2.1.up hgr (fun b hb=>by have:=hb.1;omega),hS.2.2.2.2.2.2.2.grown hgr (by omega)⟩,⟨fun h=>absurd rfl h,fun _=>hgr⟩,g,rb,k7.vrow _,h2,h3.grown hgr (by omega),h4.up hgr (fun b hb=>by omega)⟩) (by kernel_rfl) (j:=7) rfl ?_
     refine Zau [6] (by decide) ?_
     rintro v u hS hR
     simp only[Zal,Zak,eqv,Zl3,Zl4,Nat.reduceSub]at hR
     obtain ⟨g,rb,q1,q2,q3,q4⟩:=hR
     have z0:=hS.1
     have z3:Zbg u p rB:=by simpa using hS.2.2.2.1
     have z4:=hS.2.2.2.2.1
     have z5:=hS.2.2.2.2.2.2.1
     clear hS hS0 hone
     have hlt:=q3.lt
     go_wp2_with (first|(at_builtin;fail))
     refine bodyPost_ret (Zfz rfl _ rfl q1 rfl) rfl ?_
     rw[HQ.out]
     refine ⟨z0,z3,_,rfl,_,rfl,?_,?_⟩
     · refine Zfg (l:=[a,b,eC]) (rows:=[rx,ry,rb]) (by decide) ⟨by omega,by omega⟩ (by decide) (by decide) (show 3 * 96≤Zbq by decide) (Nat.le_refl _) (by simpa using q3) ⟨Nat.le_trans hwS q2,hlt⟩ ?_
       exact esAt_three (z4.imp (fun b hb=>⟨by have:=hb.1;omega,hb.2⟩)) (z5.imp (fun b hb=>⟨by have:=hb.1;omega,hb.2⟩)) (q4.imp (fun b hb=>⟨Nat.le_trans hwS hb.1,hb.2⟩))
     · exact Zid q3 (by rw[hre1.out,hre2.out];simp only[List.length_append,Zby q4];exact (by decide:3 * 6≤6+(6+6)))
end Go.Proofs.YtnhooehmcggmdaaGreatDoor
