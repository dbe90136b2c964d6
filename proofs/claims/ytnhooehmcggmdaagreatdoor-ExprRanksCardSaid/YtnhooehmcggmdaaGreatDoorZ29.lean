/- Parts of a proof about the given program: XRdW11, XRdW12. -/
import Derived.Test.YtnhooehmcggmdaaGreatDoorZ28
namespace Go.Proofs.YtnhooehmcggmdaaGreatDoor
set_option maxHeartbeats 16000000
set_option linter.unusedVariables false
set_option linter.unusedSimpArgs false
set_option linter.unusedSectionVars false
open Go.RowKit
theorem u8_27 (i:Nat) (h:i < 3):Value.int .u8 (IntKind.u8.wrap (27+IntKind.u8.wrap (i:Int)))=.int .u8 ((27+i:Nat):Int):=by
 rw[Zom i (by omega)]
 have:(27:Int)+(i:Int)=((27+i:Nat):Int):=by omega
 rw[this,Zom (27+i) (by omega)]
set_option maxRecDepth 100000 in
theorem rmember_w (n:Nat) (hP:Zla 202 (.lv 7) n) (hX:Zla 55 .expr n):Zla 200 (.lv 6) (n+1):=by
 intro f hf p w0 w ts y hr hok hE hy
 have hplt:=hr.lt
 have hb0:=Zac w (.cells Zag.toArray 26)
 have k60:=Blk.new w Zag 26
 obtain ⟨W,hW⟩:=Zaf (w.alloc (.cells Zag.toArray 26))
 have hWl:Hid (W=w.alloc (.cells #[.int .u8 0,.int .i64 0,.string ⟨#[]⟩,.string ⟨#[]⟩,.slice none 0 0,.slice none 0 0] 26)):=hW
 replace k60:Blk W w.heap.size Zag 26:=by rw[hW.out];exact k60
 rw[←hW.out]at hb0
 obtain ⟨f',rfl⟩:∃ f',f=f'+1:=by
  cases f with
  | zero=>cases hy
  | succ f'=>exact ⟨f',rfl⟩
 have hy2:Zcn (pr f' (.lv 7) ts) (fun e r=>pr f' (.memT e) r)=some y:=hy
 have hd0:=hr.below hb0
 clear hy hW
 go_enter Tryz.func200,Tryz.ntmps200
 rcases Zbp hy2 with ⟨e0,h1,rfl⟩|⟨e1,r0,h1,h2⟩
 · have hone:=hP f' (by omega) p w0 W ts (.error e0) hd0 hok (hE.step (Zad hb0 _)) h1
   clear hy2 h1
   go_wp2_with (first|(at_builtin;fail))
   rw[←hWl.out]
   refine hone.mono ?_
   rintro e9 w1 ⟨hg1,hd1,rfl⟩
   exact ⟨rfl,(Zad hb0 _).trans hg1,hd1,rfl⟩
 · have hone:=hP f' (by omega) p w0 W ts (.ok (e1,r0)) hd0 hok (hE.step (Zad hb0 _)) h1
   have hsf:=(Zmx f' _ _ _ h1).1
   have hok0:=hok.sfx hsf
   have HY:Hid (∃ f,f≤n+1∧pr f (.memT e1) r0=some y):=⟨f',by omega,h2⟩
   clear hy2 h1 h2 hsf
   go_wp2_with (first|(at_builtin;fail))
   rw[←hWl.out]
   refine hone.mono ?_
   rintro e9 w1 ⟨hg1,hd1,v9,rfl,r9,rfl,hv9,hw9⟩
   clear hone hWl hd0
   have hlen:=Zby hv9
   have hgw1:=(Zad hb0 (some p)).trans hg1
   have k61:=k60.grown hg1 (by omega)
   have hsz1:w.heap.size < w1.heap.size:=k61.lt
   have hb2:=Zah (Zac w1 (.cells Zag.toArray 26)) (Nat.le_refl _) r9.toArray
   have k32:Blk ((w1.alloc (.cells Zag.toArray 26)).setRow w1.heap.size r9.toArray) w1.heap.size r9 26:=(Blk.new w1 Zag 26).vrow _
   have k62:=k61.below hb2
   have hd2:=hd1.below hb2
   have hg2:=hgw1.trans (Zad hb2 (some p))
   have hszW:w.heap.size < W.heap.size:=k60.lt
   obtain ⟨w2,hw2n⟩:=Zaf ((w1.alloc (.cells Zag.toArray 26)).setRow w1.heap.size r9.toArray)
   have hwl2:Hid (w2=(w1.alloc (.cells #[.int .u8 0,.int .i64 0,.string ⟨#[]⟩,.string ⟨#[]⟩,.slice none 0 0,.slice none 0 0] 26)).setRow w1.heap.size r9.toArray):=hw2n
   rw[←hw2n.out]at k32 k62 hd2 hg2 hb2
   have hl2:Lft w2 w.heap.size w1.heap.size e1:=⟨r9,k32,(hv9.below hb2).imp (fun b hb=>⟨⟨by have:W.heap.size≤b:=hb.1;omega,by have:=hb.2;omega⟩,Nat.lt_of_lt_of_le hb.2 (Zad hb2 (some p)).size⟩),hw9.below hb2⟩
   obtain ⟨p3,hp3⟩:=Zaf w1.heap.size
   obtain ⟨p6,hp6⟩:=Zaf w.heap.size
   have hp63:p6 < p3:=by rw[hp3.out,hp6.out];exact hsz1
   have hpp6:p < p6:=by rw[hp6.out];exact hplt
   rw[←hp3.out,←hp6.out]at hl2
   rw[←hp6.out]at k62
   have hwp3:w.heap.size≤p3:=by rw[hp3.out];exact Nat.le_of_lt hsz1
   have HB:=Zai (Nat.le_of_eq hp6.out)
   have HB2:=Zai (Nat.le_of_eq hp6.out.symm)
   clear k60 k61 hb0 hb2 hg1 hgw1 hd1 hsz1 hw2n k32 hszW
   go_wp2_with (first
    | (at_builtin;fail)
    | (refine wpList_store_row rfl 26 _ _ rfl _ r9.toArray rfl rfl 26 Zag.toArray (Blk.new w1 Zag 26) (kE6 hlen) (zE6 hlen) (Zas (Zcy hv9)) ?_;rw[←hwl2.out]))
   rw[←hp3.out,←hp6.out]
   clear hwl2 hv9 hw9 hlen
   go_simp
   go_loopw [] (fun wr=>∃ (e:Et) (r:List Tok),Zhb r∧(∃ f,f≤n+1∧pr f (.memT e) r=some y)∧w.grownBy wr (some p)∧Zbg wr p r∧Blk wr p6 Zag 26∧Lft wr p6 p3 e) (fun wr=>Zxn wr p)
   case atStart=>exact ⟨e1,r0,hok0,HY.out,hg2,hd2,k62,hl2⟩
   case round=>
    obtain ⟨e,r,hokr,hgo,hg,hd,k6,hl⟩:=hrel
    clear HY hg2 hd2 k62 hl2
    have hhas:=Zlw [91] p wr r hd hokr
    rcases mem_go hgo with ⟨hn,hn2,hq⟩|⟨hn,t,r1,f1,rfl,hf1,hth⟩|⟨hn,hn2,t,r1,f1,rfl,hf1,hth⟩
    · rw[hn,Zkw hn]at hhas
      have hhas1:Calls Tryz.prog 171 #[.pointer (some ⟨p,0,none⟩),.string ⟨#[91]⟩] wr fun e w'=>e=.returned (.bool false)∧Zbg w' p r∧wr.grownBy w' (some p):=hhas
      have HQ:=Zai hq
      clear hhas hn hgo hq
      go_wp2_with (first|(at_builtin;fail))
      refine hhas1.mono ?_
      clear hhas1
      rintro e9 w4 ⟨rfl,hd4,hg4⟩
      have hhas:=Zlw [46] p w4 r hd4 hokr
      rw[hn2,Zkw hn2]at hhas
      have hhas1:Calls Tryz.prog 171 #[.pointer (some ⟨p,0,none⟩),.string ⟨#[46]⟩] w4 fun e w'=>e=.returned (.bool false)∧Zbg w' p r∧w4.grownBy w' (some p):=hhas
      clear hhas hn2
      go_wp2_with (first|(at_builtin;fail))
      refine hhas1.mono ?_
      clear hhas1
      rintro e9 w5 ⟨rfl,hd5,hg5⟩
      have hg45:=hg4.trans hg5
      have hgw:=hg.trans hg45
      obtain ⟨re,k3,hv,hw⟩:=hl.grown hg45 hpp6 hp63
      have k65:=k6.grown hg45 (by omega)
      have hlen:=Zby hv
      have hgr:=Zbc w5 p6 re.toArray
      go_wp2_with (first
       | (at_builtin;fail)
       | refine wpList_load_row rfl 26 _ rfl _ rfl 26 re.toArray (0,0) _ k3 Tryz.underlying26 rfl (kE6 hlen) ?_
       | refine wpList_store_row rfl 26 _ _ rfl _ re.toArray rfl rfl 26 Zag.toArray k65 (kE6 hlen) (zE6 hlen) (Zas (Zcy hv)) ?_)
      have hv6:=hv.up hgr (fun b hb=>by have:=hb.1;omega)
      refine bodyPost_ret (Zfz rfl _ rfl (k65.vrow re) hlen) rfl ?_
      rw[HQ.out]
      refine ⟨Zaq hgw HB2.out _,hd5.row hpp6 _,_,rfl,re,rfl,?_,hw.grown hv hgr (fun b hb=>by have:=hb.1.1;omega)⟩
      exact hv6.imp (fun b hb=>⟨by have:=HB2.out;have:=hb.1.1;omega,hb.2⟩)
    · rw[hn,Zhp hn]at hhas
      have hhas1:Calls Tryz.prog 171 #[.pointer (some ⟨p,0,none⟩),.string ⟨#[91]⟩] wr fun e w'=>e=.returned (.bool true)∧Zbg w' p r1∧wr.grownBy w' (some p):=hhas
      have hok1:=hokr.tail
      have HL:Hid ((t :: r1).length=r1.length+1):=rfl
      have HD:=Zai hd
      clear hhas hn hgo
      go_wp2_with (first|(at_builtin;fail))
      refine hhas1.mono ?_
      clear hhas1
      rintro e9 w4 ⟨rfl,hd4,hg4'⟩
      have hg4:=hg.trans hg4'
      have hl4:=hl.grown hg4' hpp6 hp63
      have k64:=k6.grown hg4' (by omega)
      clear hg4' hl k6 hd hg
      obtain ⟨re4,k34,hv4,-⟩:=hl4
      obtain ⟨o1,n1,s1,t1,A1,a1,c1,B1,b1,d1,rfl,-⟩:=Zbu hv4
      have q0:w4.cell? ⟨p3,0,none⟩=some (.int .u8 (o1:Int)):=k34.cell 0
      have q1:w4.cell? ⟨p3,1,none⟩=some (.int .i64 n1):=k34.cell 1
      have q2:w4.cell? ⟨p3,2,none⟩=some (.string s1):=k34.cell 2
      have q3:w4.cell? ⟨p3,3,none⟩=some (.string t1):=k34.cell 3
      have q4:w4.cell? ⟨p3,4,none⟩=some (.slice A1 a1 c1):=k34.cell 4
      have q5:w4.cell? ⟨p3,5,none⟩=some (.slice B1 b1 d1):=k34.cell 5
      have hba4:=Zac w4 (.cells (Zav o1 n1 s1 t1 (.slice A1 a1 c1) (.slice B1 b1 d1)).toArray 26)
      have hnd4:=Zjp 8 (some ⟨w4.heap.size,0,none⟩) 1 1 (w4.alloc (.cells (Zav o1 n1 s1 t1 (.slice A1 a1 c1) (.slice B1 b1 d1)).toArray 26))
      go_wp2_with (first|(at_builtin;fail))
      refine hnd4.mono ?_
      clear hnd4
      rintro e9 v4 ⟨rfl,hbn4⟩
      clear q0 q1 q2 q3 q4 q5
      have hbb4:Below w4.heap.size w4 v4:=hba4.trans (hbn4.mono (by rw[Zkz];exact Nat.le_succ _))
      have hh5:=Znf 8 hv4 k34 (by omega) hbn4
      have hd5:=(hd4.below hbb4).row (show p < p3 by omega) (Zav 8 0 ⟨#[]⟩ ⟨#[]⟩ (.slice none 0 0) (.slice (some ⟨w4.heap.size,0,none⟩) 1 1)).toArray
      have hg5:=Zaq (hg4.trans (Zad hbb4 (some p))) (show w.heap.size≤p3 by omega) (Zav 8 0 ⟨#[]⟩ ⟨#[]⟩ (.slice none 0 0) (.slice (some ⟨w4.heap.size,0,none⟩) 1 1)).toArray
      have k65:=(k64.below hbb4).grown (Zbc v4 p3 (Zav 8 0 ⟨#[]⟩ ⟨#[]⟩ (.slice none 0 0) (.slice (some ⟨w4.heap.size,0,none⟩) 1 1)).toArray) (by omega)
      have k3n4:=k34.below hbb4
      obtain ⟨w5,hw5⟩:=Zaf (v4.setRow p3 (Zav 8 0 ⟨#[]⟩ ⟨#[]⟩ (.slice none 0 0) (.slice (some ⟨w4.heap.size,0,none⟩) 1 1)).toArray)
      rw[←hw5.out]at hh5 hd5 hg5 k65
      go_wp2_with (first
       | (at_builtin;fail)
       | (refine wpList_store_row rfl 26 _ _ rfl _ (Zav 8 0 ⟨#[]⟩ ⟨#[]⟩ (.slice none 0 0) (.slice (some ⟨w4.heap.size,0,none⟩) 1 1)).toArray rfl rfl 26 (Zav o1 n1 s1 t1 (.slice A1 a1 c1) (.slice B1 b1 d1)).toArray k3n4 (kE6 rfl) rfl (Zas Zcd) ?_;rw[←hw5.out]))
      clear hw5 hv4 k34 k3n4 hba4 hbn4 hbb4 hd4 hg4 k64
      have hnd:=Zmv 3 [] none 0 p w5 r1 hd5 (by decide) (TxS.nil _ _) hok1
      rw[Zvf]at hnd
      have hnd2:Calls Tryz.prog 100 #[.pointer (some ⟨p,0,none⟩),.int .u8 3,.slice none 0 0] w5 fun e w'=>Zhk p w5 (Zdg r1) (fun s _ v=>v=.string (str s)) e w':=hnd
      clear hnd
      refine hnd2.mono ?_
      clear hnd2
      rintro e9 w6 ⟨hg6,h⟩
      rcases Zca hth with ⟨e0,h1,hq⟩|⟨s,r2,h1,hth2⟩
      · rw[h1]at h
        obtain ⟨h2,rfl⟩:=h
        refine ⟨rfl,?_⟩
        rw[hq]
        exact ⟨hg5.trans hg6,h2,rfl⟩
      · rw[h1]at h
        obtain ⟨hd6,v,rfl,rfl⟩:=h
        obtain ⟨t2,e2,e3⟩:=Zjv h1
        have hs4:s.length≤4096:=by rw[←e3];exact (hok1.2 t2 (by rw[e2];simp)).1
        have hok2:Zhb r2:=hok1.sfx (by rw[e2];exact List.suffix_cons _ _)
        have HL2:Hid (r1.length=r2.length+1):=by rw[e2];exact rfl
        have hgw6:=hg5.trans hg6
        have hh6:=hh5.grown hg6 hpp6 hp63
        have k66:=k65.grown hg6 (by omega)
        have hl7:=hh6.text (by decide) (str s) (Zls hs4)
        obtain ⟨g,reb,k3b,-⟩:=hh6
        have f2:=k3b.free 2
        have f2c:w6.cell? ⟨p3,2,none⟩=some (.string ⟨#[]⟩):=k3b.cell 2
        have hd7:=hd6.far (show p < p3 by omega) 2 (.string (str s))
        have hg7:=Zed hgw6 hwp3 2 (.string (str s))
        have k67:=k66.far (p:=⟨p3,2,none⟩) (show p6 ≠ p3 by omega) (.string (str s))
        obtain ⟨w7,hw7⟩:=Zaf (w6.setCell ⟨p3,2,none⟩ (.string (str s)))
        rw[←hw7.out]at hl7 hd7 hg7 k67
        clear h1 hth e2 e3 hh5 hd5 hg5 k65 hd6 hg6 k66 hgw6 k3b
        have hsn:=Zmu [93] p w7 r2 hd7 hok2
        have hsn2:Calls Tryz.prog 203 #[.pointer (some ⟨p,0,none⟩),.string ⟨#[93]⟩] w7 fun e w'=>Zhk p w7 (Zbr [93] r2) (fun _ _ v=>v=.tuple #[]) e w':=hsn
        clear hsn
        go_wp2_with (first|(at_builtin;fail))
        rw[←hw7.out]
        refine hsn2.mono ?_
        clear hsn2 hw7 f2 f2c
        rintro e9 w8 ⟨hg8,h⟩
        rcases Zca hth2 with ⟨e0,h1,hq⟩|⟨_,r3,h1,hth3⟩
        · rw[h1]at h
          obtain ⟨h2,rfl⟩:=h
          refine ⟨rfl,?_⟩
          rw[hq]
          exact ⟨hg7.trans hg8,h2,rfl⟩
        · rw[h1]at h
          obtain ⟨hd8,v,rfl,rfl⟩:=h
          obtain ⟨t3,e3⟩:=Zcv h1
          have hok3:Zhb r3:=hok2.sfx (by rw[e3];exact List.suffix_cons _ _)
          have HL3:Hid (r2.length=r3.length+1):=by rw[e3];exact rfl
          clear h1 hth2 e3
          go_wp2_with (first|(at_builtin;fail))
          go_roundw
          case rel=>exact ⟨_,r3,hok3,⟨f1,by omega,hth3⟩,hg7.trans hg8,hd8,k67.grown hg8 (by omega),hl7.grown hg8 hpp6 hp63⟩
          case measure=>
           rw[Zdn hd8,Zdn HD.out]
           have:=HL.out
           have:=HL2.out
           have:=HL3.out
           omega
    · rw[hn,Zkw hn]at hhas
      have hhas1:Calls Tryz.prog 171 #[.pointer (some ⟨p,0,none⟩),.string ⟨#[91]⟩] wr fun e w'=>e=.returned (.bool false)∧Zbg w' p (t :: r1)∧wr.grownBy w' (some p):=hhas
      have hok1:=hokr.tail
      have HL:Hid ((t :: r1).length=r1.length+1):=rfl
      have HD:=Zai hd
      clear hhas hn hgo
      go_wp2_with (first|(at_builtin;fail))
      refine hhas1.mono ?_
      clear hhas1
      rintro e9 w4 ⟨rfl,hd4,hg4'⟩
      have hhas:=Zlw [46] p w4 (t :: r1) hd4 hokr
      rw[hn2,Zhp hn2]at hhas
      have hhas1:Calls Tryz.prog 171 #[.pointer (some ⟨p,0,none⟩),.string ⟨#[46]⟩] w4 fun e w'=>e=.returned (.bool true)∧Zbg w' p r1∧w4.grownBy w' (some p):=hhas
      clear hhas hn2
      go_wp2_with (first|(at_builtin;fail))
      refine hhas1.mono ?_
      clear hhas1
      rintro e9 w5 ⟨rfl,hd5,hg5'⟩
      have hg5:=(hg.trans hg4').trans hg5'
      have hnm:=Zmw p w0 w5 r1 hd5 hok1 (hE.step hg5)
      go_wp2_with (first|(at_builtin;fail))
      refine hnm.mono ?_
      clear hnm
      rintro e9 w6 ⟨hg6',h⟩
      rcases Zca hth with ⟨e0,h1,hq⟩|⟨s,r2,h1,hth2⟩
      · rw[h1]at h
        obtain ⟨h2,rfl⟩:=h
        refine ⟨rfl,?_⟩
        rw[hq]
        exact ⟨hg5.trans hg6',h2,rfl⟩
      · rw[h1]at h
        obtain ⟨hd6,v,rfl,rfl⟩:=h
        obtain ⟨t2,e2,e3⟩:=Zce h1
        have hs4:s.length≤4096:=by rw[←e3];exact (hok1.2 t2 (by rw[e2];simp)).1
        have hok2:Zhb r2:=hok1.sfx (by rw[e2];exact List.suffix_cons _ _)
        have HL2:Hid (r1.length=r2.length+1):=by rw[e2];exact rfl
        have hg6:=hg5.trans hg6'
        have hgs:=(hg4'.trans hg5').trans hg6'
        have hl6:=hl.grown hgs hpp6 hp63
        have k66:=k6.grown hgs (by omega)
        have htb:=(hE.step hg6).tbs
        have hcl:=Ztn w6 htb
        have hix:=index_w (w6.alloc (.cells (Zbv.map fun x=>Value.string ⟨x.toArray⟩).toArray 9)) (some ⟨w6.heap.size,0,none⟩) 3 Zbv s (by decide) (by decide) (Zfi w6 Zbv)
        have hb7:=Zac w6 (.cells (Zbv.map fun x=>Value.string ⟨x.toArray⟩).toArray 9)
        have hd7:=hd6.below hb7
        have hg7:=hg6.trans (Zad hb7 (some p))
        have hl7:=hl6.grown (Zad hb7 (some p)) hpp6 hp63
        have k67:=k66.below hb7
        obtain ⟨w7,hw7⟩:=Zaf (w6.alloc (.cells (Zbv.map fun x=>Value.string ⟨x.toArray⟩).toArray 9))
        rw[←hw7.out]at hcl hix hd7 hg7 hl7 k67
        obtain ⟨j,hj⟩:=Zaf (Lib.idxOfS (Zbv.map str) (str s))
        rw[←hj.out]at hix
        have hix2:Calls Tryz.prog 116 #[.slice (some ⟨w6.heap.size,0,none⟩) 3 3,.string (str s)] w7 fun e w'=>e=.returned (.int .i64 j)∧w'=w7:=hix
        clear h1 hth e2 e3 hd5 hg5 hg4' hg5' hg6' hd6 hg6 hl6 k66 hgs hb7 hd4 hl k6 hw7 hix htb hd hg
        go_wp2_with (first|(at_builtin;fail))
        refine hcl.mono ?_
        clear hcl
        rintro e9 w8 ⟨rfl,hw8⟩
        replace hw8:=hw8.symm
        subst hw8
        go_wp2_with (first|(at_builtin;fail))
        refine hix2.mono ?_
        clear hix2
        rintro e9 w8 ⟨rfl,hw8⟩
        replace hw8:=hw8.symm
        subst hw8
        cases hc:Zbv.contains s with
        | false=>
          have hth3:pr f1 (.memT (.mk 8 0 (str s) noS [] [e])) r2=some y:=by rw[hc]at hth2;exact hth2
          have hj0:¬ 0≤j:=by rw[hj.out];exact call_no hc
          clear hth2 hj hc
          obtain ⟨re7,k37,hv7,-⟩:=hl7
          obtain ⟨o1,n1,s1,t1,A1,a1,c1,B1,b1,d1,rfl,-⟩:=Zbu hv7
          have q0:w7.cell? ⟨p3,0,none⟩=some (.int .u8 (o1:Int)):=k37.cell 0
          have q1:w7.cell? ⟨p3,1,none⟩=some (.int .i64 n1):=k37.cell 1
          have q2:w7.cell? ⟨p3,2,none⟩=some (.string s1):=k37.cell 2
          have q3:w7.cell? ⟨p3,3,none⟩=some (.string t1):=k37.cell 3
          have q4:w7.cell? ⟨p3,4,none⟩=some (.slice A1 a1 c1):=k37.cell 4
          have q5:w7.cell? ⟨p3,5,none⟩=some (.slice B1 b1 d1):=k37.cell 5
          have hba7:=Zac w7 (.cells (Zav o1 n1 s1 t1 (.slice A1 a1 c1) (.slice B1 b1 d1)).toArray 26)
          have hnd7:=Zjp 8 (some ⟨w7.heap.size,0,none⟩) 1 1 (w7.alloc (.cells (Zav o1 n1 s1 t1 (.slice A1 a1 c1) (.slice B1 b1 d1)).toArray 26))
          go_wp2_with (first|(at_builtin;fail))
          refine hnd7.mono ?_
          clear hnd7
          rintro e9 v7 ⟨rfl,hbn7⟩
          clear q0 q1 q2 q3 q4 q5
          have hbb7:Below w7.heap.size w7 v7:=hba7.trans (hbn7.mono (by rw[Zkz];exact Nat.le_succ _))
          have hhb:=Znf 8 hv7 k37 (by omega) hbn7
          have hdb:=(hd7.below hbb7).row (show p < p3 by omega) (Zav 8 0 ⟨#[]⟩ ⟨#[]⟩ (.slice none 0 0) (.slice (some ⟨w7.heap.size,0,none⟩) 1 1)).toArray
          have hgb:=Zaq (hg7.trans (Zad hbb7 (some p))) (show w.heap.size≤p3 by omega) (Zav 8 0 ⟨#[]⟩ ⟨#[]⟩ (.slice none 0 0) (.slice (some ⟨w7.heap.size,0,none⟩) 1 1)).toArray
          have k6b:=(k67.below hbb7).grown (Zbc v7 p3 (Zav 8 0 ⟨#[]⟩ ⟨#[]⟩ (.slice none 0 0) (.slice (some ⟨w7.heap.size,0,none⟩) 1 1)).toArray) (by omega)
          have k3n7:=k37.below hbb7
          obtain ⟨wb,hwb⟩:=Zaf (v7.setRow p3 (Zav 8 0 ⟨#[]⟩ ⟨#[]⟩ (.slice none 0 0) (.slice (some ⟨w7.heap.size,0,none⟩) 1 1)).toArray)
          rw[←hwb.out]at hhb hdb hgb k6b
          obtain ⟨g,reb,k3b,-⟩:=id hhb
          have f2:=k3b.free 2
          have f2c:wb.cell? ⟨p3,2,none⟩=some (.string ⟨#[]⟩):=k3b.cell 2
          go_wp2_with (first
           | (at_builtin;fail)
           | (refine wpList_store_row rfl 26 _ _ rfl _ (Zav 8 0 ⟨#[]⟩ ⟨#[]⟩ (.slice none 0 0) (.slice (some ⟨w7.heap.size,0,none⟩) 1 1)).toArray rfl rfl 26 (Zav o1 n1 s1 t1 (.slice A1 a1 c1) (.slice B1 b1 d1)).toArray k3n7 (kE6 rfl) rfl (Zas Zcd) ?_;rw[←hwb.out]))
          clear hwb hv7 k37 k3n7 hba7 hbn7 hbb7 hd7 hg7 k67
          have hlc:=hhb.text (by decide) (str s) (Zls hs4)
          have hdc:=hdb.far (show p < p3 by omega) 2 (.string (str s))
          have hgc:=Zed hgb hwp3 2 (.string (str s))
          have k6c:=k6b.far (p:=⟨p3,2,none⟩) (show p6 ≠ p3 by omega) (.string (str s))
          go_roundw
          case rel=>exact ⟨_,r2,hok2,⟨f1,by omega,hth3⟩,hgc,hdc,k6c,hlc⟩
          case measure=>
           rw[Zdn hdc,Zdn HD.out]
           have:=HL.out
           have:=HL2.out
           omega
        | true=>
          obtain ⟨hi1,hi2⟩:=call_idx s (by simpa using hc)
          obtain ⟨i,hi⟩:=Zaf (Zbv.idxOf s)
          rw[←hi.out]at hi1 hi2
          obtain rfl:j=(i:Int):=by rw[hj.out];exact hi1
          have hi0:(0:Int)≤(i:Int):=Int.natCast_nonneg i
          have hhas:=Zlw [40] p w7 r2 hd7 hok2
          have hhas0:Calls Tryz.prog 171 #[.pointer (some ⟨p,0,none⟩),.string ⟨#[40]⟩] w7 fun e w'=>e=.returned (.bool (nxB 4 [[40]] r2))∧Zbg w' p (Zct 4 [[40]] r2)∧w7.grownBy w' (some p):=hhas
          clear hj hi1 hhas
          go_wp2_with (first|(at_builtin;fail))
          refine hhas0.mono ?_
          clear hhas0
          rintro e9 w8 ⟨rfl,hd8,hg8'⟩
          have hg8:=hg7.trans hg8'
          have hl8:=hl7.grown hg8' hpp6 hp63
          have k68:=k67.grown hg8' (by omega)
          clear hd7 hg7 hg8' hl7 k67
          cases hn:nxB 4 [[40]] r2 with
          | false=>
            have hth3:pr f1 (.memT (.mk 8 0 (str s) noS [] [e])) r2=some y:=by rw[hn,Bool.and_false]at hth2;exact hth2
            rw[Zkw hn]at hd8
            clear hth2 hn hc hi
            obtain ⟨re8,k38,hv8,-⟩:=hl8
            obtain ⟨o1,n1,s1,t1,A1,a1,c1,B1,b1,d1,rfl,-⟩:=Zbu hv8
            have q0:w8.cell? ⟨p3,0,none⟩=some (.int .u8 (o1:Int)):=k38.cell 0
            have q1:w8.cell? ⟨p3,1,none⟩=some (.int .i64 n1):=k38.cell 1
            have q2:w8.cell? ⟨p3,2,none⟩=some (.string s1):=k38.cell 2
            have q3:w8.cell? ⟨p3,3,none⟩=some (.string t1):=k38.cell 3
            have q4:w8.cell? ⟨p3,4,none⟩=some (.slice A1 a1 c1):=k38.cell 4
            have q5:w8.cell? ⟨p3,5,none⟩=some (.slice B1 b1 d1):=k38.cell 5
            have hba8:=Zac w8 (.cells (Zav o1 n1 s1 t1 (.slice A1 a1 c1) (.slice B1 b1 d1)).toArray 26)
            have hnd8:=Zjp 8 (some ⟨w8.heap.size,0,none⟩) 1 1 (w8.alloc (.cells (Zav o1 n1 s1 t1 (.slice A1 a1 c1) (.slice B1 b1 d1)).toArray 26))
            go_wp2_with (first|(at_builtin;fail))
            refine hnd8.mono ?_
            clear hnd8
            rintro e9 v8 ⟨rfl,hbn8⟩
            clear q0 q1 q2 q3 q4 q5
            have hbb8:Below w8.heap.size w8 v8:=hba8.trans (hbn8.mono (by rw[Zkz];exact Nat.le_succ _))
            have hhb:=Znf 8 hv8 k38 (by omega) hbn8
            have hdb:=(hd8.below hbb8).row (show p < p3 by omega) (Zav 8 0 ⟨#[]⟩ ⟨#[]⟩ (.slice none 0 0) (.slice (some ⟨w8.heap.size,0,none⟩) 1 1)).toArray
            have hgb:=Zaq (hg8.trans (Zad hbb8 (some p))) (show w.heap.size≤p3 by omega) (Zav 8 0 ⟨#[]⟩ ⟨#[]⟩ (.slice none 0 0) (.slice (some ⟨w8.heap.size,0,none⟩) 1 1)).toArray
            have k6b:=(k68.below hbb8).grown (Zbc v8 p3 (Zav 8 0 ⟨#[]⟩ ⟨#[]⟩ (.slice none 0 0) (.slice (some ⟨w8.heap.size,0,none⟩) 1 1)).toArray) (by omega)
            have k3n8:=k38.below hbb8
            obtain ⟨wb,hwb⟩:=Zaf (v8.setRow p3 (Zav 8 0 ⟨#[]⟩ ⟨#[]⟩ (.slice none 0 0) (.slice (some ⟨w8.heap.size,0,none⟩) 1 1)).toArray)
            rw[←hwb.out]at hhb hdb hgb k6b
            obtain ⟨g,reb,k3b,-⟩:=id hhb
            have f2:=k3b.free 2
            have f2c:wb.cell? ⟨p3,2,none⟩=some (.string ⟨#[]⟩):=k3b.cell 2
            go_wp2_with (first
             | (at_builtin;fail)
             | (refine wpList_store_row rfl 26 _ _ rfl _ (Zav 8 0 ⟨#[]⟩ ⟨#[]⟩ (.slice none 0 0) (.slice (some ⟨w8.heap.size,0,none⟩) 1 1)).toArray rfl rfl 26 (Zav o1 n1 s1 t1 (.slice A1 a1 c1) (.slice B1 b1 d1)).toArray k3n8 (kE6 rfl) rfl (Zas Zcd) ?_;rw[←hwb.out]))
            clear hwb hv8 k38 k3n8 hba8 hbn8 hbb8 hd8 hg8 k68
            have hlc:=hhb.text (by decide) (str s) (Zls hs4)
            have hdc:=hdb.far (show p < p3 by omega) 2 (.string (str s))
            have hgc:=Zed hgb hwp3 2 (.string (str s))
            have k6c:=k6b.far (p:=⟨p3,2,none⟩) (show p6 ≠ p3 by omega) (.string (str s))
            go_roundw
            case rel=>exact ⟨_,r2,hok2,⟨f1,by omega,hth3⟩,hgc,hdc,k6c,hlc⟩
            case measure=>
             rw[Zdn hdc,Zdn HD.out]
             have:=HL.out
             have:=HL2.out
             omega
          | true=>
            have hth3:Zcn (pr f1 .expr (Zct 4 [[40]] r2)) (fun a r4=>Zdc (Zbr [41] r4) fun _ r5=>pr f1 (.memT (Zbk (27+i) [e,a])) r5)=some y:=by rw[hn,hc,←hi.out]at hth2;exact hth2
            have hok3:Zhb (Zct 4 [[40]] r2)∧Hid ((Zct 4 [[40]] r2).length≤r2.length):=by
             cases r2 with
             | nil=>exact ⟨hok2,Nat.le_refl _⟩
             | cons t3 r3=>rw[Zhp hn];exact ⟨hok2.tail,Nat.le_succ _⟩
            obtain ⟨hok3,HL3⟩:=hok3
            obtain ⟨r3,hr3⟩:=Zaf (Zct 4 [[40]] r2)
            rw[←hr3.out]at hth3 hd8 hok3 HL3
            clear hth2 hn hc hi hr3
            go_upto_region 11 with (first|(at_builtin;fail))
            obtain ⟨re,k39,hv9,-⟩:=hl8
            obtain ⟨o1,n1,s1,t1,A1,a1,c1,B1,b1,d1,hre0,-⟩:=Zbu hv9
            have hre:=Zai hre0
            have hlt9:=k39.lt
            obtain ⟨w9,hw9⟩:=Zaf w8
            have hwe:=hw9.out
            subst hwe
            have hd9:=hd8
            have hg9:=hg8
            have k69:=k68
            clear hre0 hd8 hg8 k68
            rcases Zbp hth3 with ⟨e0,h1,hq⟩|⟨e2,r4,h1,hth4⟩
            · have hone:∀ (u:World),Zbg u p r3→Env w0 p u→Calls Tryz.prog 55 #[.pointer (some ⟨p,0,none⟩)] u fun e w'=>u.grownBy w' (some p)∧Zbg w' p e0∧e=.panicked Zgu:=fun u a b=>hX f1 hf1 p w0 u r3 (.error e0) a hok3 b h1
              refine Zcz (fun ex u=>ex=.panic Zgu∧y=.error e0∧w.grownBy u (some p)∧Zbg u p e0) (by
               rintro ex b u hb ⟨rfl,h1,h2,h3⟩
               refine ⟨hb,?_⟩
               rw[h1]
               exact ⟨h2,h3,rfl⟩) (fun L _ u=>w.grownBy u (some p)∧Zbg u p r3∧Blk u p3 re 26) (fun _ _ _=>True) _ (by kernel_rfl) (by kernel_rfl) (fun v=>by simp only[Zbx,Act.put,List.toList_toArray,Zl2,Zl0,Zl1,Nat.reduceAdd,Nat.zero_add];rfl) ⟨hg9.trans (Zad (Zaj (Below.refl _ _)) _),hd9,k39⟩ (fun _ _ _ _ _ h=>h) ?_
              refine Zat [] _ (fun L hL hcl v u hS hd K' hK=>by
               simp only[Act.put,Zl2,Zl0,Zl1]at hK
               go_simp
               exact hK.out _ ⟨hS,trivial⟩) (by kernel_rfl) (j:=1) rfl ?_
              refine Zat [0] _ (fun L hL hcl v u hS hd K' hK=>by
               simp only[Zal,Zak,eqv,Zl3,Zl4,Nat.reduceSub]at hd
               simp only[Act.put,Zl2,Zl0,Zl1]at hK
               try simp only[hd]at hK
               go_simp
               exact hK.out _ ⟨hS,trivial⟩) (by kernel_rfl) (j:=2) rfl ?_
              refine Zat [1] _ (fun L hL hcl v u hS hd K' hK=>by
               simp only[Zal,Zak,eqv,Zl3,Zl4,Nat.reduceSub]at hd
               simp only[Act.put,Zl2,Zl0,Zl1]at hK
               try simp only[hd]at hK
               go_simp
               exact hK.out _ ⟨hS,trivial⟩) (by kernel_rfl) (j:=3) rfl ?_
              refine Zat [] _ (fun L hL hcl v u hS hd K' hK=>by
               simp only[Act.put,Zl2,Zl0,Zl1]at hK
               have k7:=hS.2.2
               rw[hre.out]at k7
               have q0:u.cell? ⟨p3,0,none⟩=some (.int .u8 (o1:Int)):=k7.cell 0
               have q1:u.cell? ⟨p3,1,none⟩=some (.int .i64 n1):=k7.cell 1
               have q2:u.cell? ⟨p3,2,none⟩=some (.string s1):=k7.cell 2
               have q3:u.cell? ⟨p3,3,none⟩=some (.string t1):=k7.cell 3
               have q4:u.cell? ⟨p3,4,none⟩=some (.slice A1 a1 c1):=k7.cell 4
               have q5:u.cell? ⟨p3,5,none⟩=some (.slice B1 b1 d1):=k7.cell 5
               go_simp
               exact hK.out _ ⟨hS,trivial⟩) (by kernel_rfl) (j:=4) rfl ?_
              refine Zat [] _ (fun L hL hcl v u hS hd K' hK=>by
               simp only[Act.put,Zl2,Zl0,Zl1]at hK
               go_simp
               exact hK.out _ ⟨hS,trivial⟩) (by kernel_rfl) (j:=5) rfl ?_
              refine Zar [4] (fun _ _=>False) ((fun _ _ _ _ _ _ h=>h)) (fun L hL hcl v u hS hd K' hK=>by
               simp only[Zal,Zak,eqv,Zl3,Zl4,Nat.reduceSub]at hd
               simp only[Act.put,Zl2,Zl0,Zl1]at hK
               try simp only[hd]at hK
               go_simp
               refine (hone u hS.2.1 (hE.step hS.1)).mono ?_
               rintro e9 u1 ⟨hg9,hd9,rfl⟩
               first|exact ⟨rfl,hq,hS.1.trans hg9,hd9⟩|exact ⟨rfl,hS.1.trans hg9,hd9⟩|exact ⟨hS.1.trans hg9,hd9⟩) (by kernel_rfl) (j:=6) rfl ?_
              refine Zar [3,5] (fun _ _=>False) ((fun _ _ _ _ _ _ h=>h)) (fun L hL hcl v u hS hd K' hK=>by
               simp only[Zal,Zak,eqv,Zl3,Zl4,Nat.reduceSub]at hd
               try exact hd.2.elim) (by kernel_rfl) (j:=7) rfl ?_
              refine Zar [2,6] (fun _ _=>False) ((fun _ _ _ _ _ _ h=>h)) (fun L hL hcl v u hS hd K' hK=>by
               simp only[Zal,Zak,eqv,Zl3,Zl4,Nat.reduceSub]at hd
               try exact hd.2.elim) (by kernel_rfl) (j:=8) rfl ?_
              refine Zar [7] (fun _ _=>False) ((fun _ _ _ _ _ _ h=>h)) (fun L hL hcl v u hS hd K' hK=>by
               simp only[Zal,Zak,eqv,Zl3,Zl4,Nat.reduceSub]at hd
               try exact hd.elim) (by kernel_rfl) (j:=9) rfl ?_
              refine Zee [8] (by decide) ?_
              rintro v u hS hR
              simp only[Zal,Zak,eqv,Zl3,Zl4,Nat.reduceSub]at hR
              try exact hR.elim
            · have hone:∀ (u:World),Zbg u p r3→Env w0 p u→Calls Tryz.prog 55 #[.pointer (some ⟨p,0,none⟩)] u fun e w'=>u.grownBy w' (some p)∧Zbg w' p r4∧∃ v,e=.returned v∧ExV u.heap.size e2 w' v:=fun u a b=>hX f1 hf1 p w0 u r3 (.ok (e2,r4)) a hok3 b h1
              have hsf:=(Zmx f1 _ _ _ h1).1
              have hok4:=hok3.sfx hsf
              have HL4:Hid (r4.length+1≤r3.length+1):=Zai (Nat.succ_le_succ hsf.length_le)
              have hS0:w.grownBy w9.drew (some p)∧w9.heap.size≤w9.drew.heap.size∧Blk w9.drew p6 Zag 26∧Zbg w9.drew p (if (fun _:Nat=>false) 5 then r4 else r3)∧EAt w9.drew (Up w9.drew (fun b=>p6 < b∧b ≠ p3)) e re∧((fun _:Nat=>false) 8=false→Blk w9.drew p3 re 26):=⟨hg9.trans (Zad (Zaj (Below.refl _ _)) _),Nat.le_refl _,k69,hd9,hv9.up (Zad (Zaj (Below.refl _ _)) (some p)) (fun b hb=>by have:=hb.1;omega),fun _=>k39⟩
              clear hsf h1
              refine Zap (fun L _ u=>w.grownBy u (some p)∧w9.heap.size≤u.heap.size∧Blk u p6 Zag 26∧Zbg u p (if L 5 then r4 else r3)∧EAt u (Up u (fun b=>p6 < b∧b ≠ p3)) e re∧(L 8=false→Blk u p3 re 26)) (fun i u u'=>(i ≠ 8→u.grownBy u' (some p))∧(i=8→u.grownBy u' (some p3))) _ (by kernel_rfl) (by kernel_rfl) (fun v=>by simp only[Zbx,Act.put,List.toList_toArray,Zl2,Zl0,Zl1,Nat.reduceAdd,Nat.zero_add];rfl) hS0 (fun L L' v u hL h=>by rw[←hL 5 (by decide),←hL 8 (by decide)];exact h) ?_
              refine Zaa [] _ (fun L hL hcl v u hS hd K' hK=>by
               simp only[Act.put,Zl2,Zl0,Zl1]at hK
               go_simp
               exact hK.out _ ⟨⟨hS.1,hS.2.1,hS.2.2.1,by simpa using hS.2.2.2.1,hS.2.2.2.2.1,fun h=>hS.2.2.2.2.2 (by simpa using h)⟩,⟨fun _=>Zab _ _,fun h=>by cases h⟩⟩) (by kernel_rfl) (j:=1) rfl ?_
              refine Zaa [0] _ (fun L hL hcl v u hS hd K' hK=>by
               simp only[Zal,Zak,eqv,Zl3,Zl4,Nat.reduceSub]at hd
               simp only[Act.put,Zl2,Zl0,Zl1]at hK
               try simp only[hd]at hK
               go_simp
               exact hK.out _ ⟨⟨hS.1,hS.2.1,hS.2.2.1,by simpa using hS.2.2.2.1,hS.2.2.2.2.1,fun h=>hS.2.2.2.2.2 (by simpa using h)⟩,⟨fun _=>Zab _ _,fun h=>by cases h⟩⟩) (by kernel_rfl) (j:=2) rfl ?_
              refine Zaa [1] _ (fun L hL hcl v u hS hd K' hK=>by
               simp only[Zal,Zak,eqv,Zl3,Zl4,Nat.reduceSub]at hd
               simp only[Act.put,Zl2,Zl0,Zl1]at hK
               try simp only[hd]at hK
               go_simp
               exact hK.out _ ⟨⟨hS.1,hS.2.1,hS.2.2.1,by simpa using hS.2.2.2.1,hS.2.2.2.2.1,fun h=>hS.2.2.2.2.2 (by simpa using h)⟩,⟨fun _=>Zab _ _,fun h=>by cases h⟩⟩) (by kernel_rfl) (j:=3) rfl ?_
              refine Zaa [] _ (fun L hL hcl v u hS hd K' hK=>by
               simp only[Act.put,Zl2,Zl0,Zl1]at hK
               have h8:L 8=false:=by
                cases hq:L 8 with
                | false=>rfl
                | true=>have:=hcl 8 3 hq (by kernel_rfl);rw[hL]at this;cases this
               have k7:=hS.2.2.2.2.2 h8
               rw[hre.out]at k7
               have q0:u.cell? ⟨p3,0,none⟩=some (.int .u8 (o1:Int)):=k7.cell 0
               have q1:u.cell? ⟨p3,1,none⟩=some (.int .i64 n1):=k7.cell 1
               have q2:u.cell? ⟨p3,2,none⟩=some (.string s1):=k7.cell 2
               have q3:u.cell? ⟨p3,3,none⟩=some (.string t1):=k7.cell 3
               have q4:u.cell? ⟨p3,4,none⟩=some (.slice A1 a1 c1):=k7.cell 4
               have q5:u.cell? ⟨p3,5,none⟩=some (.slice B1 b1 d1):=k7.cell 5
               go_simp
               exact hK.out _ ⟨⟨hS.1,hS.2.1,hS.2.2.1,by simpa using hS.2.2.2.1,hS.2.2.2.2.1,fun h=>hS.2.2.2.2.2 (by simpa using h)⟩,⟨fun _=>Zab _ _,fun h=>by cases h⟩⟩) (by kernel_rfl) (j:=4) rfl ?_
              refine Zaa [] _ (fun L hL hcl v u hS hd K' hK=>by
               simp only[Act.put,Zl2,Zl0,Zl1]at hK
               go_simp
               exact hK.out _ ⟨⟨hS.1,hS.2.1,hS.2.2.1,by simpa using hS.2.2.2.1,hS.2.2.2.2.1,fun h=>hS.2.2.2.2.2 (by simpa using h)⟩,⟨fun _=>Zab _ _,fun h=>by cases h⟩⟩) (by kernel_rfl) (j:=5) rfl ?_
              refine Zam [4] (fun v u=>∃ (o2:Nat) (n2:Int) (s2 t2:ByteArray) (A2:Option Addr) (a2 c2:Nat) (B2:Option Addr) (b2 d2:Nat),v=.agg #[.int .u8 (o2:Int),.int .i64 n2,.string s2,.string t2,.slice A2 a2 c2,.slice B2 b2 d2]∧EAt u (Up u (fun b=>w9.heap.size≤b)) e2 (Zav o2 n2 s2 t2 (.slice A2 a2 c2) (.slice B2 b2 d2))) ((by
               rintro j x u u' hj hg ⟨o2,n2,s2,t2,A2,a2,c2,B2,b2,d2,h1,h2⟩
               refine ⟨o2,n2,s2,t2,A2,a2,c2,B2,b2,d2,h1,?_⟩
               by_cases e:j=8
               · exact h2.up (hg.2 e) (fun b hb=>by omega)
               · exact h2.up (hg.1 e) (fun b hb=>by omega))) (fun L hL hcl v u hS hd K' hK=>by
               simp only[Zal,Zak,eqv,Zl3,Zl4,Nat.reduceSub]at hd
               simp only[Act.put,Zl2,Zl0,Zl1]at hK
               try simp only[hd]at hK
               go_simp
               refine (hone u (by have:=hS.2.2.2.1;rw[hL]at this;exact this) (hE.step hS.1)).mono ?_
               rintro e9 u1 ⟨hg9,hd9,v9,rfl,r9,rfl,hv9,-⟩
               obtain ⟨o2,n2,s2,t2,A2,a2,c2,B2,b2,d2,rfl,-⟩:=Zbu hv9
               exact hK.out _ _ ⟨⟨hS.1.trans hg9,Nat.le_trans hS.2.1 hg9.size,hS.2.2.1.grown hg9 (by omega),by simpa using hd9,hS.2.2.2.2.1.up hg9 (fun b hb=>by have:=hb.1;omega),fun h=>(hS.2.2.2.2.2 (by simpa using h)).grown hg9 (by omega)⟩,⟨fun _=>hg9,fun h=>by cases h⟩,o2,n2,s2,t2,A2,a2,c2,B2,b2,d2,rfl,hv9.imp (fun b hb=>⟨Nat.le_trans hS.2.1 hb.1,hb.2⟩)⟩) (by kernel_rfl) (j:=6) rfl ?_
              refine Zam [3,5] (fun v u=>∃ (g:Nat) (rb:List Value),v=.slice (some ⟨g,0,none⟩) 2 2∧w9.heap.size≤g∧Blk u g (re ++ rb) 26∧EAt u (Up u (fun b=>w9.heap.size≤b)) e2 rb) ((by
               rintro j x u u' hj hg ⟨g,rb,h1,h2,h3,h4⟩
               refine ⟨g,rb,h1,h2,?_⟩
               by_cases e:j=8
               · exact ⟨h3.grown (hg.2 e) (by omega),h4.up (hg.2 e) (fun b hb=>by omega)⟩
               · exact ⟨h3.grown (hg.1 e) (by omega),h4.up (hg.1 e) (fun b hb=>by omega)⟩)) (fun L hL hcl v u hS hd K' hK=>by
               simp only[Zal,Zak,eqv,Zl3,Zl4,Nat.reduceSub]at hd
               simp only[Act.put,Zl2,Zl0,Zl1]at hK
               try simp only[hd]at hK
               obtain ⟨h0,o2,n2,s2,t2,A2,a2,c2,B2,b2,d2,h1,hv⟩:=hd
               simp only[h0,h1]at hK
               simp only[h0,h1]
               go_simp
               have hb9:=Zac u (.cells (re ++ Zav o2 n2 s2 t2 (.slice A2 a2 c2) (.slice B2 b2 d2)).toArray 26)
               have hg9:=Zad hb9 (some p)
               have k9:=Blk.new u (re ++ Zav o2 n2 s2 t2 (.slice A2 a2 c2) (.slice B2 b2 d2)) 26
               rw[hre.out]at hb9 hg9 k9
               have hh:=hK.out (.slice (some ⟨u.heap.size,0,none⟩) 2 2) _ ⟨⟨hS.1.trans hg9,Nat.le_trans hS.2.1 hg9.size,hS.2.2.1.grown hg9 (by omega),by simpa using hS.2.2.2.1.below hb9,hS.2.2.2.2.1.up hg9 (fun b hb=>by have:=hb.1;omega),fun h=>(hS.2.2.2.2.2 (by simpa using h)).grown hg9 (by omega)⟩,⟨fun _=>hg9,fun h=>by cases h⟩,u.heap.size,Zav o2 n2 s2 t2 (.slice A2 a2 c2) (.slice B2 b2 d2),rfl,hS.2.1,by rw[hre.out];exact k9,hv.up hg9 (fun b hb=>by omega)⟩
               exact hh) (by kernel_rfl) (j:=7) rfl ?_
              refine Zam [2,6] (fun v u=>∃ (g:Nat) (rb:List Value),v=.agg (Zav (27+i) 0 ⟨#[]⟩ ⟨#[]⟩ (.slice none 0 0) (.slice (some ⟨g,0,none⟩) 2 2)).toArray∧w9.heap.size≤g∧Blk u g (re ++ rb) 26∧EAt u (Up u (fun b=>w9.heap.size≤b)) e2 rb) ((by
               rintro j x u u' hj hg ⟨g,rb,h1,h2,h3,h4⟩
               refine ⟨g,rb,h1,h2,?_⟩
               by_cases e:j=8
               · exact ⟨h3.grown (hg.2 e) (by omega),h4.up (hg.2 e) (fun b hb=>by omega)⟩
               · exact ⟨h3.grown (hg.1 e) (by omega),h4.up (hg.1 e) (fun b hb=>by omega)⟩)) (fun L hL hcl v u hS hd K' hK=>by
               simp only[Zal,Zak,eqv,Zl3,Zl4,Nat.reduceSub]at hd
               simp only[Act.put,Zl2,Zl0,Zl1]at hK
               try simp only[hd]at hK
               obtain ⟨h0,g,rb,h1,h2,h3,h4⟩:=hd
               rw[u8_27 i hi2]at h0
               try simp only[u8_27 i hi2]at hK
               simp only[h0,h1]at hK
               simp only[h0,h1]
               go_simp
               refine (Zjp (27+i) (some ⟨g,0,none⟩) 2 2 u).mono ?_
               rintro e9 u1 ⟨rfl,hb9⟩
               have hg9:=Zad hb9 (some p)
               exact hK.out _ _ ⟨⟨hS.1.trans hg9,Nat.le_trans hS.2.1 hg9.size,hS.2.2.1.grown hg9 (by omega),by simpa using hS.2.2.2.1.below hb9,hS.2.2.2.2.1.up hg9 (fun b hb=>by have:=hb.1;omega),fun h=>(hS.2.2.2.2.2 (by simpa using h)).grown hg9 (by omega)⟩,⟨fun _=>hg9,fun h=>by cases h⟩,g,rb,rfl,h2,h3.below hb9,h4.up hg9 (fun b hb=>by omega)⟩) (by kernel_rfl) (j:=8) rfl ?_
              refine Zam [7] (fun _ u=>∃ (g:Nat) (rb:List Value),Blk u p3 (Zav (27+i) 0 ⟨#[]⟩ ⟨#[]⟩ (.slice none 0 0) (.slice (some ⟨g,0,none⟩) 2 2)) 26∧w9.heap.size≤g∧Blk u g (re ++ rb) 26∧EAt u (Up u (fun b=>w9.heap.size≤b)) e2 rb) ((by
               rintro j x u u' hj hg ⟨g,rb,h1,h2,h3,h4⟩
               exact ⟨g,rb,h1.grown (hg.1 hj) (by omega),h2,h3.grown (hg.1 hj) (by omega),h4.up (hg.1 hj) (fun b hb=>by omega)⟩)) (fun L hL hcl v u hS hd K' hK=>by
               simp only[Zal,Zak,eqv,Zl3,Zl4,Nat.reduceSub]at hd
               obtain ⟨g,rb,h1,h2,h3,h4⟩:=hd
               have k7:=hS.2.2.2.2.2 hL
               refine Zbe rfl ?_
               refine wp_store_row 26 _ _ rfl _ (Zav (27+i) 0 ⟨#[]⟩ ⟨#[]⟩ (.slice none 0 0) (.slice (some ⟨g,0,none⟩) 2 2)).toArray rfl h1 26 re.toArray k7 (kE6 rfl) (by rw[hre.out];rfl) (Zas Zcd) ?_
               have hgr:=Zbc u p3 (Zav (27+i) 0 ⟨#[]⟩ ⟨#[]⟩ (.slice none 0 0) (.slice (some ⟨g,0,none⟩) 2 2)).toArray
               refine hK.out undef _ ⟨⟨Zaq hS.1 (by omega) _,by rw[Zgn];exact hS.2.1,(hS.2.2.1).grown hgr (by omega),by simpa using (hS.2.2.2.1).row (show p < p3 by omega) _,(hS.2.2.2.2.1).up hgr (fun b hb=>hb.2),fun h=>by simp at h⟩,⟨fun h=>absurd rfl h,fun _=>hgr⟩,g,rb,k7.vrow _,h2,h3.grown hgr (by omega),h4.up hgr (fun b hb=>by omega)⟩) (by kernel_rfl) (j:=9) rfl ?_
              refine Zau [8] (by decide) ?_
              rintro v u hS hR
              simp only[Zal,Zak,eqv,Zl3,Zl4,Nat.reduceSub]at hR
              obtain ⟨g,rb,q1,q2,q3,q4⟩:=hR
              obtain ⟨z1,z2,z3,z4,z5,-⟩:=hS
              replace z4:Zbg u p r4:=by simpa using z4
              clear hS0 hone
              have hlt:=q3.lt
              have hlu:Lft u p6 p3 (Zbk (27+i) [e,e2]):=by
               refine ⟨_,q1,?_,?_⟩
               · refine Zfg (l:=[e,e2]) (rows:=[re,rb]) (by omega) ⟨by omega,by omega⟩ (by decide) (by decide) (show 2 * 96≤Zbq by decide) (Nat.le_refl _) (by simpa using q3) ⟨⟨by omega,by omega⟩,hlt⟩ ?_
                 exact Zmj z5 (q4.imp (fun b hb=>⟨⟨by have:=hb.1;omega,by have:=hb.1;omega⟩,hb.2⟩))
               · exact Zid q3 (by rw[hre.out,List.length_append,Zby q4];exact (by decide:2 * 6≤6+6))
              clear q1 q2 q3 q4 z5 hlt
              have hsn:=Zmu [41] p u r4 z4 hok4
              have hsn2:Calls Tryz.prog 203 #[.pointer (some ⟨p,0,none⟩),.string ⟨#[41]⟩] u fun e w'=>Zhk p u (Zbr [41] r4) (fun _ _ v=>v=.tuple #[]) e w':=hsn
              clear hsn
              go_wp2_with (first|(at_builtin;fail))
              refine hsn2.mono ?_
              clear hsn2
              rintro e9 wA ⟨hgA,h⟩
              rcases Zca hth4 with ⟨e0,h1,hq⟩|⟨_,r5,h1,hth5⟩
              · rw[h1]at h
                obtain ⟨h2,rfl⟩:=h
                refine ⟨rfl,?_⟩
                rw[hq]
                exact ⟨z1.trans hgA,h2,rfl⟩
              · rw[h1]at h
                obtain ⟨hdA,v,rfl,rfl⟩:=h
                obtain ⟨t5,e5⟩:=Zcv h1
                have hok5:Zhb r5:=hok4.sfx (by rw[e5];exact List.suffix_cons _ _)
                have HL5:Hid (r4.length=r5.length+1):=by rw[e5];exact rfl
                clear h1 e5
                go_wp2_with (first|(at_builtin;fail))
                go_roundw
                case rel=>exact ⟨_,r5,hok5,⟨f1,by omega,hth5⟩,z1.trans hgA,hdA,z3.grown hgA (by omega),hlu.grown hgA hpp6 hp63⟩
                case measure=>
                 rw[Zdn hdA,Zdn HD.out]
                 have:=HL.out
                 have:=HL2.out
                 have:=HL3.out
                 have:=HL4.out
                 have:=HL5.out
                 omega
def kwsL:List (List UInt8):=[wIn,Zjt,wIs,Zel]
theorem nx_rels (t:Tok) (r:List Tok):nxB 4 Zgw (t :: r)=(decide (t.k=4) && Zgw.contains t.t):=rfl
theorem isW_t {t:Tok} {s:List UInt8} (h:isW t s=true):t.t=s:=by
 unfold isW at h
 rw[Bool.and_eq_true]at h
 exact eq_of_beq h.2
theorem nx_kws (t:Tok) (r:List Tok):nxB 1 kwsL (t :: r)=(isW t wIn || (isW t Zjt || (isW t wIs || isW t Zel))):=by
 show (decide (t.k=1) && (false || [wIn,Zjt,wIs,Zel].contains t.t))=_
 unfold isW
 simp only[List.contains_cons,List.contains_nil,Bool.or_false,Bool.false_or]
 cases decide (t.k=1) <;> rfl
theorem rel_go {f1:Nat} {e:Et} {r:List Tok} {y:Zcs Et} (h:Zsj (pr f1) e r=some y) :
 (nxB 4 Zgw r=true∧∃ t r1,r=t :: r1∧Zgw.contains t.t=true∧Zcn (pr f1 (.lv 3) r1) (fun e2 r2=>okP (Zbk (Znt t.t) [e,e2]) r2)=some y) ∨
 (nxB 4 Zgw r=false∧nxB 1 kwsL r=false∧y=.ok (e,r)) ∨
 (nxB 4 Zgw r=false∧nxB 1 kwsL r=true∧∃ t r1,r=t :: r1 ∧
   ((t.t=wIn∧Zcn (pr f1 (.lv 3) r1) (fun e2 r2=>okP (Zbk 23 [e,e2]) r2)=some y) ∨
    (t.t=Zjt∧Zdc (Zda r1) (fun s r2=>okP (.mk 9 0 (str s) noS [] [e]) r2)=some y) ∨
    (t.t=wIs∧Zdc (Zju r1) (fun s r2=>okP (.mk 10 0 noS (str s) [] [e]) r2)=some y) ∨
    (t.t=Zel∧Zdc (Zdg r1) (fun s r2=>okP (.mk 11 0 (str s) noS [] [e]) r2)=some y))):=by
 cases r with
 | nil=>cases h;exact .inr (.inl ⟨rfl,rfl,rfl⟩)
 | cons t r1=>
   unfold Zsj at h
   simp only[]at h
   rw[nx_rels,nx_kws]
   split at h
   · next hc=>
     refine .inl ⟨hc,t,r1,rfl,?_,h⟩
     rw[Bool.and_eq_true]at hc
     exact hc.2
   · next hc=>
     have hc':(decide (t.k=4) && Zgw.contains t.t)=false:=by simpa using hc
     split at h
     · next h1=>exact .inr (.inr ⟨hc',by rw[h1];rfl,t,r1,rfl,.inl ⟨isW_t h1,h⟩⟩)
     · next h1=>
       split at h
       · next h2=>exact .inr (.inr ⟨hc',by rw[h2,Bool.true_or,Bool.or_true],t,r1,rfl,.inr (.inl ⟨isW_t h2,h⟩)⟩)
       · next h2=>
         split at h
         · next h3=>exact .inr (.inr ⟨hc',by rw[h3,Bool.true_or,Bool.or_true,Bool.or_true],t,r1,rfl,.inr (.inr (.inl ⟨isW_t h3,h⟩))⟩)
         · next h3=>
           split at h
           · next h4=>exact .inr (.inr ⟨hc',by rw[h4,Bool.or_true,Bool.or_true,Bool.or_true],t,r1,rfl,.inr (.inr (.inr ⟨isW_t h4,h⟩))⟩)
           · next h4=>cases h;exact .inr (.inl ⟨hc',by simp[h1,h2,h3,h4],rfl⟩)
theorem rels_signs:∀ s ∈ Zgw,Zdd.contains s=true:=by decide
theorem Zqu:∀ (f:Nat) (acc s:List UInt8) (ts r:List Tok),(∀ t ∈ ts,t.t.length≤4096)→Zfh f acc ts=.ok (s,r)→s.length≤acc.length+ts.length * 4100
 | 0,acc,s,ts,r,_,h=>by cases h;exact Nat.le_add_right _ _
 | f+1,acc,s,ts,r,hk,h=>by
   unfold Zfh at h
   cases h1:Zbr [58,58] ts with
   | error e=>rw[h1]at h;cases h;exact Nat.le_add_right _ _
   | ok z=>
     obtain ⟨_,r1⟩:=z
     rw[h1]at h
     obtain ⟨t,rfl⟩:=Zcv h1
     simp only[]at h
     cases h2:Zcj r1 with
     | error e=>rw[h2]at h;cases h
     | ok z=>
       obtain ⟨s1,r2⟩:=z
       rw[h2]at h
       obtain ⟨t2,rfl,rfl⟩:=Zce h2
       have h3:=Zqu f _ s r2 r (fun t ht=>hk t (by simp[ht])) h
       have h4:=hk t2 (by simp)
       simp only[List.length_append,List.length_cons,List.length_nil]at h3 ⊢
       omega
theorem typeP_size {s:List UInt8} {ts r:List Tok} (hk:Zhb ts) (h:Zju ts=.ok (s,r)):s.length≤20000000:=by
 unfold Zju at h
 cases h2:Zcj ts with
 | error e=>rw[h2]at h;cases h
 | ok z=>
   obtain ⟨s1,r2⟩:=z
   rw[h2]at h
   obtain ⟨t2,rfl,rfl⟩:=Zce h2
   have h3:=Zqu _ _ s r2 r (fun t ht=>(hk.2 t (by simp[ht])).1) h
   have h4:=(hk.2 t2 (by simp)).1
   have h5:=hk.1
   simp only[List.length_cons]at h5
   omega
theorem Zua:∀ (f:Nat) (acc:List UInt8) (u:List UInt8 × List UInt8) (ts r:List Tok),(∀ t ∈ ts,t.t.length≤4096)→Zlb f acc ts=.ok (u,r)→u.1.length≤acc.length+ts.length * 4100∧u.2.length≤4096
 | 0,acc,u,ts,r,_,h=>by cases h
 | f+1,acc,u,ts,r,hk,h=>by
   unfold Zlb at h
   cases h1:Zbr [58,58] ts with
   | error e=>rw[h1]at h;cases h
   | ok z=>
     obtain ⟨_,r1⟩:=z
     rw[h1]at h
     obtain ⟨t,rfl⟩:=Zcv h1
     simp only[]at h
     cases h2:Zdg r1 with
     | ok z=>
       obtain ⟨s1,r2⟩:=z
       rw[h2]at h
       obtain ⟨t2,rfl,rfl⟩:=Zjv h2
       cases h
       exact ⟨Nat.le_add_right _ _,hk t2 (by simp)⟩
     | error e=>
       rw[h2]at h
       simp only[]at h
       cases h3:Zcj r1 with
       | error e=>rw[h3]at h;cases h
       | ok z=>
         obtain ⟨s1,r2⟩:=z
         rw[h3]at h
         obtain ⟨t2,rfl,rfl⟩:=Zce h3
         have h4:=Zua f _ u r2 r (fun t ht=>hk t (by simp[ht])) h
         have h5:=hk t2 (by simp)
         simp only[List.length_append,List.length_cons,List.length_nil]at h4 ⊢
         exact ⟨by omega,h4.2⟩
theorem uidP_size {u:List UInt8 × List UInt8} {ts r:List Tok} (hk:Zhb ts) (h:Zqt ts=.ok (u,r)):u.1.length≤20000000∧u.2.length≤4096:=by
 unfold Zqt at h
 cases h2:Zcj ts with
 | error e=>rw[h2]at h;cases h
 | ok z=>
   obtain ⟨s1,r2⟩:=z
   rw[h2]at h
   obtain ⟨t2,rfl,rfl⟩:=Zce h2
   have h3:=Zua _ _ u r2 r (fun t ht=>(hk.2 t (by simp[ht])).1) h
   have h4:=(hk.2 t2 (by simp)).1
   have h5:=hk.1
   simp only[List.length_cons]at h5
   exact ⟨by omega,h3.2⟩
theorem str_mx2 {s:List UInt8} (h:s.length≤20000000):(str s).size≤Zbq:=by
 have:(str s).size=s.length:=by simp[str,ByteArray.size]
 rw[this]
 exact Nat.le_trans h (by decide)
theorem esAt_three {u:World} {P:Nat→Prop} {a b c:Et} {ra rb rc:List Value} (ha:EAt u P a ra) (hb:EAt u P b rb) (hc:EAt u P c rc):Zdz u P [a,b,c] [ra,rb,rc]:=by
 rw[Zdz]
 exact ⟨ra,[rb,rc],rfl,ha,Zmj hb hc⟩
end Go.Proofs.YtnhooehmcggmdaaGreatDoor
