/- Parts of a proof about the given program: XRdW21, XRdW22. -/
import Derived.Test.YtnhooehmcggmdaaGreatDoorZ33
namespace Go.Proofs.YtnhooehmcggmdaaGreatDoor
set_option maxHeartbeats 16000000
set_option linter.unusedVariables false
set_option linter.unusedSimpArgs false
set_option linter.unusedSectionVars false
open Go.RowKit
def Znz:List (List UInt8):=[Zkv,Zhn]
def PrimP (f:Nat) (ts:List Tok) (y:Zcs Et):Prop:=
 (nxB 2 [] ts=true→∃ t r,ts=t :: r∧y=.ok (.mk 2 t.n noS noS [] [],r))∧(nxB 2 [] ts=false →
 (nxB 3 [] ts=true→∃ t r,ts=t :: r∧y=.ok (.mk 3 0 (str t.t) noS [] [],r))∧(nxB 3 [] ts=false →
 (nxB 1 Znz ts=true→∃ t r,ts=t :: r∧((t.t=Zkv∧y=.ok (.mk 1 1 noS noS [] [],r))∨(t.t=Zhn∧y=.ok (.mk 1 0 noS noS [] [],r))))∧(nxB 1 Znz ts=false →
 (nxB 1 Zea ts=true→∃ t r,ts=t :: r∧y=.ok (.mk 5 0 (str t.t) noS [] [],r))∧(nxB 1 Zea ts=false →
 (nxB 4 [[40]] ts=true→∃ t r,ts=t :: r∧Zcn (pr f .expr r) (fun e r2=>Zdc (Zbr [41] r2) fun _ r3=>okP e r3)=some y)∧(nxB 4 [[40]] ts=false →
 (nxB 4 [[91]] ts=true→∃ t r,ts=t :: r∧Zqe (pr f) false r=some y)∧(nxB 4 [[91]] ts=false →
 (nxB 4 [[123]] ts=true→∃ t r,ts=t :: r∧Zqe (pr f) true r=some y)∧(nxB 4 [[123]] ts=false →
   Zdc (Zqt ts) (fun u r2=>okP (.mk 4 0 (str u.2) (str u.1) [] []) r2)=some y)))))))
theorem prim_go {f:Nat} {ts:List Tok} {y:Zcs Et} (h:pr f (.lv 7) ts=some y):∃ f',f=f'+1∧PrimP f' ts y:=by
 cases f with
 | zero=>cases h
 | succ f'=>
   refine ⟨f',rfl,?_⟩
   cases ts with
   | nil=>
     have h2:some (.error [])=some y:=h
     refine ⟨fun q=>(by cases q),fun _=>⟨fun q=>(by cases q),fun _=>⟨fun q=>(by cases q),fun _=>⟨fun q=>(by cases q),fun _=>⟨fun q=>(by cases q),fun _=>⟨fun q=>(by cases q),fun _=>⟨fun q=>(by cases q),fun _=>h2⟩⟩⟩⟩⟩⟩⟩
   | cons t r=>
     have h2:Zbj (pr f') (.lv 7) (t :: r)=some y:=h
     rw[Zfr]at h2
     have n2:nxB 2 [] (t :: r)=decide (t.k=2):=Zxv 2 t r
     have n3:nxB 3 [] (t :: r)=decide (t.k=3):=Zxv 3 t r
     have nb:nxB 1 Znz (t :: r)=(isW t Zkv || isW t Zhn):=by
      show (decide (t.k=1) && (false || [Zkv,Zhn].contains t.t))=_
      unfold isW
      simp only[List.contains_cons,List.contains_nil,Bool.or_false,Bool.false_or]
      cases decide (t.k=1) <;> rfl
     have nv:nxB 1 Zea (t :: r)=(decide (t.k=1) && Zea.contains t.t):=rfl
     unfold PrimP
     rw[n2,n3,nb,nv,Zsq,Zsq,Zsq]
     refine ⟨fun q=>?_,fun q2=>⟨fun q=>?_,fun q3=>⟨fun q=>?_,fun qb=>⟨fun q=>?_,fun qv=>⟨fun q=>?_,fun qp=>⟨fun q=>?_,fun qs=>⟨fun q=>?_,fun qr=>?_⟩⟩⟩⟩⟩⟩⟩
     · rw[if_pos (of_decide_eq_true q)]at h2
       cases h2
       exact ⟨t,r,rfl,rfl⟩
     all_goals rw[if_neg (of_decide_eq_false q2)]at h2
     · rw[if_pos (of_decide_eq_true q)]at h2
       cases h2
       exact ⟨t,r,rfl,rfl⟩
     all_goals rw[if_neg (of_decide_eq_false q3)]at h2
     · refine ⟨t,r,rfl,?_⟩
       split at h2
       · next hc=>cases h2;exact .inl ⟨isW_t hc,rfl⟩
       · next hc=>
         have hc':isW t Zkv=false:=by simpa using hc
         rw[hc',Bool.false_or]at q
         rw[if_pos q]at h2
         cases h2
         exact .inr ⟨isW_t q,rfl⟩
     all_goals rw[Bool.or_eq_false_iff]at qb
     all_goals rw[if_neg (by rw[qb.1];decide),if_neg (by rw[qb.2];decide)]at h2
     · rw[if_pos q]at h2
       cases h2
       exact ⟨t,r,rfl,rfl⟩
     all_goals rw[if_neg (by rw[qv];decide)]at h2
     · rw[if_pos q]at h2
       exact ⟨t,r,rfl,h2⟩
     all_goals rw[if_neg (by rw[qp];decide)]at h2
     · rw[if_pos q]at h2
       exact ⟨t,r,rfl,h2⟩
     all_goals rw[if_neg (by rw[qs];decide)]at h2
     · rw[if_pos q]at h2
       exact ⟨t,r,rfl,h2⟩
     · rw[if_neg (by rw[qr];decide)]at h2
       exact h2
set_option maxRecDepth 100000 in
theorem rprimary_w (n:Nat) (hX:Zla 55 .expr n) (hS:Ztu 204 false n) (hR:Ztu 205 true n):Zla 202 (.lv 7) (n+1):=by
 intro f hf p w0 w ts y hr hok hE hy
 have hplt:=hr.lt
 have hb0:=Zac w (.cells Zag.toArray 26)
 have k60:=Blk.new w Zag 26
 obtain ⟨w1,hw1n⟩:=Zaf (w.alloc (.cells Zag.toArray 26))
 have hw1:Hid (w1=w.alloc (.cells #[.int .u8 0,.int .i64 0,.string ⟨#[]⟩,.string ⟨#[]⟩,.slice none 0 0,.slice none 0 0] 26)):=hw1n
 have k61:Blk w1 w.heap.size Zag 26:=by rw[hw1.out];exact k60
 rw[←hw1n.out]at hb0
 have hd1:=hr.below hb0
 have hg1:=Zad hb0 (some p)
 obtain ⟨p6,hp6⟩:=Zaf w.heap.size
 have hpp6:p < p6:=by rw[hp6.out];exact hplt
 have HB:=Zai (Nat.le_of_eq hp6.out)
 have HB2:=Zai (Nat.le_of_eq hp6.out.symm)
 rw[←hp6.out]at k61
 obtain ⟨f',rfl,hP⟩:=prim_go hy
 have hf':f'≤n:=by omega
 clear hy k60 hb0 hw1n
 go_enter Tryz.func202,Tryz.ntmps202
 have htk0:=Zft 2 [] none 0 p w1 ts hd1 (by decide) (TxS.nil _ _) hok
 have htk:Calls Tryz.prog 97 #[.pointer (some ⟨p,0,none⟩),.int .u8 2,.slice none 0 0] w1 fun e w'=>e=.returned (.tuple #[.agg (Zae (Zck 2 [] ts)).toArray,.bool (nxB 2 [] ts)])∧Zbg w' p (Zct 2 [] ts)∧w1.grownBy w' (some p):=htk0
 clear htk0
 go_wp2_with (first
  | (at_builtin;fail))
 rw[←hw1.out,←hp6.out]
 refine htk.mono ?_
 clear htk
 rintro e9 w2 ⟨rfl,hd2,hg9⟩
 have hg2:=hg1.trans hg9
 have k62:=k61.grown hg9 (by omega)
 clear hg9
 cases hn:nxB 2 [] ts with
 | true=>
   obtain ⟨t,r,rfl,hq⟩:=hP.1 hn
   have e1:Zck 2 [] (t :: r)=t:=by unfold Zck;rw[hn];rfl
   rw[Zhp hn]at hd2
   rw[e1]
   have htb:=hok.2 t (by simp)
   have hokr:=hok.tail
   clear e1 hn hP hr
   have hb3:=Zah (Zac w2 (.cells #[.int .u8 0,.string ⟨#[]⟩,.int .i64 0,.int .i64 0] 46)) (Nat.le_refl _) (Zae t).toArray
   have kt3:Blk ((w2.alloc (.cells #[.int .u8 0,.string ⟨#[]⟩,.int .i64 0,.int .i64 0] 46)).setRow w2.heap.size (Zae t).toArray) w2.heap.size (Zae t) 46:=(Blk.new w2 (Zae Zan) 46).vrow _
   have k63:=k62.below hb3
   have hd3:=hd2.below hb3
   have hg3:=hg2.trans (Zad hb3 (some p))
   obtain ⟨w3,hw3⟩:=Zaf ((w2.alloc (.cells #[.int .u8 0,.string ⟨#[]⟩,.int .i64 0,.int .i64 0] 46)).setRow w2.heap.size (Zae t).toArray)
   rw[←hw3.out]at kt3 k63 hd3 hg3
   have HQ:=Zai hq
   have ct:w3.cell? ⟨w2.heap.size,2,none⟩=some (.int .i64 t.n):=kt3.cell 2
   go_wp2_with (first
    | (at_builtin;fail)
    | (refine wpList_store_row rfl 46 _ _ rfl _ (Zae t).toArray rfl rfl 46 (Zae Zan).toArray (Blk.new w2 (Zae Zan) 46) (kT4 rfl) rfl (Zay _) ?_;rw[←hw3.out])
    | refine wpList_store_row rfl 26 _ _ rfl _ (Zav 2 t.n ⟨#[]⟩ ⟨#[]⟩ (.slice none 0 0) (.slice none 0 0)).toArray rfl rfl 26 Zag.toArray k63 (kE6 rfl) rfl (Zas Zcd) ?_)
   refine bodyPost_ret (Zfz rfl _ rfl (k63.vrow (Zav 2 t.n ⟨#[]⟩ ⟨#[]⟩ (.slice none 0 0) (.slice none 0 0))) rfl) rfl ?_
   rw[HQ.out]
   exact ⟨Zaq hg3 HB2.out _,hd3.row hpp6 _,_,rfl,_,rfl,Zkr (by decide) (⟨htb.2.2.1,htb.2.2.2⟩) (by decide) (by decide),Zjd _⟩
 | false=>
   have e1:Zck 2 [] ts=Zan:=by unfold Zck;rw[hn];rfl
   rw[Zkw hn]at hd2
   rw[e1]
   replace hP:=hP.2 hn
   clear e1 hn
   have hb3:=Zah (Zac w2 (.cells #[.int .u8 0,.string ⟨#[]⟩,.int .i64 0,.int .i64 0] 46)) (Nat.le_refl _) (Zae Zan).toArray
   have kt3:Blk ((w2.alloc (.cells #[.int .u8 0,.string ⟨#[]⟩,.int .i64 0,.int .i64 0] 46)).setRow w2.heap.size (Zae Zan).toArray) w2.heap.size (Zae Zan) 46:=(Blk.new w2 (Zae Zan) 46).vrow _
   have k63:=k62.below hb3
   have hd3:=hd2.below hb3
   have hg3:=hg2.trans (Zad hb3 (some p))
   obtain ⟨w3,hw3⟩:=Zaf ((w2.alloc (.cells #[.int .u8 0,.string ⟨#[]⟩,.int .i64 0,.int .i64 0] 46)).setRow w2.heap.size (Zae Zan).toArray)
   rw[←hw3.out]at kt3 k63 hd3 hg3
   have htk0:=Zft 3 [] none 0 p w3 ts hd3 (by decide) (TxS.nil _ _) hok
   have htk:Calls Tryz.prog 97 #[.pointer (some ⟨p,0,none⟩),.int .u8 3,.slice none 0 0] w3 fun e w'=>e=.returned (.tuple #[.agg (Zae (Zck 3 [] ts)).toArray,.bool (nxB 3 [] ts)])∧Zbg w' p (Zct 3 [] ts)∧w3.grownBy w' (some p):=htk0
   clear htk0
   go_wp2_with (first
    | (at_builtin;fail)
    | (refine wpList_store_row rfl 46 _ _ rfl _ (Zae Zan).toArray rfl rfl 46 (Zae Zan).toArray (Blk.new w2 (Zae Zan) 46) (kT4 rfl) rfl (Zay _) ?_;rw[←hw3.out]))
   refine htk.mono ?_
   clear htk
   rintro e9 w4 ⟨rfl,hd4,hg9⟩
   have hg4:=hg3.trans hg9
   have k64:=k63.grown hg9 (by omega)
   clear hg9
   cases hn:nxB 3 [] ts with
   | true=>
     obtain ⟨t,r,rfl,hq⟩:=hP.1 hn
     have e1:Zck 3 [] (t :: r)=t:=by unfold Zck;rw[hn];rfl
     rw[Zhp hn]at hd4
     rw[e1]
     have htb:=hok.2 t (by simp)
     have hokr:=hok.tail
     clear e1 hn hP hr
     have hb5:=Zah (Zac w4 (.cells #[.int .u8 0,.string ⟨#[]⟩,.int .i64 0,.int .i64 0] 46)) (Nat.le_refl _) (Zae t).toArray
     have kt5:Blk ((w4.alloc (.cells #[.int .u8 0,.string ⟨#[]⟩,.int .i64 0,.int .i64 0] 46)).setRow w4.heap.size (Zae t).toArray) w4.heap.size (Zae t) 46:=(Blk.new w4 (Zae Zan) 46).vrow _
     have k65:=k64.below hb5
     have hd5:=hd4.below hb5
     have hg5:=hg4.trans (Zad hb5 (some p))
     obtain ⟨w5,hw5⟩:=Zaf ((w4.alloc (.cells #[.int .u8 0,.string ⟨#[]⟩,.int .i64 0,.int .i64 0] 46)).setRow w4.heap.size (Zae t).toArray)
     rw[←hw5.out]at kt5 k65 hd5 hg5
     have HQ:=Zai hq
     have ct:w5.cell? ⟨w4.heap.size,1,none⟩=some (.string (str t.t)):=kt5.cell 1
     go_wp2_with (first
      | (at_builtin;fail)
      | (refine wpList_store_row rfl 46 _ _ rfl _ (Zae t).toArray rfl rfl 46 (Zae Zan).toArray (Blk.new w4 (Zae Zan) 46) (kT4 rfl) rfl (Zay _) ?_;rw[←hw5.out])
      | refine wpList_store_row rfl 26 _ _ rfl _ (Zav 3 0 (str t.t) ⟨#[]⟩ (.slice none 0 0) (.slice none 0 0)).toArray rfl rfl 26 Zag.toArray k65 (kE6 rfl) rfl (Zas Zcd) ?_)
     refine bodyPost_ret (Zfz rfl _ rfl (k65.vrow (Zav 3 0 (str t.t) ⟨#[]⟩ (.slice none 0 0) (.slice none 0 0))) rfl) rfl ?_
     rw[HQ.out]
     exact ⟨Zaq hg5 HB2.out _,hd5.row hpp6 _,_,rfl,_,rfl,Zkr (by decide) (⟨by omega,by omega⟩) (Zls htb.1) (by decide),Zjd _⟩
   | false=>
     have e1:Zck 3 [] ts=Zan:=by unfold Zck;rw[hn];rfl
     rw[Zkw hn]at hd4
     rw[e1]
     replace hP:=hP.2 hn
     clear e1 hn
     have hb5:=Zah (Zac w4 (.cells #[.int .u8 0,.string ⟨#[]⟩,.int .i64 0,.int .i64 0] 46)) (Nat.le_refl _) (Zae Zan).toArray
     have kt5:Blk ((w4.alloc (.cells #[.int .u8 0,.string ⟨#[]⟩,.int .i64 0,.int .i64 0] 46)).setRow w4.heap.size (Zae Zan).toArray) w4.heap.size (Zae Zan) 46:=(Blk.new w4 (Zae Zan) 46).vrow _
     have k65:=k64.below hb5
     have hd5:=hd4.below hb5
     have hg5:=hg4.trans (Zad hb5 (some p))
     obtain ⟨w5,hw5⟩:=Zaf ((w4.alloc (.cells #[.int .u8 0,.string ⟨#[]⟩,.int .i64 0,.int .i64 0] 46)).setRow w4.heap.size (Zae Zan).toArray)
     rw[←hw5.out]at kt5 k65 hd5 hg5
     have hbx5:=Zac w5 (.cells #[.string ⟨#[116,114,117,101]⟩,.string ⟨#[102,97,108,115,101]⟩] 9)
     have hx5:TxS (w5.alloc (.cells #[.string ⟨#[116,114,117,101]⟩,.string ⟨#[102,97,108,115,101]⟩] 9)) (some ⟨w5.heap.size,0,none⟩) Znz:=Zfi w5 Znz
     have k65x:=k65.below hbx5
     have hd5x:=hd5.below hbx5
     have hg5x:=hg5.trans (Zad hbx5 (some p))
     obtain ⟨w5x,hw5x⟩:=Zaf (w5.alloc (.cells #[.string ⟨#[116,114,117,101]⟩,.string ⟨#[102,97,108,115,101]⟩] 9))
     rw[←hw5x.out]at hx5 k65x hd5x hg5x
     have htk0:=Zft 1 Znz (some ⟨w5.heap.size,0,none⟩) 2 p w5x ts hd5x (by decide) hx5 hok
     have htk:Calls Tryz.prog 97 #[.pointer (some ⟨p,0,none⟩),.int .u8 1,.slice (some ⟨w5.heap.size,0,none⟩) 2 2] w5x fun e w'=>e=.returned (.tuple #[.agg (Zae (Zck 1 Znz ts)).toArray,.bool (nxB 1 Znz ts)])∧Zbg w' p (Zct 1 Znz ts)∧w5x.grownBy w' (some p):=htk0
     clear htk0
     go_wp2_with (first
      | (at_builtin;fail)
      | (refine wpList_store_row rfl 46 _ _ rfl _ (Zae Zan).toArray rfl rfl 46 (Zae Zan).toArray (Blk.new w4 (Zae Zan) 46) (kT4 rfl) rfl (Zay _) ?_;rw[←hw5.out]))
     rw[←hw5x.out]
     refine htk.mono ?_
     clear htk
     rintro e9 w6 ⟨rfl,hd6,hg9⟩
     have hg6:=hg5x.trans hg9
     have k66:=k65x.grown hg9 (by omega)
     clear hg9
     cases hn:nxB 1 Znz ts with
     | true=>
       obtain ⟨t,r,rfl,hq⟩:=hP.1 hn
       have e1:Zck 1 Znz (t :: r)=t:=by unfold Zck;rw[hn];rfl
       rw[Zhp hn]at hd6
       rw[e1]
       have htb:=hok.2 t (by simp)
       have hokr:=hok.tail
       clear e1 hn hP hr
       have hb7:=Zah (Zac w6 (.cells #[.int .u8 0,.string ⟨#[]⟩,.int .i64 0,.int .i64 0] 46)) (Nat.le_refl _) (Zae t).toArray
       have kt7:Blk ((w6.alloc (.cells #[.int .u8 0,.string ⟨#[]⟩,.int .i64 0,.int .i64 0] 46)).setRow w6.heap.size (Zae t).toArray) w6.heap.size (Zae t) 46:=(Blk.new w6 (Zae Zan) 46).vrow _
       have k67:=k66.below hb7
       have hd7:=hd6.below hb7
       have hg7:=hg6.trans (Zad hb7 (some p))
       obtain ⟨w7,hw7⟩:=Zaf ((w6.alloc (.cells #[.int .u8 0,.string ⟨#[]⟩,.int .i64 0,.int .i64 0] 46)).setRow w6.heap.size (Zae t).toArray)
       rw[←hw7.out]at kt7 k67 hd7 hg7
       have ct:w7.cell? ⟨w6.heap.size,1,none⟩=some (.string (str t.t)):=kt7.cell 1
       rcases hq with ⟨ht,hq⟩|⟨ht,hq⟩
       · rw[ht]at ct
         replace ct:w7.cell? ⟨w6.heap.size,1,none⟩=some (.string ⟨#[116,114,117,101]⟩):=ct
         have HQ:=Zai hq
         go_wp2_with (first
          | (at_builtin;fail)
          | (refine wpList_store_row rfl 46 _ _ rfl _ (Zae t).toArray rfl rfl 46 (Zae Zan).toArray (Blk.new w6 (Zae Zan) 46) (kT4 rfl) rfl (Zay _) ?_;rw[←hw7.out])
          | refine wpList_store_row rfl 26 _ _ rfl _ (Zav 1 1 ⟨#[]⟩ ⟨#[]⟩ (.slice none 0 0) (.slice none 0 0)).toArray rfl rfl 26 Zag.toArray k67 (kE6 rfl) rfl (Zas Zcd) ?_)
         refine bodyPost_ret (Zfz rfl _ rfl (k67.vrow (Zav 1 1 ⟨#[]⟩ ⟨#[]⟩ (.slice none 0 0) (.slice none 0 0))) rfl) rfl ?_
         rw[HQ.out]
         exact ⟨Zaq hg7 HB2.out _,hd7.row hpp6 _,_,rfl,_,rfl,Zkr (by decide) (⟨by omega,by omega⟩) (by decide) (by decide),Zjd _⟩
       · rw[ht]at ct
         replace ct:w7.cell? ⟨w6.heap.size,1,none⟩=some (.string ⟨#[102,97,108,115,101]⟩):=ct
         have HQ:=Zai hq
         go_wp2_with (first
          | (at_builtin;fail)
          | (refine wpList_store_row rfl 46 _ _ rfl _ (Zae t).toArray rfl rfl 46 (Zae Zan).toArray (Blk.new w6 (Zae Zan) 46) (kT4 rfl) rfl (Zay _) ?_;rw[←hw7.out])
          | refine wpList_store_row rfl 26 _ _ rfl _ (Zav 1 0 ⟨#[]⟩ ⟨#[]⟩ (.slice none 0 0) (.slice none 0 0)).toArray rfl rfl 26 Zag.toArray k67 (kE6 rfl) rfl (Zas Zcd) ?_)
         refine bodyPost_ret (Zfz rfl _ rfl (k67.vrow (Zav 1 0 ⟨#[]⟩ ⟨#[]⟩ (.slice none 0 0) (.slice none 0 0))) rfl) rfl ?_
         rw[HQ.out]
         exact ⟨Zaq hg7 HB2.out _,hd7.row hpp6 _,_,rfl,_,rfl,Zkr (by decide) (⟨by omega,by omega⟩) (by decide) (by decide),Zjd _⟩
     | false=>
       have e1:Zck 1 Znz ts=Zan:=by unfold Zck;rw[hn];rfl
       rw[Zkw hn]at hd6
       rw[e1]
       replace hP:=hP.2 hn
       clear e1 hn
       have hb7:=Zah (Zac w6 (.cells #[.int .u8 0,.string ⟨#[]⟩,.int .i64 0,.int .i64 0] 46)) (Nat.le_refl _) (Zae Zan).toArray
       have kt7:Blk ((w6.alloc (.cells #[.int .u8 0,.string ⟨#[]⟩,.int .i64 0,.int .i64 0] 46)).setRow w6.heap.size (Zae Zan).toArray) w6.heap.size (Zae Zan) 46:=(Blk.new w6 (Zae Zan) 46).vrow _
       have k67:=k66.below hb7
       have hd7:=hd6.below hb7
       have hg7:=hg6.trans (Zad hb7 (some p))
       obtain ⟨w7,hw7⟩:=Zaf ((w6.alloc (.cells #[.int .u8 0,.string ⟨#[]⟩,.int .i64 0,.int .i64 0] 46)).setRow w6.heap.size (Zae Zan).toArray)
       rw[←hw7.out]at kt7 k67 hd7 hg7
       have hbx7:=Zac w7 (.cells #[.string ⟨#[112,114,105,110,99,105,112,97,108]⟩,.string ⟨#[97,99,116,105,111,110]⟩,.string ⟨#[114,101,115,111,117,114,99,101]⟩,.string ⟨#[99,111,110,116,101,120,116]⟩] 9)
       have hx7:TxS (w7.alloc (.cells #[.string ⟨#[112,114,105,110,99,105,112,97,108]⟩,.string ⟨#[97,99,116,105,111,110]⟩,.string ⟨#[114,101,115,111,117,114,99,101]⟩,.string ⟨#[99,111,110,116,101,120,116]⟩] 9)) (some ⟨w7.heap.size,0,none⟩) Zea:=Zfi w7 Zea
       have k67x:=k67.below hbx7
       have hd7x:=hd7.below hbx7
       have hg7x:=hg7.trans (Zad hbx7 (some p))
       obtain ⟨w7x,hw7x⟩:=Zaf (w7.alloc (.cells #[.string ⟨#[112,114,105,110,99,105,112,97,108]⟩,.string ⟨#[97,99,116,105,111,110]⟩,.string ⟨#[114,101,115,111,117,114,99,101]⟩,.string ⟨#[99,111,110,116,101,120,116]⟩] 9))
       rw[←hw7x.out]at hx7 k67x hd7x hg7x
       have htk0:=Zft 1 Zea (some ⟨w7.heap.size,0,none⟩) 4 p w7x ts hd7x (by decide) hx7 hok
       have htk:Calls Tryz.prog 97 #[.pointer (some ⟨p,0,none⟩),.int .u8 1,.slice (some ⟨w7.heap.size,0,none⟩) 4 4] w7x fun e w'=>e=.returned (.tuple #[.agg (Zae (Zck 1 Zea ts)).toArray,.bool (nxB 1 Zea ts)])∧Zbg w' p (Zct 1 Zea ts)∧w7x.grownBy w' (some p):=htk0
       clear htk0
       go_wp2_with (first
        | (at_builtin;fail)
        | (refine wpList_store_row rfl 46 _ _ rfl _ (Zae Zan).toArray rfl rfl 46 (Zae Zan).toArray (Blk.new w6 (Zae Zan) 46) (kT4 rfl) rfl (Zay _) ?_;rw[←hw7.out]))
       rw[←hw7x.out]
       refine htk.mono ?_
       clear htk
       rintro e9 w8 ⟨rfl,hd8,hg9⟩
       have hg8:=hg7x.trans hg9
       have k68:=k67x.grown hg9 (by omega)
       clear hg9
       cases hn:nxB 1 Zea ts with
       | true=>
         obtain ⟨t,r,rfl,hq⟩:=hP.1 hn
         have e1:Zck 1 Zea (t :: r)=t:=by unfold Zck;rw[hn];rfl
         rw[Zhp hn]at hd8
         rw[e1]
         have htb:=hok.2 t (by simp)
         have hokr:=hok.tail
         clear e1 hn hP hr
         have hb9:=Zah (Zac w8 (.cells #[.int .u8 0,.string ⟨#[]⟩,.int .i64 0,.int .i64 0] 46)) (Nat.le_refl _) (Zae t).toArray
         have kt9:Blk ((w8.alloc (.cells #[.int .u8 0,.string ⟨#[]⟩,.int .i64 0,.int .i64 0] 46)).setRow w8.heap.size (Zae t).toArray) w8.heap.size (Zae t) 46:=(Blk.new w8 (Zae Zan) 46).vrow _
         have k69:=k68.below hb9
         have hd9:=hd8.below hb9
         have hg9:=hg8.trans (Zad hb9 (some p))
         obtain ⟨w9,hw9⟩:=Zaf ((w8.alloc (.cells #[.int .u8 0,.string ⟨#[]⟩,.int .i64 0,.int .i64 0] 46)).setRow w8.heap.size (Zae t).toArray)
         rw[←hw9.out]at kt9 k69 hd9 hg9
         have HQ:=Zai hq
         have ct:w9.cell? ⟨w8.heap.size,1,none⟩=some (.string (str t.t)):=kt9.cell 1
         go_wp2_with (first
          | (at_builtin;fail)
          | (refine wpList_store_row rfl 46 _ _ rfl _ (Zae t).toArray rfl rfl 46 (Zae Zan).toArray (Blk.new w8 (Zae Zan) 46) (kT4 rfl) rfl (Zay _) ?_;rw[←hw9.out])
          | refine wpList_store_row rfl 26 _ _ rfl _ (Zav 5 0 (str t.t) ⟨#[]⟩ (.slice none 0 0) (.slice none 0 0)).toArray rfl rfl 26 Zag.toArray k69 (kE6 rfl) rfl (Zas Zcd) ?_)
         refine bodyPost_ret (Zfz rfl _ rfl (k69.vrow (Zav 5 0 (str t.t) ⟨#[]⟩ (.slice none 0 0) (.slice none 0 0))) rfl) rfl ?_
         rw[HQ.out]
         exact ⟨Zaq hg9 HB2.out _,hd9.row hpp6 _,_,rfl,_,rfl,Zkr (by decide) (⟨by omega,by omega⟩) (Zls htb.1) (by decide),Zjd _⟩
       | false=>
         have e1:Zck 1 Zea ts=Zan:=by unfold Zck;rw[hn];rfl
         rw[Zkw hn]at hd8
         rw[e1]
         replace hP:=hP.2 hn
         clear e1 hn
         have hb9:=Zah (Zac w8 (.cells #[.int .u8 0,.string ⟨#[]⟩,.int .i64 0,.int .i64 0] 46)) (Nat.le_refl _) (Zae Zan).toArray
         have kt9:Blk ((w8.alloc (.cells #[.int .u8 0,.string ⟨#[]⟩,.int .i64 0,.int .i64 0] 46)).setRow w8.heap.size (Zae Zan).toArray) w8.heap.size (Zae Zan) 46:=(Blk.new w8 (Zae Zan) 46).vrow _
         have k69:=k68.below hb9
         have hd9:=hd8.below hb9
         have hg9:=hg8.trans (Zad hb9 (some p))
         obtain ⟨w9,hw9⟩:=Zaf ((w8.alloc (.cells #[.int .u8 0,.string ⟨#[]⟩,.int .i64 0,.int .i64 0] 46)).setRow w8.heap.size (Zae Zan).toArray)
         rw[←hw9.out]at kt9 k69 hd9 hg9
         have hhas:=Zlw [40] p w9 ts hd9 hok
         have hhas1:Calls Tryz.prog 171 #[.pointer (some ⟨p,0,none⟩),.string ⟨#[40]⟩] w9 fun e w'=>e=.returned (.bool (nxB 4 [[40]] ts))∧Zbg w' p (Zct 4 [[40]] ts)∧w9.grownBy w' (some p):=hhas
         clear hhas
         go_wp2_with (first
          | (at_builtin;fail)
          | (refine wpList_store_row rfl 46 _ _ rfl _ (Zae Zan).toArray rfl rfl 46 (Zae Zan).toArray (Blk.new w8 (Zae Zan) 46) (kT4 rfl) rfl (Zay _) ?_;rw[←hw9.out]))
         refine hhas1.mono ?_
         clear hhas1
         rintro e9 w10 ⟨rfl,hd10,hgh⟩
         have hg10:=hg9.trans hgh
         have k610:=k69.grown hgh (by omega)
         clear hgh
         cases hn:nxB 4 [[40]] ts with
         | true=>
           obtain ⟨t,r,rfl,hy⟩:=hP.1 hn
           rw[Zhp hn]at hd10
           have hokr:=hok.tail
           clear hn hP hr
           have hsz:p6 < w10.heap.size:=k610.lt
           go_wp2_with (first|(at_builtin;fail))
           rcases Zbp hy with ⟨e0,h1,hq⟩|⟨e,r2,h1,hy2⟩
           · refine (hX f' hf' p w0 w10 r (.error e0) hd10 hokr (hE.step hg10) h1).mono ?_
             rintro e9 w14 ⟨hg9,h2,rfl⟩
             refine ⟨rfl,?_⟩
             rw[hq]
             exact ⟨hg10.trans hg9,h2,rfl⟩
           refine (hX f' hf' p w0 w10 r (.ok (e,r2)) hd10 hokr (hE.step hg10) h1).mono ?_
           rintro e9 w14 ⟨hg9,hd14,v9,rfl,re,rfl,hv,hw⟩
           have hok2:=hokr.sfx (Zmx f' _ _ _ h1).1
           have hlen:=Zby hv
           have hg14:=hg10.trans hg9
           have k614:=k610.grown hg9 (by omega)
           have hb15:=Zah (Zac w14 (.cells Zag.toArray 26)) (Nat.le_refl _) re.toArray
           have k315:Blk ((w14.alloc (.cells Zag.toArray 26)).setRow w14.heap.size re.toArray) w14.heap.size re 26:=(Blk.new w14 Zag 26).vrow _
           have k615:=k614.below hb15
           have hd15:=hd14.below hb15
           have hg15:=hg14.trans (Zad hb15 (some p))
           have hs14:p6 < w14.heap.size:=k614.lt
           obtain ⟨w15,hw15⟩:=Zaf ((w14.alloc (.cells Zag.toArray 26)).setRow w14.heap.size re.toArray)
           have hw15l:Hid (w15=(w14.alloc (.cells #[.int .u8 0,.int .i64 0,.string ⟨#[]⟩,.string ⟨#[]⟩,.slice none 0 0,.slice none 0 0] 26)).setRow w14.heap.size re.toArray):=hw15
           rw[←hw15.out]at k315 k615 hd15 hg15 hb15
           have hv15:=(hv.imp (Q:=Up w14 (fun b=>p6 < b∧b ≠ w14.heap.size)) (fun b hb=>⟨⟨by have:w10.heap.size≤b:=hb.1;omega,by have:=hb.2;omega⟩,hb.2⟩)).up (Zad hb15 (some p)) (fun b hb=>by have:=hb.1;omega)
           have hw15e:=hw.below hb15
           have hsn:=Zmu [41] p w15 r2 hd15 hok2
           have hsn2:Calls Tryz.prog 203 #[.pointer (some ⟨p,0,none⟩),.string ⟨#[41]⟩] w15 fun e w'=>Zhk p w15 (Zbr [41] r2) (fun _ _ v=>v=.tuple #[]) e w':=hsn
           obtain ⟨p3,hp3⟩:=Zaf w14.heap.size
           rw[←hp3.out]at k315 hv15 hs14
           clear hsn h1 hy hb15 hg14 hd14 k614
           go_wp2_with (first
            | (at_builtin;fail)
            | (refine wpList_store_row rfl 26 _ _ rfl _ re.toArray rfl rfl 26 Zag.toArray (Blk.new w14 Zag 26) (kE6 hlen) (zE6 hlen) (Zas (Zcy hv)) ?_;rw[←hw15l.out]))
           try rw[←hp3.out]
           refine hsn2.mono ?_
           clear hsn2 hw15 hw15l hv hw
           rintro e9 w16 ⟨hg9',h⟩
           rcases Zca hy2 with ⟨e0,h1,hq⟩|⟨_,r3,h1,hnext⟩
           · rw[h1]at h
             obtain ⟨h2,rfl⟩:=h
             refine ⟨rfl,?_⟩
             rw[hq]
             exact ⟨hg15.trans hg9',h2,rfl⟩
           rw[h1]at h
           obtain ⟨hd16,v,rfl,rfl⟩:=h
           have HQ:Hid (y=.ok (e,r3)):=Zai (Option.some.inj hnext).symm
           have hg16:=hg15.trans hg9'
           have k616:=k615.grown hg9' (by omega)
           have k316:=k315.grown hg9' (by omega)
           have hv16:=hv15.up hg9' (fun b hb=>by have:=hb.1;omega)
           have hw16:=hw15e.grown hv15 hg9' (fun b hb=>by have:=hb.1.1;omega)
           clear h1 hy2 hnext hg15 hd15 k615 k315 hv15 hw15e hg9'
           go_wp2_with (first
            | (at_builtin;fail)
            | refine wpList_load_row rfl 26 _ rfl _ rfl 26 re.toArray (0,0) _ k316 Tryz.underlying26 rfl (kE6 hlen) ?_
            | refine wpList_store_row rfl 26 _ _ rfl _ re.toArray rfl rfl 26 Zag.toArray k616 (kE6 hlen) (zE6 hlen) (Zas (Zcy hv16)) ?_)
           have hgr:=Zbc w16 p6 re.toArray
           refine bodyPost_ret (Zfz rfl _ rfl (k616.vrow re) hlen) rfl ?_
           rw[HQ.out]
           refine ⟨Zaq hg16 HB2.out _,hd16.row hpp6 _,_,rfl,re,rfl,?_,hw16.grown hv16 hgr (fun b hb=>by have:=hb.1.1;omega)⟩
           exact (hv16.up hgr (fun b hb=>by have:=hb.1;omega)).imp (fun b hb=>⟨by have:=HB2.out;have:=hb.1.1;omega,hb.2⟩)
         | false=>
           replace hP:=hP.2 hn
           rw[Zkw hn]at hd10
           clear hn
           have hhas:=Zlw [91] p w10 ts hd10 hok
           have hhas1:Calls Tryz.prog 171 #[.pointer (some ⟨p,0,none⟩),.string ⟨#[91]⟩] w10 fun e w'=>e=.returned (.bool (nxB 4 [[91]] ts))∧Zbg w' p (Zct 4 [[91]] ts)∧w10.grownBy w' (some p):=hhas
           clear hhas
           go_wp2_with (first
            | (at_builtin;fail))
           refine hhas1.mono ?_
           clear hhas1
           rintro e9 w11 ⟨rfl,hd11,hgh⟩
           have hg11:=hg10.trans hgh
           have k611:=k610.grown hgh (by omega)
           clear hgh
           cases hn:nxB 4 [[91]] ts with
           | true=>
             obtain ⟨t,r,rfl,hy⟩:=hP.1 hn
             rw[Zhp hn]at hd11
             have hokr:=hok.tail
             clear hn hP hr
             have hrow:=hS f' hf' p w0 w11 r y hd11 hokr (hE.step hg11) hy
             have hsz:p6 < w11.heap.size:=k611.lt
             go_wp2_with (first|(at_builtin;fail))
             refine hrow.mono ?_
             clear hrow
             rintro e9 w14 ⟨hg9,h1⟩
             have hg14:=hg11.trans hg9
             have k614:=k611.grown hg9 (by omega)
             cases y with
             | error e0=>
               obtain ⟨h2,rfl⟩:=h1
               exact ⟨rfl,hg14,h2,rfl⟩
             | ok z=>
               obtain ⟨h2,v,rfl,re,rfl,hv,hw⟩:=h1
               have hlen:=Zby hv
               go_wp2_with (first
                | (at_builtin;fail)
                | refine wpList_store_row rfl 26 _ _ rfl _ re.toArray rfl rfl 26 Zag.toArray k614 (kE6 hlen) (zE6 hlen) (Zas (Zcy hv)) ?_)
               have hgr:=Zbc w14 p6 re.toArray
               refine bodyPost_ret (Zfz rfl _ rfl (k614.vrow re) hlen) rfl ?_
               refine ⟨Zaq hg14 HB2.out _,h2.row hpp6 _,_,rfl,re,rfl,?_,hw.grown hv hgr (fun b hb=>by have:w11.heap.size≤b:=hb.1;omega)⟩
               exact (EAt.up (Q:=fun b=>w11.heap.size≤b) hv hgr (fun b hb=>by have:w11.heap.size≤b:=hb;omega)).imp (fun b hb=>⟨by have:=HB2.out;have:w11.heap.size≤b:=hb.1;omega,hb.2⟩)
           | false=>
             replace hP:=hP.2 hn
             rw[Zkw hn]at hd11
             clear hn
             have hhas:=Zlw [123] p w11 ts hd11 hok
             have hhas1:Calls Tryz.prog 171 #[.pointer (some ⟨p,0,none⟩),.string ⟨#[123]⟩] w11 fun e w'=>e=.returned (.bool (nxB 4 [[123]] ts))∧Zbg w' p (Zct 4 [[123]] ts)∧w11.grownBy w' (some p):=hhas
             clear hhas
             go_wp2_with (first
              | (at_builtin;fail))
             refine hhas1.mono ?_
             clear hhas1
             rintro e9 w13 ⟨rfl,hd13,hgh⟩
             have hg13:=hg11.trans hgh
             have k613:=k611.grown hgh (by omega)
             clear hgh
             cases hn:nxB 4 [[123]] ts with
             | true=>
               obtain ⟨t,r,rfl,hy⟩:=hP.1 hn
               rw[Zhp hn]at hd13
               have hokr:=hok.tail
               clear hn hP hr
               have hrow:=hR f' hf' p w0 w13 r y hd13 hokr (hE.step hg13) hy
               have hsz:p6 < w13.heap.size:=k613.lt
               go_wp2_with (first|(at_builtin;fail))
               refine hrow.mono ?_
               clear hrow
               rintro e9 w14 ⟨hg9,h1⟩
               have hg14:=hg13.trans hg9
               have k614:=k613.grown hg9 (by omega)
               cases y with
               | error e0=>
                 obtain ⟨h2,rfl⟩:=h1
                 exact ⟨rfl,hg14,h2,rfl⟩
               | ok z=>
                 obtain ⟨h2,v,rfl,re,rfl,hv,hw⟩:=h1
                 have hlen:=Zby hv
                 go_wp2_with (first
                  | (at_builtin;fail)
                  | refine wpList_store_row rfl 26 _ _ rfl _ re.toArray rfl rfl 26 Zag.toArray k614 (kE6 hlen) (zE6 hlen) (Zas (Zcy hv)) ?_)
                 have hgr:=Zbc w14 p6 re.toArray
                 refine bodyPost_ret (Zfz rfl _ rfl (k614.vrow re) hlen) rfl ?_
                 refine ⟨Zaq hg14 HB2.out _,h2.row hpp6 _,_,rfl,re,rfl,?_,hw.grown hv hgr (fun b hb=>by have:w13.heap.size≤b:=hb.1;omega)⟩
                 exact (EAt.up (Q:=fun b=>w13.heap.size≤b) hv hgr (fun b hb=>by have:w13.heap.size≤b:=hb;omega)).imp (fun b hb=>⟨by have:=HB2.out;have:w13.heap.size≤b:=hb.1;omega,hb.2⟩)
             | false=>
               replace hP:=hP.2 hn
               rw[Zkw hn]at hd13
               clear hn
               have huid:=ruid_w p w0 w13 ts hd13 hok (hE.step hg13)
               go_wp2_with (first|(at_builtin;fail))
               refine huid.mono ?_
               clear huid
               rintro e9 w14 ⟨hg9,h⟩
               have hg14:=hg13.trans hg9
               have k614:=k613.grown hg9 (by omega)
               rcases Zca hP with ⟨e0,h1,hq⟩|⟨q,r2,h1,hnext⟩
               · rw[h1]at h
                 obtain ⟨h2,rfl⟩:=h
                 refine ⟨rfl,?_⟩
                 rw[hq]
                 exact ⟨hg14,h2,rfl⟩
               rw[h1]at h
               obtain ⟨hd14,v,rfl,rfl⟩:=h
               have HQ:Hid (y=.ok (.mk 4 0 (str q.2) (str q.1) [] [],r2)):=Zai (Option.some.inj hnext).symm
               obtain ⟨hz1,hz2⟩:=uidP_size hok h1
               have hb15:=Zac w14 (.cells #[.string (str q.1),.string (str q.2)] 116)
               have ku:=Blk.new w14 [.string (str q.1),.string (str q.2)] 116
               have k615:=k614.below hb15
               have hd15:=hd14.below hb15
               have hg15:=hg14.trans (Zad hb15 (some p))
               have cu0:(w14.alloc (.cells #[.string (str q.1),.string (str q.2)] 116)).cell? ⟨w14.heap.size,0,none⟩=some (.string (str q.1)):=ku.cell 0
               have cu1:(w14.alloc (.cells #[.string (str q.1),.string (str q.2)] 116)).cell? ⟨w14.heap.size,1,none⟩=some (.string (str q.2)):=ku.cell 1
               obtain ⟨w15,hw15⟩:=Zaf (w14.alloc (.cells #[.string (str q.1),.string (str q.2)] 116))
               rw[←hw15.out]at k615 hd15 hg15 cu0 cu1
               clear h1 hnext ku hb15 hd13 hg13 k613
               go_upto_region 22 with (first|(at_builtin;fail))
               rw[←hw15.out]
               clear hw15
               go_wp2_with (first
                | (at_builtin;fail)
                | refine wpList_store_row rfl 26 _ _ rfl _ (Zav 4 0 (str q.2) (str q.1) (.slice none 0 0) (.slice none 0 0)).toArray rfl rfl 26 Zag.toArray k615 (kE6 rfl) rfl (Zas Zcd) ?_)
               refine bodyPost_ret (Zfz rfl _ rfl (k615.vrow (Zav 4 0 (str q.2) (str q.1) (.slice none 0 0) (.slice none 0 0))) rfl) rfl ?_
               rw[HQ.out]
               exact ⟨Zaq hg15 HB2.out _,hd15.row hpp6 _,_,rfl,_,rfl,Zkr (by decide) (⟨by omega,by omega⟩) (Zls hz2) (str_mx2 hz1),Zjd _⟩
theorem Zfd (F:FuncId) (nt:NT):Zla F nt 0:=by
 intro f hf p w0 w ts y _ _ _ h
 obtain rfl:f=0:=by omega
 cases h
theorem Ztu.mono {F:FuncId} {rec:Bool} {n m:Nat} (h:Ztu F rec n) (hm:m≤n):Ztu F rec m:=fun f hf=>h f (Nat.le_trans hf hm)
theorem Zrc:∀ n,Zla 55 .expr n∧Zla 99 (.lv 1) n∧Zla 129 (.lv 2) n∧Zla 150 (.lv 3) n∧Zla 169 (.lv 4) n ∧
 Zla 191 (.lv 5) n∧Zla 200 (.lv 6) n∧Zla 202 (.lv 7) n∧Ztu 204 false n∧Ztu 205 true n
 | 0=>⟨Zfd _ _,Zfd _ _,Zfd _ _,Zfd _ _,Zfd _ _,Zfd _ _,Zfd _ _,Zfd _ _,(rset_w 0 (Zfd _ _)).mono (Nat.zero_le _),(Zuo 0 (Zfd _ _)).mono (Nat.zero_le _)⟩
 | n+1=>by
   obtain ⟨h1,h2,h3,h4,h5,h6,h7,h8,h9,h10⟩:=Zrc n
   exact ⟨rexpr_w n h2 h1,rand_w n h3,Zxk n h4,rsum_w n h5,rproduct_w n h6,runary_w n h6 h7,rmember_w n h8 h1,rprimary_w n h1 h9 h10,rset_w n h1,Zuo n h1⟩
theorem rread_w (p:Nat) (w0 w:World) (ts:List Tok) (hr:Zbg w p ts) (hok:Zhb ts) (hE:Env w0 p w):Calls Tryz.prog 55 #[.pointer (some ⟨p,0,none⟩)] w fun e w'=>Zhk p w (prL ts) (ExV w.heap.size) e w':=
 (Zrc _).1 _ (Nat.le_refl _) p w0 w ts (prL ts) hr hok hE (Zpm ts)
end Go.Proofs.YtnhooehmcggmdaaGreatDoor
