/- Parts of a proof about the given program: XTokW4, XTokW5. -/
import Derived.Lib.AtoiErrMem
import Derived.Deep.DeepCutAuto
import Derived.Laws.Rows
import Derived.Laws.ResultCell
import Derived.Test.YtnhooehmcggmdaaGreatDoorZ14
import Derived.Test.YtnhooehmcggmdaaGreatDoorZ13
import Derived.BigQuiet
import Derived.Test.YtnhooehmcggmdaaGreatDoorZ04
namespace Go.Proofs.YtnhooehmcggmdaaGreatDoor
set_option maxHeartbeats 16000000
set_option linter.unusedVariables false
set_option linter.unusedSimpArgs false
set_option linter.unusedSectionVars false
open Go.RowKit
def Zae (t:Tok):List Value:=[.int .u8 (t.k:Int),.string (str t.t),.int .i64 t.n,.int .i64 (t.at_:Int)]
def tokV (t:Tok):Value:=.agg (Zae t).toArray
def Zan:Tok:=⟨0,[],0,0⟩
def resV:Except Int (Tok × Nat)→Value
 | .ok (t,n)=>.tuple #[tokV t,.int .i64 (n:Int),.int .i64 0]
 | .error e=>.tuple #[tokV Zan,.int .i64 0,.int .i64 e]
structure Tb8 (w:World):Prop where
 tb:Tb w
 esyn:∃ te pe,w.cell? ⟨6,0,none⟩=some (.iface te pe)
 erng:∃ te pe,w.cell? ⟨7,0,none⟩=some (.iface te pe)
 pow:Lib.TabIs Tryz.prog w "internal/strconv.uint64pow10" .u64 Lib.pow10Tab
theorem gPow:Tryz.prog.globalNamed "internal/strconv.uint64pow10"=some 3:=by kernel_rfl
theorem Tb8.below {w w':World} (h:Tb8 w) (hb:Below w.heap.size w w'):Tb8 w':=by
 refine ⟨h.tb.below hb,?_,?_,?_⟩
 · obtain ⟨a,b,h1⟩:=h.esyn
   exact ⟨a,b,Zcg h1 hb⟩
 · obtain ⟨a,b,h1⟩:=h.erng
   exact ⟨a,b,Zcg h1 hb⟩
 · have:=h.pow
   unfold Lib.TabIs World.var? at this ⊢
   rw[gPow]at this ⊢
   simp only[Option.bind_some]at this ⊢
   have hlt:3 < w.heap.size:=by
    rcases Nat.lt_or_ge 3 w.heap.size with h'|h'
    · exact h'
    · rw[Array.getElem?_eq_none h']at this;simp at this
   rw[hb.block _ hlt]
   exact this
theorem kT:(Tryz.prog.info? 46).map (·.size)=some 4:=by kernel_rfl
theorem kT4 {r:List Value} (h:r.length=4):(Tryz.prog.info? 46).map (·.size)=some r.toArray.size:=by rw[kT];simp[h]
theorem tload {w:World} {g:Nat} {r:List Value} (k:Blk w g r 46) (h:r.length=4):(loadVar 46 ⟨g,0,none⟩).run Tryz.prog w=.ok (.agg r.toArray) w:=
 run_loadVar_row w g 46 46 r.toArray (0,0) _ k Tryz.underlying46 rfl (kT4 h)
theorem Zhz {fn:Func} {p u v:Tmp} (hr:fn.results=#[.cell p 46,.tmp u,.tmp v]) (tmps:Array Value) {w:World} {g:Nat} {r:List Value} {x y:Value} (hp:tmps.getD p undef=.pointer (some ⟨g,0,none⟩)) (k:Blk w g r 46) (h:r.length=4) (hx:tmps.getD u undef=x) (hy:tmps.getD v undef=y) :
 (results fn tmps).run Tryz.prog w=.ok (.tuple #[.agg r.toArray,x,y]) w:=by
 simp only[results,hr]
 have h1:(asAddr (.pointer (some ⟨g,0,none⟩))).run Tryz.prog w=.ok ⟨g,0,none⟩ w:=rfl
 have hp':tmps[p]?.getD undef=.pointer (some ⟨g,0,none⟩):=by simpa using hp
 have hx':tmps[u]?.getD undef=x:=by simpa using hx
 have hy':tmps[v]?.getD undef=y:=by simpa using hy
 simp[hp',hx',hy',asAddr,tload k h]
set_option maxRecDepth 100000 in
theorem word_w (s:ByteArray) (w:World) (hs:s.size≤140737488351232) :
 Calls Tryz.prog 65 #[.string s] w fun e w'=>e=.returned (resV (.ok (⟨1,s.data.toList.take (Zba 6 s.data.toList),0,0⟩,Zba 6 s.data.toList)))∧Below w.heap.size w w':=by
 have hsp:=fun W=>Zze s 6 (by omega) W (by omega)
 have hle:=Zgg 6 s.data.toList
 rw[←Lib.size_eq]at hle
 have hx:=Zdy s 0 (Zba 6 s.data.toList)
 rw[List.drop_zero,Nat.sub_zero]at hx
 obtain ⟨n,hn⟩:=Zaf (Zba 6 s.data.toList)
 rw[←hn.out]at hsp hle hx ⊢
 obtain ⟨T,hT⟩:=Zaf (s.data.toList.take n)
 rw[←hT.out]at hx ⊢
 clear hn hT
 have hn1:(n:Int)≤(s.size:Int):=by omega
 have hn0:(0:Int)≤(n:Int):=by omega
 go_enter Tryz.func65,Tryz.ntmps65
 go_wp2_with (first|(at_builtin;fail))
 refine (hsp _).mono ?_
 rintro e1 w1 ⟨rfl,rfl⟩
 clear hsp
 go_wp2_with (first|(at_builtin;fail))
 exact bodyPost_ret (Zhz rfl _ rfl (Blk.new w (Zae ⟨1,T,0,0⟩) _) rfl rfl rfl) rfl ⟨rfl,Zac _ _⟩
theorem Zay (t:Tok):(Zae t).toArray.all (fun x=>x.oneCell')=true:=Zas fun v hv=>by
 simp only[Zae,List.mem_cons,List.not_mem_nil,or_false]at hv
 rcases hv with rfl|rfl|rfl|rfl <;> rfl
theorem Zyk {w w':World} {T:TypeId} (h:w'=w∨∃ t,w'=Lib.bytesWorld w T t):Below w.heap.size w w':=by
 rcases h with rfl|⟨t,rfl⟩
 · exact Below.refl _ _
 · exact Lib.bytesWorld_below w T t
def longL (b:UInt8) (l:List UInt8):Except Int (Tok × Nat):=
 match Lib.parseIntB 64 (l.take (Zba 4 l)) with
 | .ok x=>if (Zba 4 l > 1∧b.toNat=48)∨Zba 2 (l.drop (Zba 4 l)) > 0 then .error 5 else .ok (⟨2,[],x,0⟩,Zba 4 l)
 | _=>.error 5
set_option maxRecDepth 100000 in
theorem long_w (s:ByteArray) (w:World) (hs:s.size≤140737488351232) (h0:0 < s.size) (ht:Tb8 w) :
 Calls Tryz.prog 66 #[.string s] w fun e w'=>e=.returned (resV (longL s[0] s.data.toList))∧Below w.heap.size w w':=by
 have hsp:=fun W=>Zze s 4 (by omega) W (by omega)
 have hle:=Zgg 4 s.data.toList
 rw[←Lib.size_eq]at hle
 have hx:=Zdy s 0 (Zba 4 s.data.toList)
 rw[List.drop_zero,Nat.sub_zero]at hx
 obtain ⟨R,HR⟩:=Zaf (longL s[0] s.data.toList)
 rw[←HR.out]
 have hR:=HR.out
 clear HR
 unfold longL at hR
 obtain ⟨n,hn⟩:=Zaf (Zba 4 s.data.toList)
 rw[←hn.out]at hsp hle hx hR
 obtain ⟨T,hT⟩:=Zaf (s.data.toList.take n)
 rw[←hT.out]at hx hR
 obtain ⟨U,hU⟩:=Zaf (s.extract n s.size)
 have hUl:U.data.toList=s.data.toList.drop n:=by
  rw[hU.out,Zdy,Zax,List.take_of_length_le (by rw[List.length_drop,←Lib.size_eq];omega)]
 have hUe:s.extract n s.size=U:=hU.out.symm
 have hUs:U.size≤s.size:=by rw[hU.out];simp
 have hTs:(str T).size≤s.size:=by rw[Zbo,hT.out,List.length_take,←Lib.size_eq];omega
 have hsp2:=fun W=>Zze U 2 (by omega) W (by omega)
 rw[hUl]at hsp2
 obtain ⟨k,hk⟩:=Zaf (Zba 2 (s.data.toList.drop n))
 rw[←hk.out]at hsp2 hR
 have HR:=Zai hR
 clear hn hT hUl hU hk hR
 have hn1:(n:Int)≤(s.size:Int):=by omega
 have hn0:(0:Int)≤(n:Int):=by omega
 have h01:(0:Int) < (s.size:Int):=by omega
 obtain ⟨te,pe,hes⟩:=ht.esyn
 obtain ⟨tr,pr_,her⟩:=ht.erng
 have hbel:=Zac w (.cells (Zae Zan).toArray 46)
 have htok:=Blk.new w (Zae Zan) 46
 cases hp:Lib.parseIntB 64 T with
 | ok x=>
   rw[hp]at HR
   have hpi:=Tryz.strconv_ParseInt_10_at64_ok (str T) (by omega) x (by rw[Zax];exact hp)
   go_enter Tryz.func66,Tryz.ntmps66
   go_wp2_with (first|(at_builtin;fail))
   refine (hsp _).mono ?_
   rintro e1 w1 ⟨rfl,rfl⟩
   go_wp2_with (first|(at_builtin;fail))
   refine (hpi _).mono ?_
   rintro e1 w1 ⟨rfl,hw⟩
   have hb1:Below (w.alloc (.cells (Zae Zan).toArray 46)).heap.size (w.alloc (.cells (Zae Zan).toArray 46)) w1:=Zyk hw
   have hb2:Below w.heap.size w w1:=hbel.trans (hb1.mono hbel.size)
   have k1:Blk w1 w.heap.size (Zae Zan) 46:=htok.below hb1
   clear hpi hb1 hw hsp
   by_cases c1:1 < n∧s[0].toNat=48
   · have c2:(1:Int) < (n:Int):=by omega
     have c3:((s[0].toNat:Int) == 48)=true:=by rw[c1.2];rfl
     have hq:R=.error 5:=by rw[HR.out];exact if_pos (.inl c1)
     have HQ:=Zai hq
     clear hq HR c1 hn1
     go_wp2_with (first
      | (at_builtin;fail)
      | refine wpList_store_row rfl 46 _ _ rfl _ (Zae Zan).toArray rfl rfl 46 (Zae Zan).toArray k1 (kT4 rfl) rfl (Zay _) ?_)
     exact bodyPost_ret (Zhz rfl _ rfl (k1.vrow (Zae Zan)) rfl rfl rfl) rfl ⟨by rw[HQ.out];rfl,Zah hb2 (Nat.le_refl _) _⟩
   · have fin:∀ K:Prop,(1 < n→((s[0].toNat:Int) == 48)=false)→((¬ (1:Int) < (n:Int)→K)→((1:Int) < (n:Int)→((s[0].toNat:Int) == 48)=false→K)→K):=fun K h a b=>by
      by_cases h1:1 < n
      · exact b (by omega) (h h1)
      · exact a (by omega)
     refine fin _ (fun h=>?_) ?_ ?_
     · rw[beq_eq_false_iff_ne]
       intro e
       exact c1 ⟨h,by omega⟩
     all_goals
      intros
      by_cases hk:0 < k
      · have hk1:(0:Int) < (k:Int):=by omega
        have HQ:Hid (R=.error 5):=by rw[HR.out];exact if_pos (.inr hk)
        clear HR hk
        go_wp2_with (first|(at_builtin;fail))
        refine (hsp2 _).mono ?_
        rintro e2 w2 ⟨rfl,rfl⟩
        go_wp2_with (first
         | (at_builtin;fail)
         | refine wpList_store_row rfl 46 _ _ rfl _ (Zae Zan).toArray rfl rfl 46 (Zae Zan).toArray k1 (kT4 rfl) rfl (Zay _) ?_)
        exact bodyPost_ret (Zhz rfl _ rfl (k1.vrow (Zae Zan)) rfl rfl rfl) rfl ⟨by rw[HQ.out];rfl,Zah hb2 (Nat.le_refl _) _⟩
      · have hk1:¬ (0:Int) < (k:Int):=by omega
        have HQ:Hid (R=.ok (⟨2,[],x,0⟩,n)):=by rw[HR.out];exact if_neg (by rintro (h|h);exact c1 h;exact hk h)
        clear HR hk
        go_wp2_with (first|(at_builtin;fail))
        refine (hsp2 _).mono ?_
        rintro e2 w2 ⟨rfl,rfl⟩
        go_wp2_with (first
         | (at_builtin;fail)
         | refine wpList_store_row rfl 46 _ _ rfl _ (Zae ⟨2,[],x,0⟩).toArray rfl rfl 46 (Zae Zan).toArray k1 (kT4 rfl) rfl (Zay _) ?_)
        exact bodyPost_ret (Zhz rfl _ rfl (k1.vrow (Zae ⟨2,[],x,0⟩)) rfl rfl rfl) rfl ⟨by rw[HQ.out];rfl,Zah hb2 (Nat.le_refl _) _⟩
 | range=>
   rw[hp]at HR
   have hpi:=Tryz.strconv_ParseInt_10_at64_range (str T) (by omega) (by rw[Zax];exact hp) (.iface tr pr_) _ (Zcg her hbel) (.inr ⟨_,_,rfl⟩)
   rw[Zax]at hpi
   obtain ⟨sat,hsat⟩:=Zaf (Lib.intSat 64 T)
   rw[←hsat.out]at hpi
   clear hsat
   go_enter Tryz.func66,Tryz.ntmps66
   go_wp2_with (first|(at_builtin;fail))
   refine (hsp _).mono ?_
   rintro e1 w1 ⟨rfl,rfl⟩
   go_wp2_with (first|(at_builtin;fail))
   refine hpi.mono ?_
   rintro e1 w1 ⟨N,rfl,hN,hNc,hb1⟩
   have hb2:Below w.heap.size w w1:=hbel.trans (hb1.mono hbel.size)
   have k1:Blk w1 w.heap.size (Zae Zan) 46:=htok.below hb1
   clear hpi hN hNc hb1
   go_wp2_with (first
    | (at_builtin;fail)
    | refine wpList_store_row rfl 46 _ _ rfl _ (Zae Zan).toArray rfl rfl 46 (Zae Zan).toArray k1 (kT4 rfl) rfl (Zay _) ?_)
   exact bodyPost_ret (Zhz rfl _ rfl (k1.vrow (Zae Zan)) rfl rfl rfl) rfl ⟨by rw[HR.out];rfl,Zah hb2 (Nat.le_refl _) _⟩
 | _=>
   rw[hp]at HR
   have hpi:=Tryz.strconv_ParseInt_10_at64_syntax (str T) (by omega) (by rw[Zax];exact hp) (.iface te pe) _ (Zcg hes hbel) (.inr ⟨_,_,rfl⟩)
   go_enter Tryz.func66,Tryz.ntmps66
   go_wp2_with (first|(at_builtin;fail))
   refine (hsp _).mono ?_
   rintro e1 w1 ⟨rfl,rfl⟩
   go_wp2_with (first|(at_builtin;fail))
   refine hpi.mono ?_
   rintro e1 w1 ⟨N,rfl,hN,hNc,hb1⟩
   have hb2:Below w.heap.size w w1:=hbel.trans (hb1.mono hbel.size)
   have k1:Blk w1 w.heap.size (Zae Zan) 46:=htok.below hb1
   clear hpi hN hNc hb1
   go_wp2_with (first
    | (at_builtin;fail)
    | refine wpList_store_row rfl 46 _ _ rfl _ (Zae Zan).toArray rfl rfl 46 (Zae Zan).toArray k1 (kT4 rfl) rfl (Zay _) ?_)
   exact bodyPost_ret (Zhz rfl _ rfl (k1.vrow (Zae Zan)) rfl rfl rfl) rfl ⟨by rw[HR.out];rfl,Zah hb2 (Nat.le_refl _) _⟩
def Zxi:List UInt8:=[32,61,61,32,33,61,32,60,61,32,62,61,32,38,38,32,124,124,32,58,58,32]
theorem Zwb (sub:List UInt8):Lib.contains [] sub=sub.isEmpty:=by
 unfold Lib.contains Lib.index
 cases sub <;> rfl
theorem Ztk (b:UInt8) (l sub:List UInt8):Lib.contains (b :: l) sub=(sub.isPrefixOf (b :: l) || Lib.contains l sub):=by
 unfold Lib.contains
 rw[Lib.index]
 have:=Lib.index_ge l sub
 cases sub.isPrefixOf (b :: l) with
 | true=>rfl
 | false=>
   simp only[Bool.false_eq_true,if_false,Bool.false_or]
   by_cases h:Lib.index l sub=-1
   · rw[h];rfl
   · have h2:(Lib.index l sub == -1)=false:=beq_eq_false_iff_ne.2 h
     rw[h2]
     simp only[Bool.false_eq_true,if_false]
     rw[decide_eq_decide]
     omega
theorem two_has (a b:UInt8):Lib.contains Zxi [32,a,b,32]=Zcc.contains [a,b]:=by
 cases hq:Zcc.contains [a,b] with
 | true=>
   have hm:[a,b] ∈ Zcc:=by simpa using hq
   simp only[Zcc,List.mem_cons,List.not_mem_nil,or_false,List.cons.injEq,and_true]at hm
   rcases hm with ⟨rfl,rfl⟩|⟨rfl,rfl⟩|⟨rfl,rfl⟩|⟨rfl,rfl⟩|⟨rfl,rfl⟩|⟨rfl,rfl⟩|⟨rfl,rfl⟩ <;> decide +kernel
 | false=>
   cases h:Lib.contains Zxi [32,a,b,32] with
   | false=>rfl
   | true=>
     exfalso
     simp only[Zxi,Ztk,Zwb,List.isPrefixOf,Bool.or_eq_true,Bool.and_eq_true,beq_iff_eq,show ¬ (32:UInt8)=61 by decide,show ¬ (32:UInt8)=33 by decide,show ¬ (32:UInt8)=60 by decide,show ¬ (32:UInt8)=62 by decide,show ¬ (32:UInt8)=38 by decide,show ¬ (32:UInt8)=124 by decide,show ¬ (32:UInt8)=58 by decide,false_and,and_false,false_or,or_false,true_and,and_true,List.isEmpty,Bool.false_eq_true]at h
     have no:∀ x y:UInt8,Zcc.contains [x,y]=true→¬ (a=x∧b=y):=by
      rintro x y h1 ⟨rfl,rfl⟩
      rw[hq]at h1
      cases h1
     rcases h with h|h|h|h|h|h|h
     · exact no 61 61 (by decide) h
     · exact no 33 61 (by decide) h
     · exact no 60 61 (by decide) h
     · exact no 62 61 (by decide) h
     · exact no 38 38 (by decide) h
     · exact no 124 124 (by decide) h
     · exact no 58 58 (by decide) h
theorem Zuj (b:UInt8):decide (Lib.indexByte Zew b < 0)=!Zew.contains b:=by
 have h1:=Lib.indexByte_ge Zew b
 cases hq:Zew.contains b with
 | true=>
   have hm:b ∈ Zew:=by simpa using hq
   rw[Bool.not_true]
   refine decide_eq_false fun h=>?_
   have h2:Lib.indexByte Zew b=-1:=by omega
   obtain ⟨k,hk,e⟩:=List.mem_iff_getElem.1 hm
   exact Lib.indexByte_none h2 k (by rw[List.getElem?_eq_getElem hk,e])
 | false=>
   rw[Bool.not_false]
   refine decide_eq_true ?_
   rcases Int.lt_or_le (Lib.indexByte Zew b) 0 with h|h
   · exact h
   · obtain ⟨k,hk⟩:∃ k:Nat,Lib.indexByte Zew b=k:=⟨(Lib.indexByte Zew b).toNat,by omega⟩
     have:=(Lib.indexByte_some hk).1
     have hm:=List.mem_of_getElem? this
     have h3:Zew.contains b=true:=by simpa using hm
     rw[hq]at h3
     cases h3
def signL (l:List UInt8):Except Int (Tok × Nat):=if Zcc.contains (l.take 2) then .ok (⟨4,l.take 2,0,0⟩,2) else if Zew.contains (l.headD 0) then .ok (⟨4,[l.headD 0],0,0⟩,1) else .error 5
set_option maxRecDepth 100000 in
theorem sign_w (s:ByteArray) (w:World) (hs:s.size≤140737488351232) (h0:0 < s.size) (ht:Tb8 w) :
 Calls Tryz.prog 69 #[.string s] w fun e w'=>e=.returned (resV (signL s.data.toList))∧Below w.heap.size w w':=by
 obtain ⟨R,HR⟩:=Zaf (signL s.data.toList)
 rw[←HR.out]
 have hR:=HR.out
 clear HR
 unfold signL at hR
 have hbel:=Zac w (.cells (Zae Zan).toArray 46)
 have htok:=Blk.new w (Zae Zan) 46
 obtain ⟨m,hm⟩:=ht.tb.max
 have hm2:=Zcg hm hbel
 have h01:(0:Int) < (s.size:Int):=by omega
 have hix:=Tryz.strings_IndexByte ⟨#[60,62,43,45,42,33,40,41,91,93,123,125,44,59,58,46]⟩ ((s[0].toNat:Nat):Int)
 have hc1:((s[0].toNat:Nat):Int).toNat.toUInt8=s[0]:=by simp
 rw[hc1]at hix
 have hsi:=Zuj s[0]
 have hhd:s.data.toList.headD 0=s[0]:=by
  have:=Zja s 0 h0
  rw[List.drop_zero]at this
  rw[this]
  rfl
 rw[hhd]at hR
 have hix2:∀ W,Calls Tryz.prog 61 #[.string ⟨#[60,62,43,45,42,33,40,41,91,93,123,125,44,59,58,46]⟩,.int .u8 (s[0].toNat:Int)] W fun e w'=>e=.returned (.int .i64 (Lib.indexByte Zew s[0]))∧w'=W:=hix
 clear hix
 obtain ⟨ix,hixn⟩:=Zaf (Lib.indexByte Zew s[0])
 rw[←hixn.out]at hix2 hsi
 obtain ⟨B1,hB1⟩:=Zaf (Zew.contains s[0])
 rw[←hB1.out]at hsi hR
 obtain ⟨b0,hb0⟩:=Zaf s[0]
 obtain ⟨W0,hW0⟩:=Zaf (w.alloc (.cells (Zae Zan).toArray 46))
 have one:∀ (S2:Bool),Zcc.contains (s.data.toList.take 2)=false→Hid (R=if B1 then .ok (⟨4,[s[0]],0,0⟩,1) else .error 5):=fun _ h=>by
  refine Zai ?_
  rw[hR,if_neg (by rw[h];decide)]
 have hx1:s.extract 0 1=str [s[0]]:=by
  rw[Zdy,List.drop_zero]
  have:=Zja s 0 h0
  rw[List.drop_zero]at this
  rw[this]
  rfl
 by_cases hlen:1 < s.size
 · obtain ⟨a,b,l,hl⟩:∃ a b l,s.data.toList=a :: b :: l:=by
    match hq:s.data.toList with
    | []=>rw[Lib.size_eq,hq]at h0;simp at h0
    | [a]=>rw[Lib.size_eq,hq]at hlen;simp at hlen
    | a :: b :: l=>exact ⟨a,b,l,rfl⟩
   have hx2:s.extract 0 2=str [a,b]:=by rw[Zdy,hl];rfl
   have hl1:(1:Int) < (s.size:Int):=by omega
   have hl2:(2:Int)≤(s.size:Int):=by omega
   have hcon:=Tryz.strings_Contains ⟨#[32,61,61,32,33,61,32,60,61,32,62,61,32,38,38,32,124,124,32,58,58,32]⟩ (str [32,a,b,32]) m (w.alloc (.cells (Zae Zan).toArray 46)) (by decide) hm2
   have hcon2:Calls Tryz.prog 107 #[.string ⟨#[32,61,61,32,33,61,32,60,61,32,62,61,32,38,38,32,124,124,32,58,58,32]⟩,.string (str [32,a,b,32])] (w.alloc (.cells (Zae Zan).toArray 46)) fun e w'=>e=.returned (.bool (Zcc.contains (s.data.toList.take 2)))∧w'=w.alloc (.cells (Zae Zan).toArray 46):=by
    rw[hl]
    show Calls _ _ _ _ fun e w'=>e=.returned (.bool (Zcc.contains [a,b]))∧_
    rw[←two_has a b]
    rw[Zax]at hcon
    exact hcon
   clear hcon
   have ha1:∀ w',(Op.stringOp .add ⟨#[32]⟩ (str [a,b])).run Tryz.prog w'=.ok (.string (str [32,a,b])) w':=fun w'=>by
    have:=run_string_add_sum (P:=Tryz.prog) w' ⟨#[32]⟩ (str [a,b]) (by rw[Zbo];show 1+2≤9223372036854775807;decide)
    exact this
   have ha2:∀ w',(Op.stringOp .add (str [32,a,b]) ⟨#[32]⟩).run Tryz.prog w'=.ok (.string (str [32,a,b,32])) w':=fun w'=>by
    have:=run_string_add_sum (P:=Tryz.prog) w' (str [32,a,b]) ⟨#[32]⟩ (by rw[Zbo];show 3+1≤9223372036854775807;decide)
    exact this
   cases hS:Zcc.contains (s.data.toList.take 2) with
   | true=>
     rw[hS]at hcon2
     have hq:Hid (R=.ok (⟨4,[a,b],0,0⟩,2)):=by
      refine Zai ?_
      rw[hR,if_pos hS,hl]
      rfl
     clear hR one hS
     go_enter Tryz.func69,Tryz.ntmps69
     go_wp2_with (first
      | (at_builtin;fail)
      | refine wpList_store_row rfl 46 _ _ rfl _ (Zae ⟨4,[a,b],0,0⟩).toArray rfl rfl 46 (Zae Zan).toArray htok (kT4 rfl) rfl (Zay _) ?_)
     refine hcon2.mono ?_
     rintro e1 w1 ⟨rfl,rfl⟩
     go_wp2_with (first
      | (at_builtin;fail)
      | refine wpList_store_row rfl 46 _ _ rfl _ (Zae ⟨4,[a,b],0,0⟩).toArray rfl rfl 46 (Zae Zan).toArray htok (kT4 rfl) rfl (Zay _) ?_)
     exact bodyPost_ret (Zhz rfl _ rfl (htok.vrow (Zae ⟨4,[a,b],0,0⟩)) rfl rfl rfl) rfl ⟨by rw[hq.out];rfl,Zah hbel (Nat.le_refl _) _⟩
   | false=>
     rw[hS]at hcon2
     have hq:=one true hS
     clear hR one hS
     go_enter Tryz.func69,Tryz.ntmps69
     go_wp2_with (first|(at_builtin;fail))
     refine hcon2.mono ?_
     rintro e1 w1 ⟨rfl,rfl⟩
     clear hcon2
     go_wp2_with (first|(at_builtin;fail))
     refine (hix2 _).mono ?_
     rintro e2 w2 ⟨rfl,rfl⟩
     cases B1 with
     | true=>
       have hi:¬ ix < 0:=of_decide_eq_false hsi
       have hq2:Hid (R=.ok (⟨4,[s[0]],0,0⟩,1)):=Zai hq.out
       clear hq hix2
       go_wp2_with (first
        | (at_builtin;fail)
        | refine wpList_store_row rfl 46 _ _ rfl _ (Zae ⟨4,[s[0]],0,0⟩).toArray rfl rfl 46 (Zae Zan).toArray htok (kT4 rfl) rfl (Zay _) ?_)
       exact bodyPost_ret (Zhz rfl _ rfl (htok.vrow (Zae ⟨4,[s[0]],0,0⟩)) rfl rfl rfl) rfl ⟨by rw[hq2.out];rfl,Zah hbel (Nat.le_refl _) _⟩
     | false=>
       have hi:ix < 0:=of_decide_eq_true hsi
       have hq2:Hid (R=.error 5):=Zai hq.out
       clear hq hix2
       go_wp2_with (first
        | (at_builtin;fail)
        | refine wpList_store_row rfl 46 _ _ rfl _ (Zae Zan).toArray rfl rfl 46 (Zae Zan).toArray htok (kT4 rfl) rfl (Zay _) ?_)
       exact bodyPost_ret (Zhz rfl _ rfl (htok.vrow (Zae Zan)) rfl rfl rfl) rfl ⟨by rw[hq2.out];rfl,Zah hbel (Nat.le_refl _) _⟩
 · have hl1:¬ (1:Int) < (s.size:Int):=by omega
   have hS:Zcc.contains (s.data.toList.take 2)=false:=by
    have hd:=Zja s 0 h0
    rw[List.drop_zero]at hd
    have:s.data.toList.drop 1=[]:=List.eq_nil_of_length_eq_zero (by rw[List.length_drop,←Lib.size_eq];omega)
    rw[hd,Nat.zero_add,this]
    simp[Zcc]
   have hq:=one true hS
   clear hR one hS
   go_enter Tryz.func69,Tryz.ntmps69
   go_wp2_with (first|(at_builtin;fail))
   refine (hix2 _).mono ?_
   rintro e2 w2 ⟨rfl,rfl⟩
   cases B1 with
   | true=>
     have hi:¬ ix < 0:=of_decide_eq_false hsi
     have hq2:Hid (R=.ok (⟨4,[s[0]],0,0⟩,1)):=Zai hq.out
     clear hq hix2
     go_wp2_with (first
      | (at_builtin;fail)
      | refine wpList_store_row rfl 46 _ _ rfl _ (Zae ⟨4,[s[0]],0,0⟩).toArray rfl rfl 46 (Zae Zan).toArray htok (kT4 rfl) rfl (Zay _) ?_)
     exact bodyPost_ret (Zhz rfl _ rfl (htok.vrow (Zae ⟨4,[s[0]],0,0⟩)) rfl rfl rfl) rfl ⟨by rw[hq2.out];rfl,Zah hbel (Nat.le_refl _) _⟩
   | false=>
     have hi:ix < 0:=of_decide_eq_true hsi
     have hq2:Hid (R=.error 5):=Zai hq.out
     clear hq hix2
     go_wp2_with (first
      | (at_builtin;fail)
      | refine wpList_store_row rfl 46 _ _ rfl _ (Zae Zan).toArray rfl rfl 46 (Zae Zan).toArray htok (kT4 rfl) rfl (Zay _) ?_)
     exact bodyPost_ret (Zhz rfl _ rfl (htok.vrow (Zae Zan)) rfl rfl rfl) rfl ⟨by rw[hq2.out];rfl,Zah hbel (Nat.le_refl _) _⟩
end Go.Proofs.YtnhooehmcggmdaaGreatDoor
