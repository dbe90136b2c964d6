/- Parts of a proof about the given program: XRefUtf, XUid, XQuo4, XTokW1, XTokW2, XTokW3, XRow0. -/
import Derived.Lib.ValidU
import Derived.Lib.TrimUEq
import Derived.Laws.RangeAny
import Derived.Deep.DeepCutAuto
import Derived.Test.YtnhooehmcggmdaaGreatDoorZ02
import Derived.Test.YtnhooehmcggmdaaGreatDoorZ13
import Derived.Test.YtnhooehmcggmdaaGreatDoorZ05
import Derived.Test.YtnhooehmcggmdaaGreatDoorZ06
import Derived.Test.YtnhooehmcggmdaaGreatDoorZ08
import Derived.Test.YtnhooehmcggmdaaGreatDoorZ12
import Derived.Test.YtnhooehmcggmdaaGreatDoorZ01
import Derived.Test.YtnhooehmcggmdaaGreatDoorZ09
import Derived.Test.YtnhooehmcggmdaaGreatDoorZ03
import Derived.Laws.Rows
import Derived.Laws.Tables
namespace Go.Proofs.YtnhooehmcggmdaaGreatDoor
set_option maxHeartbeats 16000000
set_option linter.unusedVariables false
set_option linter.unusedSimpArgs false
set_option linter.unusedSectionVars false
open Go.RowKit
def uidE (t i:ByteArray):Int:=if Zhe t.data.toList=false then 5 else if Lib.validD i.data.toList=false then 6 else if 64 < i.size then 3 else 0
theorem Zop (s:ByteArray) (w:World) (hs:s.size≤140737488351232) (htab:Tb w) :
 Calls Tryz.prog 85 #[.string s] w fun e w'=>e=.returned (.bool (Lib.validD s.data.toList))∧Below w.heap.size w w':=
 Any.utf8_ValidString Tryz.laysValid s w (by omega) htab.u8
set_option maxRecDepth 100000 in
theorem uid_w (t i:ByteArray) (w:World) (ht:t.size≤140737488351232) (hi:i.size≤140737488351232) (htab:Tb w) :
 Calls Tryz.prog 86 #[.agg #[.string t,.string i]] w fun e w'=>e=.returned (.int .i64 (uidE t i))∧Below w.heap.size w w':=by
 have hbel:=Zac w (.cells #[.string t,.string i] 116)
 have htb:=htab.below hbel
 have hty:=fun (W:World) (h:Tb W)=>type_w t W ht h
 have hva:=fun (W:World) (h:Tb W)=>Zop i W hi h
 have hR:uidE t i=if Zhe t.data.toList=false then 5 else if Lib.validD i.data.toList=false then 6 else if 64 < i.size then 3 else 0:=rfl
 obtain ⟨R,HR⟩:=Zaf (uidE t i)
 rw[←HR.out]at hR ⊢
 obtain ⟨T,HT⟩:=Zaf (Zhe t.data.toList)
 obtain ⟨V,HV⟩:=Zaf (Lib.validD i.data.toList)
 rw[←HT.out,←HV.out]at hR
 simp only[←HT.out]at hty
 simp only[←HV.out]at hva
 have HR2:=Zai hR
 clear HT HV HR hR
 have hblk:=Blk.new w [Value.string t,Value.string i] 116
 have hc0:(w.alloc (.cells #[.string t,.string i] 116)).cell? ⟨w.heap.size,0,none⟩=some (.string t):=hblk.cell 0
 have hc1:(w.alloc (.cells #[.string t,.string i] 116)).cell? ⟨w.heap.size,1,none⟩=some (.string i):=hblk.cell 1
 clear hblk
 obtain ⟨W,HW⟩:=Zaf (w.alloc (.cells #[.string t,.string i] 116))
 go_enter Tryz.func86,Tryz.ntmps86
 go_upto_region 1 with (go_quiet (fail))
 rw[←HW.out]at hbel hc0 hc1 htb ⊢
 clear HW
 go_wp2_with (go_quiet (fail))
 refine (hty _ htb).mono ?_
 rintro e w1 ⟨rfl,hb1⟩
 have hd1:=Zcg hc1 hb1
 have hbw:=hbel.trans (hb1.mono hbel.size)
 have htb2:=htb.below hb1
 clear hty hc0 hc1 htb htab
 cases T with
 | false=>
   go_wp2_with (go_quiet (fail))
   go_ret
   refine ⟨?_,hbw⟩
   have h:=HR2.out
   simp at h
   rw[h]
   rfl
 | true=>
   go_wp2_with (go_quiet (fail))
   refine (hva _ htb2).mono ?_
   rintro e w2 ⟨rfl,hb2⟩
   have he1:=Zcg hd1 hb2
   have hbw2:=hbw.trans (hb2.mono hbw.size)
   clear hva hd1 htb2
   cases V with
   | false=>
     go_wp2_with (go_quiet (fail))
     go_ret
     refine ⟨?_,hbw2⟩
     have h:=HR2.out
     simp at h
     rw[h]
     rfl
   | true=>
     by_cases hl:(64:Int) < (i.size:Int)
     · go_wp2_with (go_quiet (fail))
       go_ret
       refine ⟨?_,hbw2⟩
       have h:=HR2.out
       rw[if_neg (by simp),if_neg (by simp),if_pos (by omega)]at h
       rw[h]
       rfl
     · go_wp2_with (go_quiet (fail))
       go_ret
       refine ⟨?_,hbw2⟩
       have h:=HR2.out
       rw[if_neg (by simp),if_neg (by simp),if_neg (by omega)]at h
       rw[h]
       rfl
theorem Zrn:∀ (ps:List (List UInt8)) (p:List UInt8),ps ≠ []→Zes (ps ++ [p])=Zes ps ++ (92 :: 42 :: p.flatMap Znx)
 | [],p,h=>absurd rfl h
 | [q],p,_=>by simp[Zes]
 | q :: q2 :: ps,p,_=>by
   have h:=Zrn (q2 :: ps) p (by simp)
   rw[List.cons_append]at h
   rw[List.cons_append,List.cons_append,Zes,Zes,h]
   simp
def headQ (ps:List (List UInt8)) (i:Nat):List UInt8:=if i=0 then [] else Zes (ps.take i) ++ [92,42]
theorem Zrp (ps:List (List UInt8)) (i:Nat) (p:List UInt8) (h:ps[i]?=some p):Zes (ps.take (i+1))=headQ ps i ++ p.flatMap Znx:=by
 have hi:i < ps.length:=(List.getElem?_eq_some_iff.1 h).1
 rw[List.take_add_one,h]
 unfold headQ
 cases i with
 | zero=>simp[Zes]
 | succ i=>
   rw[if_neg (by omega)]
   show Zes (ps.take (i+1) ++ [p])=_
   rw[Zrn _ _ (by intro e;have h9:=congrArg List.length e;rw[List.length_take,List.length_nil]at h9;omega)]
   simp
theorem Zvg {n k:Nat} (h:n ≠ k):((n:Int) == (k:Int))=false:=by rw[beq_eq_false_iff_ne];omega
set_option maxRecDepth 100000 in
theorem class_w (b:UInt8) (w:World) :
 Calls Tryz.prog 64 #[.int .u8 (b.toNat:Int)] w fun e w'=>e=.returned (.int .u8 (Zqc b:Int))∧w'=w:=by
 have hd:Zqc b=(if b.toNat=32∨b.toNat=9∨b.toNat=10∨b.toNat=13 then 1 else if (97≤(b ||| 32).toNat∧(b ||| 32).toNat≤122)∨b.toNat=95 then 2 else if 48≤b.toNat∧b.toNat≤57 then 4 else 0):=by
  unfold Zqc Zga Zgz
  rw[←goLet_eq]
  unfold goLet
  simp only[decide_eq_true_eq,Bool.or_eq_true]
 obtain ⟨d,hdd⟩:=Zaf (Zqc b)
 rw[←hdd.out]at hd ⊢
 clear hdd
 have ho:=or_eq b
 obtain ⟨q,hq⟩:=Zaf (bits .or .u8 (b.toNat:Int) 32)
 obtain ⟨c,hc⟩:=Zaf (b ||| 32).toNat
 rw[←hq.out,←hc.out]at ho
 rw[←hc.out]at hd
 have hqb:bits .or .u8 (b.toNat:Int) 32=(c:Int):=by rw[←hq.out];exact ho
 clear hq hc ho q
 obtain ⟨n,hn⟩:=Zaf b.toNat
 rw[←hn.out]at hd hqb ⊢
 have HD:=Zai hd
 clear hd hn
 go_enter Tryz.func64,Tryz.ntmps64
 by_cases h32:n=32
 · subst h32
   go_wp2
   go_ret
   exact ⟨by rw[HD.out];rfl,rfl⟩
 · by_cases h9:n=9
   · subst h9
     go_wp2
     go_ret
     exact ⟨by rw[HD.out];rfl,rfl⟩
   · by_cases h10:n=10
     · subst h10
       go_wp2
       go_ret
       exact ⟨by rw[HD.out];rfl,rfl⟩
     · by_cases h13:n=13
       · subst h13
         go_wp2
         go_ret
         exact ⟨by rw[HD.out];rfl,rfl⟩
       · have e1:((n:Int) == 32)=false:=Zvg h32
         have e2:((n:Int) == 9)=false:=Zvg h9
         have e3:((n:Int) == 10)=false:=Zvg h10
         have e4:((n:Int) == 13)=false:=Zvg h13
         have hd1:d=(if (97≤c∧c≤122)∨n=95 then 2 else if 48≤n∧n≤57 then 4 else 0):=by rw[HD.out,if_neg (by omega)]
         by_cases h95:n=95
         · subst h95
           have hd2:Hid (d=2):=by rw[hd1,if_pos (.inr rfl)];rfl
           clear hd1
           go_wp2
           go_ret
           exact ⟨by rw[hd2.out];rfl,rfl⟩
         · have e5:((n:Int) == 95)=false:=Zvg h95
           by_cases h1:(97:Int)≤(c:Int)
           · have h1b:(97:Int)≤bits .or .u8 (n:Int) 32:=by rw[hqb];exact h1
             by_cases h2:(c:Int)≤122
             · have h2b:bits .or .u8 (n:Int) 32≤122:=by rw[hqb];exact h2
               have hd2:Hid (d=2):=by rw[hd1,if_pos (.inl (by omega))];rfl
               clear hd1
               go_wp2
               go_ret
               exact ⟨by rw[hd2.out];rfl,rfl⟩
             · have h2b:¬ bits .or .u8 (n:Int) 32≤122:=by rw[hqb];exact h2
               have hd2:Hid (d=(if 48≤n∧n≤57 then 4 else 0)):=by rw[hd1,if_neg (by omega)];rfl
               clear hd1
               by_cases h3:(48:Int)≤(n:Int)
               · by_cases h4:(n:Int)≤57
                 · go_wp2
                   go_ret
                   exact ⟨by rw[hd2.out,if_pos (by omega)];rfl,rfl⟩
                 · go_wp2
                   go_ret
                   exact ⟨by rw[hd2.out,if_neg (by omega)];rfl,rfl⟩
               · go_wp2
                 go_ret
                 exact ⟨by rw[hd2.out,if_neg (by omega)];rfl,rfl⟩
           · have h1b:¬ (97:Int)≤bits .or .u8 (n:Int) 32:=by rw[hqb];exact h1
             have hd2:Hid (d=(if 48≤n∧n≤57 then 4 else 0)):=by rw[hd1,if_neg (by omega)];rfl
             clear hd1
             by_cases h3:(48:Int)≤(n:Int)
             · by_cases h4:(n:Int)≤57
               · go_wp2
                 go_ret
                 exact ⟨by rw[hd2.out,if_pos (by omega)];rfl,rfl⟩
               · go_wp2
                 go_ret
                 exact ⟨by rw[hd2.out,if_neg (by omega)];rfl,rfl⟩
             · go_wp2
               go_ret
               exact ⟨by rw[hd2.out,if_neg (by omega)];rfl,rfl⟩
theorem and_fin:∀ c m:Fin 8,bits .and .u8 (c.val:Int) (m.val:Int)=((c.val &&& m.val:Nat):Int):=by decide
theorem cls_lt (b:UInt8):Zqc b < 8:=by
 unfold Zqc
 split
 · decide
 · split
   · decide
   · split <;> decide
theorem and_eq (b:UInt8) (m:Nat) (hm:m < 8):bits .and .u8 (Zqc b:Int) (m:Int)=((Zqc b &&& m:Nat):Int):=and_fin ⟨Zqc b,cls_lt b⟩ ⟨m,hm⟩
theorem span_at {m:Nat} {l:List UInt8} {i:Nat} (h1:∀ j x,j < i→l[j]?=some x→Zey m x=true) (hi:i≤l.length) (h2:∀ x,l[i]?=some x→Zey m x=false):Zba m l=i:=by
 unfold Zba
 induction l generalizing i with
 | nil=>simp at hi;simp[hi]
 | cons b l ih=>
   cases i with
   | zero=>
     have:=h2 b rfl
     rw[List.takeWhile_cons,this]
     rfl
   | succ i=>
     have:=h1 0 b (by omega) rfl
     rw[List.takeWhile_cons,this]
     simp only[if_true,List.length_cons]
     rw[ih (fun j x hj hx=>h1 (j+1) x (by omega) hx) (by simpa using hi) (fun x hx=>h2 x hx)]
set_option maxRecDepth 100000 in
theorem Zze (s:ByteArray) (m:Nat) (hm:m < 8) (w:World) (hs:s.size≤140737488351232) :
 Calls Tryz.prog 59 #[.string s,.int .u8 (m:Int)] w fun e w'=>e=.returned (.int .i64 (Zba m s.data.toList:Int))∧w'=w:=by
 obtain ⟨R,HR⟩:=Zaf (Zba m s.data.toList)
 rw[←HR.out]
 go_enter Tryz.func59,Tryz.ntmps59
 go_wp2_with (first|(at_builtin;fail))
 go_loopw [5] (fun t wr=>∃ i:Nat,i≤s.size∧t=.int .i64 i∧Hid (∀ j x,j < i→s.data.toList[j]?=some x→Zey m x=true)∧wr=w) (fun t _=>s.size - (intOf t).toNat)
 case atStart=>exact ⟨0,by omega,rfl,fun j x h=>by omega,rfl⟩
 case round=>
  obtain ⟨i,hi,rfl,HI,rfl⟩:=hrel
  by_cases hlt:i < s.size
  · have hi0:(0:Int)≤(i:Int):=by omega
    have hi1:(i:Int) < (s.size:Int):=by omega
    have hc:=class_w s[i] wr
    have ha:=and_eq s[i] m hm
    have hin:Zey m s[i]=decide (Zqc s[i] &&& m ≠ 0):=rfl
    obtain ⟨C,hC⟩:=Zaf (Zqc s[i])
    rw[←hC.out]at hc ha hin
    obtain ⟨Q,hQ⟩:=Zaf (C &&& m)
    rw[←hQ.out]at ha hin
    have HIN:=Zai hin
    have hget:s.data.toList[i]?=some s[i]:=by
     rw[Array.getElem?_toList]
     exact Array.getElem?_eq_getElem hlt
    have HG:=Zai hget
    clear hC hQ hin hget
    go_wp2_with (first|(at_builtin;fail))
    refine hc.mono ?_
    rintro e w1 ⟨rfl,rfl⟩
    clear hc
    by_cases hq0:Q=0
    · have hb:((Q:Int) != 0)=false:=by simp[hq0]
      have hb2:((Q:Int) == 0)=true:=by simp[hq0]
      have hR:R=i:=by
       rw[HR.out]
       refine span_at HI.out (by rw[Array.length_toList];exact hi) (fun x hx=>?_)
       rw[HG.out]at hx
       cases hx
       rw[HIN.out]
       simp[hq0]
      have HR2:=Zai hR
      have HQ:=Zai hq0
      clear hR HR hq0
      go_wp2_with (first|(at_builtin;fail))
      go_ret
      exact ⟨by rw[HR2.out];rfl,rfl⟩
    · have hb:((Q:Int) != 0)=true:=by simp[hq0]
      have hb2:((Q:Int) == 0)=false:=by simp[hq0]
      go_wp2_with (first|(at_builtin;fail))
      go_roundw
      case rel=>
       refine ⟨i+1,by omega,by go_num,fun j x hj hx=>?_,trivial⟩
       by_cases hji:j=i
       · subst hji
         rw[HG.out]at hx
         cases hx
         rw[HIN.out]
         simp[hq0]
       · exact HI.out j x (by omega) hx
      case measure=>simp[intOf];omega
  · have hi1:¬ (i:Int) < (s.size:Int):=by omega
    have hR:R=i:=by
     rw[HR.out]
     refine span_at HI.out (by rw[Array.length_toList];exact hi) (fun x hx=>?_)
     have:=(List.getElem?_eq_some_iff.1 hx).1
     rw[Array.length_toList]at this
     exact absurd this (by show ¬ i < s.size;omega)
    have HR2:=Zai hR
    clear hR HR
    go_wp2_with (first|(at_builtin;fail))
    go_ret
    exact ⟨by rw[HR2.out];rfl,rfl⟩
theorem note_cut (l:List UInt8):l.dropWhile (fun b=>b.toNat ≠ 10)=(if Lib.indexByte l 10 < 0 then [] else l.drop (Lib.indexByte l 10).toNat)∧(Lib.indexByte l 10:Int)≤l.length:=by
 induction l with
 | nil=>exact ⟨rfl,by simp[Lib.indexByte]⟩
 | cons b l ih=>
   have hg:=Lib.indexByte_ge l 10
   obtain ⟨i1,i2⟩:=ih
   rw[List.dropWhile_cons,Lib.indexByte]
   by_cases hb:b=10
   · subst hb
     exact ⟨by simp,by simp;omega⟩
   · have h1:(b == (10:UInt8))=false:=beq_false_of_ne hb
     have h2:b.toNat ≠ 10:=fun h=>hb (UInt8.toNat_inj.1 (by rw[h];rfl))
     rw[h1,i1]
     simp only[ne_eq,h2,not_false_eq_true,decide_true,if_true,Bool.false_eq_true,if_false]
     by_cases h3:Lib.indexByte l 10=-1
     · rw[h3];exact ⟨by simp,by simp;omega⟩
     · have h4:(Lib.indexByte l 10 == -1)=false:=beq_false_of_ne h3
       rw[h4]
       simp only[Bool.false_eq_true,if_false]
       rw[if_neg (by omega),if_neg (by omega)]
       refine ⟨?_,by simp;omega⟩
       rw[show (Lib.indexByte l 10+1).toNat=(Lib.indexByte l 10).toNat+1 by omega]
       rfl
set_option maxRecDepth 100000 in
theorem skip_w (s:ByteArray) (w:World) (hs:s.size≤140737488351232) :
 Calls Tryz.prog 31 #[.string s] w fun e w'=>e=.returned (.string (str (Zco s.data.toList)))∧w'=w:=by
 obtain ⟨R,HR⟩:=Zaf (Zco s.data.toList)
 rw[←HR.out]
 go_enter Tryz.func31,Tryz.ntmps31
 go_wp2_with (first|(at_builtin;fail))
 go_loopw [0] (fun t wr=>∃ q:ByteArray,q.size≤s.size∧t=.string q∧Hid (R=Zco q.data.toList)∧wr=w) (fun t _=>match t with|.string q=>q.size|_=>0)
 case atStart=>exact ⟨s,by omega,rfl,HR,rfl⟩
 case round=>
  obtain ⟨q,hq,rfl,HQ,rfl⟩:=hrel
  clear HR
  have hsp:=Zze q 1 (by omega) wr (by omega)
  obtain ⟨n,hn⟩:=Zaf (Zba 1 q.data.toList)
  have hnl:=Zgg 1 q.data.toList
  rw[←Lib.size_eq]at hnl
  rw[←hn.out]at hsp hnl
  obtain ⟨T,hT⟩:=Zaf (q.extract n q.size)
  have hTl:T.data.toList=q.data.toList.drop n:=by
   rw[hT.out,Zdy,Zax,List.take_of_length_le (by rw[List.length_drop,←Lib.size_eq];omega)]
  have hTe:q.extract n q.size=T:=hT.out.symm
  have hTs:T.size≤q.size:=by rw[hT.out];simp
  have hpre:=Tryz.strings_HasPrefix T ⟨#[47,47]⟩ wr
  have hix:=Tryz.strings_IndexByte T 10 wr
  obtain ⟨hc1,hc2⟩:=note_cut T.data.toList
  have hge:=Lib.indexByte_ge T.data.toList 10
  rw[←Lib.size_eq]at hc2
  rw[show (10:Int).toNat.toUInt8=10 by rfl]at hix
  obtain ⟨e,he⟩:=Zaf (Lib.indexByte T.data.toList 10)
  rw[←he.out]at hc1 hc2 hge hix
  have hs1:Zec q.data.toList=if Lib.hasPrefix T.data.toList [47,47] then (if e < 0 then [] else T.data.toList.drop e.toNat) else T.data.toList:=by
   rw[←hc1,hTl,hn.out];rfl
  have hst:∀ U:ByteArray,U.data.toList=Zec q.data.toList→(U=q→R=q.data.toList)∧(U ≠ q→R=Zco U.data.toList∧U.size < q.size):=by
   intro U hU
   have hle:=Zjh q.data.toList
   rw[←hU,←Lib.size_eq,←Lib.size_eq]at hle
   constructor
   · intro h
     rw[HQ.out]
     exact Zjx (by rw[←hU,h])
   · intro h
     have hne:(Zec q.data.toList).length ≠ q.data.toList.length:=by
      intro h2
      have:=Zlv h2
      rw[←hU]at this
      exact h (by rw[←Zdh U,←Zdh q,this])
     refine ⟨by rw[HQ.out,Zdq hne,hU],?_⟩
     rw[←hU,←Lib.size_eq,←Lib.size_eq]at hne
     omega
  have hpre2:Calls Tryz.prog 60 #[.string T,.string ⟨#[47,47]⟩] wr fun e w'=>e=.returned (.bool (Lib.hasPrefix T.data.toList [47,47]))∧w'=wr:=hpre
  obtain ⟨B,hB⟩:=Zaf (Lib.hasPrefix T.data.toList [47,47])
  rw[←hB.out]at hs1 hpre2
  have HS1:=Zai hs1
  have HST:=Zai hst
  have HTL:=Zai hTl
  have HC1:=Zai hc1
  clear hn he hB hpre hs1 hst hTl hc1 HQ
  have hn1:(n:Int)≤(q.size:Int):=by omega
  have hn0:(0:Int)≤(n:Int):=by omega
  go_wp2_with (first|(at_builtin;fail))
  refine hsp.mono ?_
  rintro e1 w1 ⟨rfl,rfl⟩
  clear hsp
  go_wp2_with (first|(at_builtin;fail))
  refine hpre2.mono ?_
  rintro e1 w1 ⟨rfl,rfl⟩
  clear hpre2
  cases B with
  | false=>
    have hst:=HST.out T (by rw[HS1.out];rfl)
    by_cases hTq:T=q
    · have hR:=Zai (hst.1 hTq)
      clear hst
      go_wp2_with (first|(at_builtin;fail))
      go_ret
      exact ⟨by rw[hR.out,Zdh];rfl,rfl⟩
    · have hR:=Zai (hst.2 hTq).1
      have hlt:=(hst.2 hTq).2
      clear hst
      have hb:(T.toList == q.toList)=false:=by
       rw[beq_eq_false_iff_ne]
       intro h
       rw[ByteArray.toList_eq,ByteArray.toList_eq]at h
       exact hTq (by rw[←Zdh T,←Zdh q,h])
      go_wp2_with (first|(at_builtin;fail))
      go_roundw
      case rel=>exact ⟨T,by omega,by go_num,hR,trivial⟩
      case measure=>exact hlt
  | true=>
    go_wp2_with (first|(at_builtin;fail))
    refine hix.mono ?_
    rintro e1 w1 ⟨rfl,rfl⟩
    clear hix
    by_cases he:e < 0
    · have hst:=HST.out ByteArray.empty (by rw[HS1.out,if_pos (by first|trivial|rfl),if_pos he];rfl)
      by_cases hTq:ByteArray.empty=q
      · have hR:=Zai (hst.1 hTq)
        have hb:q.toList.isEmpty=true:=by rw[←hTq,ByteArray.toList_eq];rfl
        clear hst hTq
        go_wp2_with (first|(at_builtin;fail))
        go_ret
        exact ⟨by rw[hR.out,Zdh];rfl,rfl⟩
      · have hR:=Zai (hst.2 hTq).1
        have hlt:=(hst.2 hTq).2
        clear hst
        have hb:q.toList.isEmpty=false:=by
         rw[ByteArray.toList_eq]
         cases hq0:q.data.toList with
         | nil=>exact absurd (by rw[←Zdh q,hq0];rfl) hTq
         | cons b l=>rfl
        clear hTq
        go_wp2_with (first|(at_builtin;fail))
        go_roundw
        case rel=>exact ⟨ByteArray.empty,by omega,by go_num,hR,trivial⟩
        case measure=>exact hlt
    · obtain ⟨k,rfl⟩:∃ k:Nat,e=(k:Int):=⟨e.toNat,by omega⟩
      obtain ⟨U,hU⟩:=Zaf (T.extract k T.size)
      have hUe:T.extract k T.size=U:=hU.out.symm
      have hUl:U.data.toList=T.data.toList.drop k:=by
       rw[hU.out,Zdy,Zax,List.take_of_length_le (by rw[List.length_drop,←Lib.size_eq];omega)]
      have hst:=HST.out U (by rw[HS1.out,hUl,if_pos (by first|trivial|rfl),if_neg he];rfl)
      have HUL:=Zai hUl
      clear hU hUl
      by_cases hTq:U=q
      · have hR:=Zai (hst.1 hTq)
        clear hst
        go_wp2_with (first|(at_builtin;fail))
        go_ret
        exact ⟨by rw[hR.out,Zdh];rfl,rfl⟩
      · have hR:=Zai (hst.2 hTq).1
        have hlt:=(hst.2 hTq).2
        clear hst
        have hb:(U.toList == q.toList)=false:=by
         rw[beq_eq_false_iff_ne]
         intro h
         rw[ByteArray.toList_eq,ByteArray.toList_eq]at h
         exact hTq (by rw[←Zdh U,←Zdh q,h])
        go_wp2_with (first|(at_builtin;fail))
        go_roundw
        case rel=>exact ⟨U,by omega,by go_num,hR,trivial⟩
        case measure=>exact hlt
theorem box2 (w:World) (r q:List Value) (t:TypeId):Blk ((w.alloc (.cells r.toArray t)).alloc (.cells q.toArray t)) w.heap.size r t∧Blk ((w.alloc (.cells r.toArray t)).alloc (.cells q.toArray t)) (w.heap.size+1) q t∧Below w.heap.size w ((w.alloc (.cells r.toArray t)).alloc (.cells q.toArray t)):=by
 have b1:=Zac w (.cells r.toArray t)
 have hs:(w.alloc (.cells r.toArray t)).heap.size=w.heap.size+1:=by show (w.heap.push _).size=_;exact Array.size_push _
 have k2:=Blk.new (w.alloc (.cells r.toArray t)) q t
 rw[hs]at k2
 exact ⟨(Blk.new w r t).alloc _,k2,bt b1 (Zac _ _)⟩
theorem Blk.vrow {u:World} {k:Nat} {zs:List Value} {T:TypeId} (h:Blk u k zs T) (vs:List Value):Blk (u.setRow k vs.toArray) k vs T:=setRow_heap u k zs.toArray vs.toArray T (0,0) h
theorem Zch (u:World) (k j:Nat) (cs:Array Value) (h:j ≠ k):(u.setRow k cs).heap[j]?=u.heap[j]?:=by
 simp only[World.setRow,Array.getElem?_modify]
 rw[if_neg (Ne.symm h)]
theorem Zah {B:Nat} {a w:World} (h:Below B a w) {k:Nat} (hk:B≤k) (cs:Array Value):Below B a (w.setRow k cs):=
 ⟨h.os,h.tape,h.output,by simp only[World.setRow,Array.size_modify];exact h.size,fun j hj=>(Zch w k j cs (by omega)).trans (h.block j hj)⟩
theorem Zas {r:List Value} (h:∀ v ∈ r,v.oneCell'=true):r.toArray.all (fun x=>x.oneCell')=true:=by
 rw[Array.all_eq_true]
 intro i hi
 exact h _ (by simp)
theorem Zaj {B:Nat} {a w:World} (h:Below B a w):Below B a w.drew:=Zbz h 1
end Go.Proofs.YtnhooehmcggmdaaGreatDoor
