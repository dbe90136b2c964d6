/- Parts of a proof about the given program: XCut5, XParT. -/
import Derived.Test.YtnhooehmcggmdaaGreatDoorZ17
import Derived.Test.YtnhooehmcggmdaaGreatDoorZ27
import Derived.Test.YtnhooehmcggmdaaGreatDoorZ35
namespace Go.Proofs.YtnhooehmcggmdaaGreatDoor
set_option maxHeartbeats 16000000
set_option linter.unusedVariables false
set_option linter.unusedSimpArgs false
set_option linter.unusedSectionVars false
open Go.RowKit
theorem Zrw {m:Nat} {l v:List UInt8} (hm:Zev m 10=false):Zba m (l ++ 10 :: v)=Zba m l:=by
 unfold Zba
 congr 1
 induction l with
 | nil=>simp[hm]
 | cons b l ih=>
   rw[List.cons_append,List.takeWhile_cons,List.takeWhile_cons]
   split
   · rw[ih]
   · rfl
theorem span1_app {l v:List UInt8} (h:Zba 1 l < l.length):Zba 1 (l ++ 10 :: v)=Zba 1 l:=by
 unfold Zba at h ⊢
 induction l with
 | nil=>simp at h
 | cons b l ih=>
   rw[List.cons_append,List.takeWhile_cons]
   rw[List.takeWhile_cons]at h ⊢
   split
   · next hb=>
     rw[if_pos hb]at h
     simp only[List.length_cons]at h ⊢
     rw[ih (by omega)]
   · rfl
theorem span1_all {l v:List UInt8} (h:Zba 1 l=l.length):Zba 1 (l ++ v)=l.length+Zba 1 v:=by
 unfold Zba at h ⊢
 induction l with
 | nil=>simp
 | cons b l ih=>
   rw[List.takeWhile_cons]at h
   rw[List.cons_append,List.takeWhile_cons]
   split at h
   · next hb=>
     rw[if_pos hb]
     simp only[List.length_cons]at h ⊢
     rw[ih (by omega)]
     omega
   · simp at h
theorem Zqi (l v:List UInt8):(l ++ 10 :: v).dropWhile (fun b=>b.toNat ≠ 10)=l.dropWhile (fun b=>b.toNat ≠ 10) ++ 10 :: v:=by
 induction l with
 | nil=>rfl
 | cons b l ih=>
   rw[List.cons_append,List.dropWhile_cons,List.dropWhile_cons]
   split
   · exact ih
   · rfl
theorem note_app (t v:List UInt8):List.isPrefixOf [47,47] (t ++ 10 :: v)=List.isPrefixOf [47,47] t:=by
 match t with
 | []=>rfl
 | [a]=>simp[List.isPrefixOf]
 | a :: b :: t=>simp[List.isPrefixOf]
theorem skip1_app {l v:List UInt8} (h:Zba 1 l < l.length):Zdx (l ++ 10 :: v)=Zdx l ++ 10 :: v:=by
 have e:(l ++ 10 :: v).drop (Zba 1 (l ++ 10 :: v))=l.drop (Zba 1 l) ++ 10 :: v:=by
  rw[span1_app h,List.drop_append_of_le_length (by omega)]
 have f:∀ x:List UInt8,Zdx x=if List.isPrefixOf [47,47] (x.drop (Zba 1 x)) then (x.drop (Zba 1 x)).dropWhile (fun b=>b.toNat ≠ 10) else x.drop (Zba 1 x):=fun x=>rfl
 rw[f,f l,e,note_app,Zqi]
 split <;> rfl
theorem Zlb {l v:List UInt8} (h:Zba 1 l=l.length):Zdx (l ++ v)=Zdx v:=by
 have e:(l ++ v).drop (Zba 1 (l ++ v))=v.drop (Zba 1 v):=by
  rw[span1_all h,List.drop_append,List.drop_eq_nil_of_le (by omega),List.nil_append]
  congr 1
  omega
 have f:∀ x:List UInt8,Zdx x=if List.isPrefixOf [47,47] (x.drop (Zba 1 x)) then (x.drop (Zba 1 x)).dropWhile (fun b=>b.toNat ≠ 10) else x.drop (Zba 1 x):=fun x=>rfl
 rw[f,f v,e]
theorem Zhi {b:UInt8} (h:Zfy b=true) (l:List UInt8):Zck (b :: l)=Zck l:=by
 have hc:Zev 1 b=true:=by unfold Zev;rw[(Ziw b).2.2.1 h];decide
 have hs:Zba 1 [b]=([b]:List UInt8).length:=by
  unfold Zba
  rw[List.takeWhile_cons,hc]
  rfl
 have e:Zdx (b :: l)=Zdx l:=Zlb (l:=[b]) (v:=l) hs
 have hle:=Zjc l
 rw[Zdo (by rw[e];simp only[List.length_cons];omega),e]
 by_cases h2:(Zdx l).length=l.length
 · rw[Zlr h2]
 · rw[Zdo h2]
theorem Zyx:∀ (n:Nat) (l v:List UInt8),l.length≤n→Zck (l ++ 10 :: v)=if Zck l=[] then Zck v else Zck l ++ 10 :: v:=by
 intro n
 induction n with
 | zero=>
   intro l v h
   obtain rfl:l=[]:=List.eq_nil_of_length_eq_zero (by omega)
   rw[if_pos Zjb,List.nil_append]
   exact Zhi (by decide) v
 | succ n ih=>
   intro l v h
   rcases Nat.lt_or_ge (Zba 1 l) l.length with hs|hs
   · have e:=skip1_app (v:=v) hs
     by_cases h2:(Zdx l).length=l.length
     · have e2:=Zlr h2
       have hne:l ≠ []:=fun e=>by rw[e]at hs;simp at hs
       rw[Zju h2,if_neg hne,Zju (by rw[e,e2])]
     · have hle:=Zjc l
       rw[Zdo h2,←ih (Zdx l) v (by omega),Zdo (by rw[e];simp only[List.length_append];omega),e]
   · have hs2:Zba 1 l=l.length:=Nat.le_antisymm (Zge _ _) hs
     have e1:Zdx l=[]:=by have:=Zlb (v:=[]) hs2;rw[List.append_nil]at this;rw[this];rfl
     have e2:Zdx (l ++ 10 :: v)=Zdx (10 :: v):=Zlb hs2
     have e3:Zck l=[]:=by
      by_cases h2:(Zdx l).length=l.length
      · rw[Zju h2];rw[e1]at h2;exact List.eq_nil_of_length_eq_zero h2.symm
      · rw[Zdo h2,e1];exact Zjb
     rw[if_pos e3]
     have e4:Zck (10 :: v)=Zck v:=Zhi (by decide) v
     rw[←e4]
     by_cases h0:l=[]
     · subst h0;rfl
     · have hl:0 < l.length:=List.length_pos_iff.2 h0
       have hle:=Zjc (10 :: v)
       rw[Zdo (by rw[e2];simp only[List.length_append];omega),e2]
       by_cases h5:(Zdx (10 :: v)).length=(10 :: v).length
       · rw[Zlr h5]
       · rw[Zdo h5]
theorem lit_app:∀ (k:Nat) (r acc:List UInt8) (i:Nat) (x:List UInt8) (n:Nat) (u:List UInt8),r.length≤k→Zhu r acc i=some (x,n,true)→Zhu (r ++ u) acc i=some (x,n,true):=by
 intro k
 induction k with
 | zero=>
   intro r acc i x n u h h2
   obtain rfl:r=[]:=List.eq_nil_of_length_eq_zero (by omega)
   rw[Zhu.eq_def]at h2
   simp at h2
 | succ k ih=>
   intro r acc i x n u h h2
   match r with
   | []=>rw[Zhu.eq_def]at h2;simp at h2
   | b :: r=>
     rw[List.cons_append]
     rw[Zhu.eq_def]at h2 ⊢
     simp only[]at h2 ⊢
     split
     · next h34=>rw[if_pos h34]at h2;exact h2
     · next h34=>
       rw[if_neg h34]at h2
       split
       · next h92=>
         rw[if_pos h92]at h2
         match r with
         | []=>cases h2
         | c :: r'=>
           rw[List.cons_append]
           simp only[]at h2 ⊢
           cases he:escL c with
           | none=>rw[he]at h2;cases h2
           | some y=>
             rw[he]at h2
             simp only[]at h2 ⊢
             exact ih r' _ _ x n u (by simp only[List.length_cons]at h;omega) h2
       · next h92=>
         rw[if_neg h92]at h2
         split
         · next h10=>rw[if_pos h10]at h2;cases h2
         · next h10=>
           rw[if_neg h10]at h2
           exact ih r _ _ x n u (by simp only[List.length_cons]at h;omega) h2
theorem cls10:Zev 6 10=false∧Zev 4 10=false∧Zev 2 10=false:=by decide
theorem two_app (b:UInt8) (r v:List UInt8):Zby.contains ((b :: (r ++ 10 :: v)).take 2)=Zby.contains ((b :: r).take 2):=by
 cases r with
 | nil=>
   have h1:∀ s ∈ Zby,s ≠ [b,10]:=by
    intro s hs e
    subst e
    revert hs
    simp[Zby]
   have h2:∀ s ∈ Zby,s ≠ [b]:=by
    intro s hs e
    have:=(Zil s hs).1
    rw[e]at this
    simp at this
   have e1:Zby.contains [b,10]=false:=by
    cases hq:Zby.contains [b,10] with
    | false=>rfl
    | true=>exact absurd rfl (h1 [b,10] (by simpa using hq))
   have e2:Zby.contains [b]=false:=by
    cases hq:Zby.contains [b] with
    | false=>rfl
    | true=>exact absurd rfl (h2 [b] (by simpa using hq))
   show Zby.contains [b,10]=Zby.contains [b]
   rw[e1,e2]
 | cons c r=>rfl
theorem next_app {l v:List UInt8} {t:Tok} {n:Nat} (h:Zcx l=.ok (t,n)):Zcx (l ++ 10 :: v)=.ok (t,n):=by
 cases l with
 | nil=>cases h
 | cons b r=>
   have hs6:Zba 6 (b :: r ++ 10 :: v)=Zba 6 (b :: r):=Zrw cls10.1
   have hs4:Zba 4 (b :: r ++ 10 :: v)=Zba 4 (b :: r):=Zrw cls10.2.1
   have h6:=Zge 6 (b :: r)
   have h4:=Zge 4 (b :: r)
   have hd:((b :: r ++ 10 :: v).drop (Zba 4 (b :: r)))=(b :: r).drop (Zba 4 (b :: r)) ++ 10 :: v:=List.drop_append_of_le_length h4
   have ht4:((b :: r ++ 10 :: v).take (Zba 4 (b :: r)))=(b :: r).take (Zba 4 (b :: r)):=List.take_append_of_le_length h4
   have ht6:((b :: r ++ 10 :: v).take (Zba 6 (b :: r)))=(b :: r).take (Zba 6 (b :: r)):=List.take_append_of_le_length h6
   have hs2:Zba 2 ((b :: r).drop (Zba 4 (b :: r)) ++ 10 :: v)=Zba 2 ((b :: r).drop (Zba 4 (b :: r))):=Zrw cls10.2.2
   rw[←h]
   unfold Zcx
   rw[List.cons_append]at hs6 hs4 hd ht4 ht6 ⊢
   simp only[]
   rw[hs6,hs4,hd,ht4,ht6,hs2,two_app]
   have ht2:Zby.contains ((b :: r).take 2)=true→(b :: (r ++ 10 :: v)).take 2=(b :: r).take 2:=by
    intro hc
    cases r with
    | nil=>
      have:=(Zil [b] (by simpa using hc)).1
      simp at this
    | cons c r=>rfl
   unfold Zcx at h
   simp only[]at h
   split
   · rfl
   · next hl=>
     rw[if_neg hl]at h
     split
     · rfl
     · next hdg=>
       rw[if_neg hdg]at h
       split
       · next h34=>
         rw[if_pos h34]at h
         cases hq:Zhu r [] 1 with
         | none=>rw[hq]at h;cases h
         | some y=>
           obtain ⟨x,m,c⟩:=y
           cases c with
           | false=>rw[hq]at h;simp at h
           | true=>rw[lit_app r.length r [] 1 x m (10 :: v) (Nat.le_refl _) hq]
       · next h34=>
         split
         · next hc=>rw[ht2 hc]
         · rfl
theorem cutG_app:∀ (n N:Nat) (l v:List UInt8) (ts:List Tok),l.length≤n→Zqj N (Zck l)=.ok ts→Zqj (N+(10 :: v).length) (Zck (l ++ 10 :: v))=addT ts (Zqj (N+(10 :: v).length) (Zck v)):=by
 intro n
 induction n with
 | zero=>
   intro N l v ts h h2
   obtain rfl:l=[]:=List.eq_nil_of_length_eq_zero (by omega)
   rw[Zjb,Zkn]at h2
   cases h2
   rw[Zyx 0 [] v (Nat.le_refl _),if_pos Zjb]
   cases Zqj (N+(10 :: v).length) (Zck v) <;> rfl
 | succ n ih=>
   intro N l v ts h h2
   rw[Zyx l.length l v (Nat.le_refl _)]
   by_cases h0:Zck l=[]
   · rw[h0,Zkn]at h2
     cases h2
     rw[if_pos h0]
     cases Zqj (N+(10 :: v).length) (Zck v) <;> rfl
   · rw[if_neg h0]
     have hlen:=Zhc l
     obtain ⟨q,hq⟩:∃ q,q=Zck l:=⟨_,rfl⟩
     rw[←hq]at h0 h2 hlen ⊢
     cases hn:Zcx q with
     | error e=>rw[Ztc h0 hn]at h2;cases h2
     | ok y=>
       obtain ⟨t,m⟩:=y
       rw[Zkb h0 hn]at h2
       obtain ⟨hm0,hm1,-⟩:=Zkh hn
       cases hr:Zqj N (Zck (q.drop m)) with
       | error e=>rw[hr]at h2;cases h2
       | ok ts'=>
         rw[hr]at h2
         cases h2
         have hi:=ih N (q.drop m) v ts' (by rw[List.length_drop];omega) hr
         rw[Zkb (t:=t) (n:=m) (by simp) (next_app hn),List.drop_append_of_le_length hm1,hi,Zwf]
         have e9:N+(10 :: v).length - (q ++ 10 :: v).length=N - q.length:=by
          simp only[List.length_append]
          omega
         rw[e9]
theorem cutG_at:∀ (n N M:Nat) (l:List UInt8) (ts:List Tok),l.length≤n→Zqj N l=.ok ts→∃ us,Zqj M l=.ok us∧us.map Zqf=ts.map Zqf:=by
 intro n
 induction n with
 | zero=>
   intro N M l ts h h2
   obtain rfl:l=[]:=List.eq_nil_of_length_eq_zero (by omega)
   rw[Zkn]at h2 ⊢
   exact ⟨ts,h2,rfl⟩
 | succ n ih=>
   intro N M l ts h h2
   by_cases h0:l=[]
   · subst h0
     rw[Zkn]at h2 ⊢
     exact ⟨ts,h2,rfl⟩
   · cases hn:Zcx l with
     | error e=>rw[Ztc h0 hn]at h2;cases h2
     | ok y=>
       obtain ⟨t,m⟩:=y
       rw[Zkb h0 hn]at h2
       obtain ⟨hm0,hm1,-⟩:=Zkh hn
       cases hr:Zqj N (Zck (l.drop m)) with
       | error e=>rw[hr]at h2;cases h2
       | ok ts'=>
         rw[hr]at h2
         cases h2
         obtain ⟨us,h3,h4⟩:=ih N M (Zck (l.drop m)) ts' (by have:=Zhc (l.drop m);rw[List.length_drop]at this;omega) hr
         refine ⟨{ t with at_:=M - l.length } :: us,by rw[Zkb h0 hn,h3];rfl,?_⟩
         simp[h4,Zqf]
theorem Zvq (N:Nat):Zqj N (Zck [41])=.ok [⟨4,[41],0,N - 1⟩]:=by
 rw[show Zck [41]=[41] by decide,Zkb (t:=⟨4,[41],0,0⟩) (n:=1) (by simp) rfl]
 rfl
theorem cut_behind {s:List UInt8} {ts:List Tok} (h:Zli s=.ok ts) (hl:s.length+2≤2048):Zli (s ++ [10,41])=.ok (ts ++ [⟨4,[41],0,s.length+1⟩]):=by
 rw[Znd]at h ⊢
 rw[if_neg (by omega)]at h
 rw[if_neg (by simp only[List.length_append,List.length_cons,List.length_nil];omega)]
 have:=cutG_app s.length s.length s [41] ts (Nat.le_refl _) h
 rw[Zvq]at this
 simpa [addT] using this
theorem cut_around {s:List UInt8} {ts:List Tok} (h:Zli s=.ok ts) (hl:s.length+3≤2048):∃ us,Zli (40 :: (s ++ [10,41]))=.ok us∧us.map Zqf=tS [40] :: (ts.map Zqf ++ [tS [41]]):=by
 rw[Znd]at h
 rw[Znd]
 rw[if_neg (by omega)]at h
 rw[if_neg (by simp only[List.length_append,List.length_cons,List.length_nil];omega)]
 rw[skip_no (by decide) (by decide)]
 obtain ⟨us,h1,h2⟩:=cutG_at _ s.length (s.length+1) (Zck s) ts (Nat.le_refl _) h
 have h3:=cutG_app s.length (s.length+1) s [41] us (Nat.le_refl _) h1
 rw[Zvq]at h3
 have hn:Zcx (40 :: (s ++ [10,41]))=.ok (⟨4,[40],0,0⟩,1):=by
  have hc:Zby.contains ((40 :: (s ++ [10,41])).take 2)=false:=by
   cases hq:Zby.contains ((40 :: (s ++ [10,41])).take 2) with
   | false=>rfl
   | true=>
     have:=Znm _ (by simpa using hq)
     revert this
     cases s <;> simp[Zvh]
  unfold Zcx
  simp only[]
  rw[if_neg (by decide),if_neg (by decide),if_neg (by decide),hc]
  rfl
 refine ⟨⟨4,[40],0,(40 :: (s ++ [10,41])).length - (40 :: (s ++ [10,41])).length⟩ :: (us ++ [⟨4,[41],0,s.length+1+2 - 1⟩]),?_,?_⟩
 · rw[Zkb (by simp) hn]
   have e:(40 :: (s ++ [10,41])).length=s.length+1+(10 :: [41]:List UInt8).length:=by simp only[List.length_cons,List.length_append,List.length_nil]
   rw[e]
   have h4:(List.drop 1 (40 :: (s ++ [10,41])))=s ++ 10 :: [41]:=rfl
   rw[h4,h3]
   rfl
 · simp[h2,Zqf,tS]
theorem Zsi {s:List UInt8} {ts:List Tok} {e:Et} (h1:Zli s=.ok ts) (h2:prL ts=.ok (e,[])) (h3:Zne e=0):Zdk s=(some e,0,0):=by
 have hr:Zee ts s.length=(some e,ts.length,0,0):=by
  unfold Zee
  rw[h2]
  simp only[]
  rw[if_pos h3]
  rfl
 unfold Zdk
 rw[h1]
 simp only[]
 rw[hr]
 simp
theorem Zio {s:List UInt8} {e:Et} {x:Int × Nat} (h:Zdk s=(some e,x)):x=(0,0)∧∃ ts,Zli s=.ok ts∧prL ts=.ok (e,[])∧Zne e=0:=by
 unfold Zdk at h
 cases hc:Zli s with
 | error y=>rw[hc]at h;obtain ⟨k,a⟩:=y;simp at h
 | ok ts=>
   rw[hc]at h
   simp only[]at h
   cases hp:prL ts with
   | error e0=>
     have hr:Zee ts s.length=(none,0,5,Zho e0 s.length):=by unfold Zee;rw[hp]
     rw[hr]at h
     simp at h
   | ok y=>
     obtain ⟨e1,r⟩:=y
     by_cases h0:Zne e1=0
     · have hr:Zee ts s.length=(some e1,ts.length - r.length,0,0):=by unfold Zee;rw[hp];simp only[];rw[if_pos h0]
       rw[hr]at h
       simp only[ne_eq,not_true_eq_false,if_false]at h
       have hps:=Zzi ts
       rw[hp]at hps
       have hl:r.length+1≤ts.length:=hps.2
       by_cases h2:ts.length - r.length < ts.length
       · rw[if_pos h2]at h;simp at h
       · rw[if_neg h2]at h
         have hr0:r=[]:=List.eq_nil_of_length_eq_zero (by omega)
         simp only[Prod.mk.injEq,Option.some.injEq]at h
         obtain ⟨h4,h5⟩:=h
         subst h4
         refine ⟨h5.symm,ts,rfl,by rw[hp,hr0],h0⟩
     · have hr:Zee ts s.length=(none,0,Zne e1,Zho ts s.length):=by unfold Zee;rw[hp];simp only[];rw[if_neg h0]
       rw[hr]at h
       simp only[ne_eq,h0,not_false_eq_true,if_true]at h
       simp at h
theorem Zzl {N:Nat} {ts:List Tok} (h:∀ t ∈ ts,t.at_≤N):Zho ts N≤N:=by
 cases ts with
 | nil=>exact Nat.le_refl _
 | cons t ts=>exact h t (by simp)
theorem Zrc {s:List UInt8} {x:Int × Nat} (h:Zdk s=(none,x)):x.1 ≠ 0∧x.2≤s.length:=by
 unfold Zdk at h
 cases hc:Zli s with
 | error y=>
   rw[hc]at h
   obtain ⟨k,a⟩:=y
   have:=cut_no hc
   simp only[Prod.mk.injEq,true_and]at h
   subst h
   exact this
 | ok ts=>
   rw[hc]at h
   simp only[]at h
   obtain ⟨hl1,hl2,hl3⟩:=Ztb hc
   have hat:∀ t ∈ ts,t.at_≤s.length:=fun t ht=>(hl3 t ht).2.2.2.2
   cases hp:prL ts with
   | error e0=>
     have hr:Zee ts s.length=(none,0,5,Zho e0 s.length):=by unfold Zee;rw[hp]
     have hsf:e0 <:+ ts:=by have:=Zzi ts;rw[hp]at this;exact this
     rw[hr]at h
     simp at h
     subst h
     exact ⟨by simp,Zzl fun t ht=>hat t (hsf.subset ht)⟩
   | ok y=>
     obtain ⟨e1,r⟩:=y
     by_cases h0:Zne e1=0
     · have hr:Zee ts s.length=(some e1,ts.length - r.length,0,0):=by unfold Zee;rw[hp];simp only[];rw[if_pos h0]
       rw[hr]at h
       simp only[ne_eq,not_true_eq_false,if_false]at h
       by_cases h2:ts.length - r.length < ts.length
       · rw[if_pos h2]at h
         simp only[Prod.mk.injEq,true_and]at h
         subst h
         refine ⟨by simp,?_⟩
         rw[List.getD_eq_getElem?_getD,List.getElem?_eq_getElem h2]
         exact hat _ (List.getElem_mem h2)
       · rw[if_neg h2]at h
         simp at h
     · have hr:Zee ts s.length=(none,0,Zne e1,Zho ts s.length):=by unfold Zee;rw[hp];simp only[];rw[if_neg h0]
       rw[hr]at h
       simp only[ne_eq,h0,not_false_eq_true,if_true]at h
       simp only[Prod.mk.injEq,true_and]at h
       subst h
       exact ⟨h0,Zzl hat⟩
theorem Zrd {s:List UInt8} (h:2048 < s.length):Zdk s=(none,3,0):=by
 unfold Zdk
 rw[Znd,if_pos h]
theorem Zrb {e:Et} (h:Zne e=0) (hn:okN e=true):Zdk (Zao e)=if (Zao e).length≤2048 then (some e,0,0) else (none,3,0):=by
 split
 · next hl=>
   obtain ⟨ts,h1,h2⟩:=read_show (Zvu h).1 hn hl
   exact Zsi h1 h2 h
 · next hl=>exact Zrd (by omega)
theorem par_all {ts:List Tok} {e:Et} (h:prL ts=.ok (e,[])):prL (tS [40] :: (ts ++ [tS [41]]))=.ok (e,[]):=by
 have h1:=Zpi ts
 rw[h]at h1
 have h2:=pr_mv (g:=fun t=>t) (x:=[tS [41]]) (fun _=>rfl) (fun _=>rfl) (fun _=>rfl) (fun t x' q=>by cases q;exact ⟨rfl,rfl⟩) _ _ _ _ _ h1
 have e1:mv (fun t=>t) [tS [41]] ts=ts ++ tS [41] :: []:=by unfold mv;rw[List.map_id']
 have e2:mv (fun t=>t) [tS [41]] []=tS [41] :: []:=rfl
 rw[e1,e2]at h2
 have h3:Rd0 .expr (ts ++ tS [41] :: []) e (tS [41] :: []):=⟨_,h2⟩
 have ho:∀ j,Off j []:=fun j t r' q=>by cases q
 have h4:=Zgg (par7 h3) e [] (mem_end (ho 5))
 have h5:=up_expr (Znl (Nat.le_refl 5) (Nat.zero_le 5) (up_un h4 rfl rfl) (ho 0)) rfl
 obtain ⟨f,hf⟩:=h5
 exact Zzj hf
theorem Zup {s:List UInt8} {e:Et} {x:Int × Nat} (h:Zdk s=(some e,x)) (hl:s.length+3≤2048):Zdk (40 :: (s ++ [10,41]))=(some e,0,0):=by
 obtain ⟨-,ts,h1,h2,h3⟩:=Zio h
 obtain ⟨us,h4,h5⟩:=cut_around h1 hl
 obtain ⟨r',h6,h7⟩:=Zse (ts:=tS [40] :: (ts ++ [tS [41]])) (us:=us) (by rw[h5];simp[Zqf,tS]) (par_all h2)
 obtain rfl:r'=[]:=by cases r' <;> simp_all
 exact Zsi h4 h6 h3
theorem Zuo {s:List UInt8} {e:Et} {x:Int × Nat} (h:Zdk s=(some e,x)) (hl:s.length+3≤2048):∃ a,Zdk (s ++ [10,41])=(none,5,a):=by
 obtain ⟨-,ts,h1,h2,h3⟩:=Zio h
 have h4:=cut_behind h1 (by omega)
 have h5:=Zpi ts
 rw[h2]at h5
 have h6:=pr_mv (g:=fun t=>t) (x:=[⟨4,[41],0,s.length+1⟩]) (fun _=>rfl) (fun _=>rfl) (fun _=>rfl) (fun t x' q=>by cases q;exact ⟨rfl,rfl⟩) _ _ _ _ _ h5
 have e1:mv (fun t=>t) [⟨4,[41],0,s.length+1⟩] ts=ts ++ [⟨4,[41],0,s.length+1⟩]:=by unfold mv;rw[List.map_id']
 rw[e1]at h6
 have h7:=Zzj h6
 have hr:Zee (ts ++ [⟨4,[41],0,s.length+1⟩]) (s ++ [10,41]).length=(some e,ts.length,0,0):=by
  unfold Zee
  rw[h7]
  simp only[]
  rw[if_pos h3]
  simp[mv]
 refine ⟨((ts ++ [(⟨4,[41],0,s.length+1⟩:Tok)]).getD ts.length Zam).at_,?_⟩
 unfold Zdk
 rw[h4]
 simp only[]
 rw[hr]
 simp only[ne_eq,not_true_eq_false,if_false]
 rw[if_pos (by simp)]
theorem Zou (m:Nat) (l:List UInt8):l.take (Zba m l)=l.takeWhile (Zev m):=by
 unfold Zba
 induction l with
 | nil=>rfl
 | cons b l ih=>
   rw[List.takeWhile_cons]
   split
   · rw[List.length_cons,List.take_succ_cons,ih]
   · rfl
theorem Zsn {p:UInt8→Bool} {l:List UInt8} {b:UInt8} (h:b ∈ l.takeWhile p):p b=true:=by
 induction l with
 | nil=>cases h
 | cons c l ih=>
   rw[List.takeWhile_cons]at h
   split at h
   · next hc=>
     rcases List.mem_cons.1 h with rfl|h
     · exact hc
     · exact ih h
   · cases h
theorem next_tokOk {l:List UInt8} {t:Tok} {n:Nat} (h:Zcx l=.ok (t,n)):Zff t:=by
 cases l with
 | nil=>cases h
 | cons b r=>
   rcases Zpm h with ⟨hl,rfl,_⟩|⟨_,hd,x,hx,rfl,_⟩|⟨_,x,m,_,hv,hlen,rfl,_⟩|⟨h2,rfl,_⟩|⟨h1,rfl,_⟩
   · have hc:Zev 6 b=true:=by rw[(Ziw b).2.2.2.2.2.2.2.1,hl];rfl
     have e:(b :: r).take (Zba 6 (b :: r))=b :: r.takeWhile (Zev 6):=by rw[Zou,List.takeWhile_cons,if_pos hc]
     refine .inl ⟨rfl,rfl,?_,?_,?_⟩
     · show (b :: r).take (Zba 6 (b :: r)) ≠ []
       rw[e];simp
     · show Zha (((b :: r).take (Zba 6 (b :: r))).headD 0)=true
       rw[e];exact hl
     · show ((b :: r).take (Zba 6 (b :: r))).all _=true
       rw[List.all_eq_true]
       intro c hcm
       rw[Zou]at hcm
       have:=Zsn hcm
       rw[(Ziw c).2.2.2.2.2.2.2.1]at this
       exact this
   · have hc:Zev 4 b=true:=by rw[(Ziw b).2.2.2.2.2.1];exact hd
     have e:(b :: r).take (Zba 4 (b :: r))=b :: r.takeWhile (Zev 4):=by rw[Zou,List.takeWhile_cons,if_pos hc]
     rw[e]at hx
     have hb45:b.toNat ≠ 45:=by
      intro hb
      unfold Zgw at hd
      simp at hd
      omega
     refine .inr (.inl ⟨rfl,rfl,?_,(Zld hx).2⟩)
     unfold Lib.parseIntB at hx
     simp only[hb45,or_false,not_false_eq_true,true_and,false_and,if_false]at hx
     split at hx
     · cases hx
     · cases hx
     · split at hx
       · cases hx
       · cases hx
         exact Int.natCast_nonneg _
   · exact .inr (.inr (.inl ⟨rfl,rfl,hv,hlen⟩))
   · exact .inr (.inr (.inr ⟨rfl,rfl,.inl h2⟩))
   · exact .inr (.inr (.inr ⟨rfl,rfl,.inr ⟨b,rfl,h1⟩⟩))
theorem tokOk_at {t:Tok} (h:Zff t) (a:Nat):Zff { t with at_:=a }:=h
theorem cutF_tokOk:∀ (f N:Nat) (l:List UInt8) (ts:List Tok),Zrl f N l=.ok ts→∀ t ∈ ts,Zff t:=by
 intro f
 induction f with
 | zero=>intro N l ts h;cases h;exact fun t h=>by cases h
 | succ f ih=>
   intro N l ts h
   rw[Zrl]at h
   split at h
   · cases h;exact fun t h=>by cases h
   · split at h
     · cases h
     · next t n hn=>
       split at h
       · next ts' hr=>
         cases h
         intro u hu
         rcases List.mem_cons.1 hu with rfl|hu
         · exact tokOk_at (next_tokOk hn) _
         · exact ih _ _ _ hr u hu
       · cases h
theorem Zvp {s:List UInt8} {ts:List Tok} (h:Zli s=.ok ts):∀ t ∈ ts,Zff t:=by
 unfold Zli at h
 split at h
 · cases h
 · exact cutF_tokOk _ _ _ _ h
def Zsa:List (List UInt8):=[[32],[10],[47,47,41,10],[9,32]]
theorem skp_note:Skp [47,47,41,10]:=by
 intro l
 have hs:Zba 1 (47 :: 47 :: 41 :: 10 :: l)=0:=by
  unfold Zba
  rw[List.takeWhile_cons,show Zev 1 47=false by decide]
  rfl
 have e:Zdx (47 :: 47 :: 41 :: 10 :: l)=10 :: l:=by
  unfold Zdx
  simp only[]
  rw[hs]
  rfl
 show Zck (47 :: 47 :: 41 :: 10 :: l)=Zck l
 rw[Zdo (by rw[e];simp),e]
 exact Zhi (by decide) l
theorem Zud:∀ x ∈ Zsa,Skp x∧∃ c r,x=c :: r∧Zha c=false∧Zgw c=false∧∀ b,Zby.contains [b,c]=false:=by
 intro x hx
 simp only[Zsa,List.mem_cons,List.not_mem_nil,or_false]at hx
 have hno:∀ c:UInt8,(∀ s ∈ Zby,s.getD 1 0 ≠ c)→∀ b,Zby.contains [b,c]=false:=fun c h b=>by
  cases hq:Zby.contains [b,c] with
  | false=>rfl
  | true=>exact absurd rfl (h [b,c] (by simpa using hq))
 rcases hx with rfl|rfl|rfl|rfl
 · exact ⟨skp_bl,32,[],rfl,by decide,by decide,hno 32 (by decide)⟩
 · exact ⟨fun l=>Zhi (by decide) l,10,[],rfl,by decide,by decide,hno 10 (by decide)⟩
 · exact ⟨skp_note,47,_,rfl,by decide,by decide,hno 47 (by decide)⟩
 · exact ⟨fun l=>by show Zck (9 :: 32 :: l)=_;rw[Zhi (by decide),Zhi (by decide)],9,[32],rfl,by decide,by decide,hno 9 (by decide)⟩
def pcsT (sep:List UInt8):List UInt8→List Tok→Pcs
 | _,[]=>[]
 | s0,t :: ts=>(s0,t) :: pcsT sep sep ts
def Zez (sep:List UInt8) (ts:List Tok):List UInt8:=ts.flatMap fun t=>Zbu t ++ sep
theorem Zsg (sep:List UInt8):∀ (ts:List Tok) (s0:List UInt8),ts ≠ []→txt (pcsT sep s0 ts) ++ sep=s0 ++ Zez sep ts
 | [],_,h=>absurd rfl h
 | [t],s0,_=>by simp[pcsT,txt,Zez]
 | t :: u :: ts,s0,_=>by
   rw[pcsT,Ziz,List.append_assoc,List.append_assoc,Zsg sep (u :: ts) sep (by simp)]
   simp[Zez,List.append_assoc]
theorem Zzo (sep:List UInt8):∀ (ts:List Tok) (s0:List UInt8),(pcsT sep s0 ts).map (fun p=>Zqf p.2)=ts.map Zqf
 | [],_=>rfl
 | t :: ts,s0=>by rw[pcsT,List.map_cons,List.map_cons,Zzo sep ts sep]
theorem Zqz {sep:List UInt8} (hs:sep ∈ Zsa):∀ (ts:List Tok) (s0:List UInt8),Skp s0→(∀ t ∈ ts,Zff t)→Zih (pcsT sep s0 ts) sep
 | [],_,_,_=>trivial
 | t :: ts,s0,h0,ht=>by
   obtain ⟨h1,c,r,e,h2,h3,h4⟩:=Zud sep hs
   have hx:∃ r',txt (pcsT sep sep ts) ++ sep=c :: r':=by
    cases ts with
    | nil=>exact ⟨r,by rw[pcsT,e];rfl⟩
    | cons u us=>exact ⟨_,by rw[Zsg sep _ _ (by simp),e];rfl⟩
   obtain ⟨r',hr'⟩:=hx
   refine ⟨h0,ht t (by simp),?_,Zqz hs ts sep h1 fun u hu=>ht u (by simp[hu])⟩
   rw[hr']
   refine ⟨fun _ d r2 q=>by cases q;exact ⟨h2,h3⟩,fun _ hl=>?_⟩
   obtain ⟨b,hb⟩:=Zzx hl
   rw[hb]
   exact h4 b
theorem Zxf {s sep:List UInt8} {e:Et} {x:Int × Nat} {ts:List Tok} (hs:sep ∈ Zsa) (h:Zdk s=(some e,x)) (hc:Zli s=.ok ts) (hl:(Zez sep ts).length≤2048):Zdk (Zez sep ts)=(some e,0,0):=by
 obtain ⟨-,ts',h1,h2,h3⟩:=Zio h
 rw[hc]at h1
 obtain rfl:ts=ts':=by injection h1
 have hne:ts ≠ []:=by
  intro e0
  have hps:=Zzi ts
  rw[h2]at hps
  have:=hps.2
  rw[e0]at this
  simp at this
 have htx:=Zsg sep ts [] hne
 rw[List.nil_append]at htx
 have hsk:Zck sep=[]:=by
  have:=(Zud sep hs).1 []
  rw[List.append_nil]at this
  rw[this,Zjb]
 obtain ⟨us,h4,h5⟩:=cut_txt hsk (Zqz hs ts [] skp_nil (Zvp hc)) (by rw[htx];exact hl)
 rw[htx]at h4
 rw[Zzo]at h5
 obtain ⟨r',h6,h7⟩:=Zse h5.symm h2
 obtain rfl:r'=[]:=by cases r' <;> simp_all
 exact Zsi h4 h6 h3
theorem cut_one {t:Tok} (ht:Zff t) (hl:(Zbu t).length≤2048):Zli (Zbu t)=.ok [{ t with at_:=0 }]:=by
 rw[Znd,if_neg (by omega)]
 have h1:=Zyw ht []
 rw[List.append_nil]at h1
 have hnx:Zhz t []:=by
  refine ⟨fun _ c r' q=>(by cases q),fun _ hl1=>?_⟩
  rw[List.append_nil]
  cases hq:Zby.contains (t.t.take 2) with
  | false=>rfl
  | true=>
    have h9:=(Zil _ (by simpa using hq)).1
    rw[List.length_take]at h9
    omega
 have h2:=Zzs (r:=[]) ht hnx
 rw[List.append_nil]at h2
 have hp:=Zwo ht
 rw[h1,Zkb (by intro e;rw[e]at hp;simp at hp) h2,List.drop_length,Zjb,Zkn]
 simp[addT]
theorem Zos {N:Nat} {t:Tok} (ht:Zff t) (hN:t.t.length≤N):(Zbu t).length≤max N 514:=by
 rcases ht with ⟨hk,hn,h1,h2,h3⟩|⟨hk,hx,h1,h2⟩|⟨hk,hn,h1,h2⟩|⟨hk,hn,h1⟩
 · unfold Zbu;rw[if_neg (by omega),if_neg (by omega)];omega
 · unfold Zbu;rw[if_pos hk];have:=(Zzz h1 h2).2;omega
 · unfold Zbu;rw[if_neg (by omega),if_pos hk];have:=Zjy t.t;omega
 · unfold Zbu;rw[if_neg (by omega),if_neg (by omega)];omega
end Go.Proofs.YtnhooehmcggmdaaGreatDoor
