/- Parts of a proof about the given program: XCut5, XParT. -/
import Derived.Test.YtnhooehmcggmdaaGreatDoorZ17
import Derived.Test.YtnhooehmcggmdaaGreatDoorZ27
import Derived.Test.YtnhooehmcggmdaaGreatDoorZ35
namespace Go.Proofs.YtnhooehmcggmdaaGreatDoor
set_option maxHeartbeats 16000000
set_option linter.unusedVariables false
set_option linter.unusedSimpArgs false
set_option linter.unusedSectionVars false
open Go.RowKit
theorem Zsc {m:Nat} {l v:List UInt8} (hm:Zey m 10=false):Zba m (l ++ 10 :: v)=Zba m l:=by
 unfold Zba
 congr 1
 induction l with
 | nil=>simp[hm]
 | cons b l ih=>
   rw[List.cons_append,List.takeWhile_cons,List.takeWhile_cons]
   split
   · rw[ih]
   · rfl
theorem span1_app {l v:List UInt8} (h:Zba 1 l < l.length):Zba 1 (l ++ 10 :: v)=Zba 1 l:=by
 unfold Zba at h ⊢
 induction l with
 | nil=>simp at h
 | cons b l ih=>
   rw[List.cons_append,List.takeWhile_cons]
   rw[List.takeWhile_cons]at h ⊢
   split
   · next hb=>
     rw[if_pos hb]at h
     simp only[List.length_cons]at h ⊢
     rw[ih (by omega)]
   · rfl
theorem span1_all {l v:List UInt8} (h:Zba 1 l=l.length):Zba 1 (l ++ v)=l.length+Zba 1 v:=by
 unfold Zba at h ⊢
 induction l with
 | nil=>simp
 | cons b l ih=>
   rw[List.takeWhile_cons]at h
   rw[List.cons_append,List.takeWhile_cons]
   split at h
   · next hb=>
     rw[if_pos hb]
     simp only[List.length_cons]at h ⊢
     rw[ih (by omega)]
     omega
   · simp at h
theorem Zqn (l v:List UInt8):(l ++ 10 :: v).dropWhile (fun b=>b.toNat ≠ 10)=l.dropWhile (fun b=>b.toNat ≠ 10) ++ 10 :: v:=by
 induction l with
 | nil=>rfl
 | cons b l ih=>
   rw[List.cons_append,List.dropWhile_cons,List.dropWhile_cons]
   split
   · exact ih
   · rfl
theorem note_app (t v:List UInt8):List.isPrefixOf [47,47] (t ++ 10 :: v)=List.isPrefixOf [47,47] t:=by
 match t with
 | []=>rfl
 | [a]=>simp[List.isPrefixOf]
 | a :: b :: t=>simp[List.isPrefixOf]
theorem skip1_app {l v:List UInt8} (h:Zba 1 l < l.length):Zec (l ++ 10 :: v)=Zec l ++ 10 :: v:=by
 have e:(l ++ 10 :: v).drop (Zba 1 (l ++ 10 :: v))=l.drop (Zba 1 l) ++ 10 :: v:=by
  rw[span1_app h,List.drop_append_of_le_length (by omega)]
 have f:∀ x:List UInt8,Zec x=if List.isPrefixOf [47,47] (x.drop (Zba 1 x)) then (x.drop (Zba 1 x)).dropWhile (fun b=>b.toNat ≠ 10) else x.drop (Zba 1 x):=fun x=>rfl
 rw[f,f l,e,note_app,Zqn]
 split <;> rfl
theorem Zlg {l v:List UInt8} (h:Zba 1 l=l.length):Zec (l ++ v)=Zec v:=by
 have e:(l ++ v).drop (Zba 1 (l ++ v))=v.drop (Zba 1 v):=by
  rw[span1_all h,List.drop_append,List.drop_eq_nil_of_le (by omega),List.nil_append]
  congr 1
  omega
 have f:∀ x:List UInt8,Zec x=if List.isPrefixOf [47,47] (x.drop (Zba 1 x)) then (x.drop (Zba 1 x)).dropWhile (fun b=>b.toNat ≠ 10) else x.drop (Zba 1 x):=fun x=>rfl
 rw[f,f v,e]
theorem Zhm {b:UInt8} (h:Zga b=true) (l:List UInt8):Zco (b :: l)=Zco l:=by
 have hc:Zey 1 b=true:=by unfold Zey;rw[(Zjb b).2.2.1 h];decide
 have hs:Zba 1 [b]=([b]:List UInt8).length:=by
  unfold Zba
  rw[List.takeWhile_cons,hc]
  rfl
 have e:Zec (b :: l)=Zec l:=Zlg (l:=[b]) (v:=l) hs
 have hle:=Zjh l
 rw[Zdq (by rw[e];simp only[List.length_cons];omega),e]
 by_cases h2:(Zec l).length=l.length
 · rw[Zlv h2]
 · rw[Zdq h2]
theorem Zzh:∀ (n:Nat) (l v:List UInt8),l.length≤n→Zco (l ++ 10 :: v)=if Zco l=[] then Zco v else Zco l ++ 10 :: v:=by
 intro n
 induction n with
 | zero=>
   intro l v h
   obtain rfl:l=[]:=List.eq_nil_of_length_eq_zero (by omega)
   rw[if_pos Zjg,List.nil_append]
   exact Zhm (by decide) v
 | succ n ih=>
   intro l v h
   rcases Nat.lt_or_ge (Zba 1 l) l.length with hs|hs
   · have e:=skip1_app (v:=v) hs
     by_cases h2:(Zec l).length=l.length
     · have e2:=Zlv h2
       have hne:l ≠ []:=fun e=>by rw[e]at hs;simp at hs
       rw[Zjx h2,if_neg hne,Zjx (by rw[e,e2])]
     · have hle:=Zjh l
       rw[Zdq h2,←ih (Zec l) v (by omega),Zdq (by rw[e];simp only[List.length_append];omega),e]
   · have hs2:Zba 1 l=l.length:=Nat.le_antisymm (Zgg _ _) hs
     have e1:Zec l=[]:=by have:=Zlg (v:=[]) hs2;rw[List.append_nil]at this;rw[this];rfl
     have e2:Zec (l ++ 10 :: v)=Zec (10 :: v):=Zlg hs2
     have e3:Zco l=[]:=by
      by_cases h2:(Zec l).length=l.length
      · rw[Zjx h2];rw[e1]at h2;exact List.eq_nil_of_length_eq_zero h2.symm
      · rw[Zdq h2,e1];exact Zjg
     rw[if_pos e3]
     have e4:Zco (10 :: v)=Zco v:=Zhm (by decide) v
     rw[←e4]
     by_cases h0:l=[]
     · subst h0;rfl
     · have hl:0 < l.length:=List.length_pos_iff.2 h0
       have hle:=Zjh (10 :: v)
       rw[Zdq (by rw[e2];simp only[List.length_append];omega),e2]
       by_cases h5:(Zec (10 :: v)).length=(10 :: v).length
       · rw[Zlv h5]
       · rw[Zdq h5]
theorem lit_app:∀ (k:Nat) (r acc:List UInt8) (i:Nat) (x:List UInt8) (n:Nat) (u:List UInt8),r.length≤k→Zia r acc i=some (x,n,true)→Zia (r ++ u) acc i=some (x,n,true):=by
 intro k
 induction k with
 | zero=>
   intro r acc i x n u h h2
   obtain rfl:r=[]:=List.eq_nil_of_length_eq_zero (by omega)
   rw[Zia.eq_def]at h2
   simp at h2
 | succ k ih=>
   intro r acc i x n u h h2
   match r with
   | []=>rw[Zia.eq_def]at h2;simp at h2
   | b :: r=>
     rw[List.cons_append]
     rw[Zia.eq_def]at h2 ⊢
     simp only[]at h2 ⊢
     split
     · next h34=>rw[if_pos h34]at h2;exact h2
     · next h34=>
       rw[if_neg h34]at h2
       split
       · next h92=>
         rw[if_pos h92]at h2
         match r with
         | []=>cases h2
         | c :: r'=>
           rw[List.cons_append]
           simp only[]at h2 ⊢
           cases he:escL c with
           | none=>rw[he]at h2;cases h2
           | some y=>
             rw[he]at h2
             simp only[]at h2 ⊢
             exact ih r' _ _ x n u (by simp only[List.length_cons]at h;omega) h2
       · next h92=>
         rw[if_neg h92]at h2
         split
         · next h10=>rw[if_pos h10]at h2;cases h2
         · next h10=>
           rw[if_neg h10]at h2
           exact ih r _ _ x n u (by simp only[List.length_cons]at h;omega) h2
theorem cls10:Zey 6 10=false∧Zey 4 10=false∧Zey 2 10=false:=by decide
theorem two_app (b:UInt8) (r v:List UInt8):Zcc.contains ((b :: (r ++ 10 :: v)).take 2)=Zcc.contains ((b :: r).take 2):=by
 cases r with
 | nil=>
   have h1:∀ s ∈ Zcc,s ≠ [b,10]:=by
    intro s hs e
    subst e
    revert hs
    simp[Zcc]
   have h2:∀ s ∈ Zcc,s ≠ [b]:=by
    intro s hs e
    have:=(Ziq s hs).1
    rw[e]at this
    simp at this
   have e1:Zcc.contains [b,10]=false:=by
    cases hq:Zcc.contains [b,10] with
    | false=>rfl
    | true=>exact absurd rfl (h1 [b,10] (by simpa using hq))
   have e2:Zcc.contains [b]=false:=by
    cases hq:Zcc.contains [b] with
    | false=>rfl
    | true=>exact absurd rfl (h2 [b] (by simpa using hq))
   show Zcc.contains [b,10]=Zcc.contains [b]
   rw[e1,e2]
 | cons c r=>rfl
theorem next_app {l v:List UInt8} {t:Tok} {n:Nat} (h:Zdb l=.ok (t,n)):Zdb (l ++ 10 :: v)=.ok (t,n):=by
 cases l with
 | nil=>cases h
 | cons b r=>
   have hs6:Zba 6 (b :: r ++ 10 :: v)=Zba 6 (b :: r):=Zsc cls10.1
   have hs4:Zba 4 (b :: r ++ 10 :: v)=Zba 4 (b :: r):=Zsc cls10.2.1
   have h6:=Zgg 6 (b :: r)
   have h4:=Zgg 4 (b :: r)
   have hd:((b :: r ++ 10 :: v).drop (Zba 4 (b :: r)))=(b :: r).drop (Zba 4 (b :: r)) ++ 10 :: v:=List.drop_append_of_le_length h4
   have ht4:((b :: r ++ 10 :: v).take (Zba 4 (b :: r)))=(b :: r).take (Zba 4 (b :: r)):=List.take_append_of_le_length h4
   have ht6:((b :: r ++ 10 :: v).take (Zba 6 (b :: r)))=(b :: r).take (Zba 6 (b :: r)):=List.take_append_of_le_length h6
   have hs2:Zba 2 ((b :: r).drop (Zba 4 (b :: r)) ++ 10 :: v)=Zba 2 ((b :: r).drop (Zba 4 (b :: r))):=Zsc cls10.2.2
   rw[←h]
   unfold Zdb
   rw[List.cons_append]at hs6 hs4 hd ht4 ht6 ⊢
   simp only[]
   rw[hs6,hs4,hd,ht4,ht6,hs2,two_app]
   have ht2:Zcc.contains ((b :: r).take 2)=true→(b :: (r ++ 10 :: v)).take 2=(b :: r).take 2:=by
    intro hc
    cases r with
    | nil=>
      have:=(Ziq [b] (by simpa using hc)).1
      simp at this
    | cons c r=>rfl
   unfold Zdb at h
   simp only[]at h
   split
   · rfl
   · next hl=>
     rw[if_neg hl]at h
     split
     · rfl
     · next hdg=>
       rw[if_neg hdg]at h
       split
       · next h34=>
         rw[if_pos h34]at h
         cases hq:Zia r [] 1 with
         | none=>rw[hq]at h;cases h
         | some y=>
           obtain ⟨x,m,c⟩:=y
           cases c with
           | false=>rw[hq]at h;simp at h
           | true=>rw[lit_app r.length r [] 1 x m (10 :: v) (Nat.le_refl _) hq]
       · next h34=>
         split
         · next hc=>rw[ht2 hc]
         · rfl
theorem cutG_app:∀ (n N:Nat) (l v:List UInt8) (ts:List Tok),l.length≤n→Zqo N (Zco l)=.ok ts→Zqo (N+(10 :: v).length) (Zco (l ++ 10 :: v))=addT ts (Zqo (N+(10 :: v).length) (Zco v)):=by
 intro n
 induction n with
 | zero=>
   intro N l v ts h h2
   obtain rfl:l=[]:=List.eq_nil_of_length_eq_zero (by omega)
   rw[Zjg,Zks]at h2
   cases h2
   rw[Zzh 0 [] v (Nat.le_refl _),if_pos Zjg]
   cases Zqo (N+(10 :: v).length) (Zco v) <;> rfl
 | succ n ih=>
   intro N l v ts h h2
   rw[Zzh l.length l v (Nat.le_refl _)]
   by_cases h0:Zco l=[]
   · rw[h0,Zks]at h2
     cases h2
     rw[if_pos h0]
     cases Zqo (N+(10 :: v).length) (Zco v) <;> rfl
   · rw[if_neg h0]
     have hlen:=Zhf l
     obtain ⟨q,hq⟩:∃ q,q=Zco l:=⟨_,rfl⟩
     rw[←hq]at h0 h2 hlen ⊢
     cases hn:Zdb q with
     | error e=>rw[Ztj h0 hn]at h2;cases h2
     | ok y=>
       obtain ⟨t,m⟩:=y
       rw[Zke h0 hn]at h2
       obtain ⟨hm0,hm1,-⟩:=Zkk hn
       cases hr:Zqo N (Zco (q.drop m)) with
       | error e=>rw[hr]at h2;cases h2
       | ok ts'=>
         rw[hr]at h2
         cases h2
         have hi:=ih N (q.drop m) v ts' (by rw[List.length_drop];omega) hr
         rw[Zke (t:=t) (n:=m) (by simp) (next_app hn),List.drop_append_of_le_length hm1,hi,Zwp]
         have e9:N+(10 :: v).length - (q ++ 10 :: v).length=N - q.length:=by
          simp only[List.length_append]
          omega
         rw[e9]
theorem cutG_at:∀ (n N M:Nat) (l:List UInt8) (ts:List Tok),l.length≤n→Zqo N l=.ok ts→∃ us,Zqo M l=.ok us∧us.map Zql=ts.map Zql:=by
 intro n
 induction n with
 | zero=>
   intro N M l ts h h2
   obtain rfl:l=[]:=List.eq_nil_of_length_eq_zero (by omega)
   rw[Zks]at h2 ⊢
   exact ⟨ts,h2,rfl⟩
 | succ n ih=>
   intro N M l ts h h2
   by_cases h0:l=[]
   · subst h0
     rw[Zks]at h2 ⊢
     exact ⟨ts,h2,rfl⟩
   · cases hn:Zdb l with
     | error e=>rw[Ztj h0 hn]at h2;cases h2
     | ok y=>
       obtain ⟨t,m⟩:=y
       rw[Zke h0 hn]at h2
       obtain ⟨hm0,hm1,-⟩:=Zkk hn
       cases hr:Zqo N (Zco (l.drop m)) with
       | error e=>rw[hr]at h2;cases h2
       | ok ts'=>
         rw[hr]at h2
         cases h2
         obtain ⟨us,h3,h4⟩:=ih N M (Zco (l.drop m)) ts' (by have:=Zhf (l.drop m);rw[List.length_drop]at this;omega) hr
         refine ⟨{ t with at_:=M - l.length } :: us,by rw[Zke h0 hn,h3];rfl,?_⟩
         simp[h4,Zql]
theorem Zwa (N:Nat):Zqo N (Zco [41])=.ok [⟨4,[41],0,N - 1⟩]:=by
 rw[show Zco [41]=[41] by decide,Zke (t:=⟨4,[41],0,0⟩) (n:=1) (by simp) rfl]
 rfl
theorem cut_behind {s:List UInt8} {ts:List Tok} (h:Zln s=.ok ts) (hl:s.length+2≤2048):Zln (s ++ [10,41])=.ok (ts ++ [⟨4,[41],0,s.length+1⟩]):=by
 rw[Zni]at h ⊢
 rw[if_neg (by omega)]at h
 rw[if_neg (by simp only[List.length_append,List.length_cons,List.length_nil];omega)]
 have:=cutG_app s.length s.length s [41] ts (Nat.le_refl _) h
 rw[Zwa]at this
 simpa [addT] using this
theorem cut_around {s:List UInt8} {ts:List Tok} (h:Zln s=.ok ts) (hl:s.length+3≤2048):∃ us,Zln (40 :: (s ++ [10,41]))=.ok us∧us.map Zql=tS [40] :: (ts.map Zql ++ [tS [41]]):=by
 rw[Zni]at h
 rw[Zni]
 rw[if_neg (by omega)]at h
 rw[if_neg (by simp only[List.length_append,List.length_cons,List.length_nil];omega)]
 rw[skip_no (by decide) (by decide)]
 obtain ⟨us,h1,h2⟩:=cutG_at _ s.length (s.length+1) (Zco s) ts (Nat.le_refl _) h
 have h3:=cutG_app s.length (s.length+1) s [41] us (Nat.le_refl _) h1
 rw[Zwa]at h3
 have hn:Zdb (40 :: (s ++ [10,41]))=.ok (⟨4,[40],0,0⟩,1):=by
  have hc:Zcc.contains ((40 :: (s ++ [10,41])).take 2)=false:=by
   cases hq:Zcc.contains ((40 :: (s ++ [10,41])).take 2) with
   | false=>rfl
   | true=>
     have:=Znq _ (by simpa using hq)
     revert this
     cases s <;> simp[Zvr]
  unfold Zdb
  simp only[]
  rw[if_neg (by decide),if_neg (by decide),if_neg (by decide),hc]
  rfl
 refine ⟨⟨4,[40],0,(40 :: (s ++ [10,41])).length - (40 :: (s ++ [10,41])).length⟩ :: (us ++ [⟨4,[41],0,s.length+1+2 - 1⟩]),?_,?_⟩
 · rw[Zke (by simp) hn]
   have e:(40 :: (s ++ [10,41])).length=s.length+1+(10 :: [41]:List UInt8).length:=by simp only[List.length_cons,List.length_append,List.length_nil]
   rw[e]
   have h4:(List.drop 1 (40 :: (s ++ [10,41])))=s ++ 10 :: [41]:=rfl
   rw[h4,h3]
   rfl
 · simp[h2,Zql,tS]
theorem Zso {s:List UInt8} {ts:List Tok} {e:Et} (h1:Zln s=.ok ts) (h2:prL ts=.ok (e,[])) (h3:Zhj e=0):Zcp s=(some e,0,0):=by
 have hr:Zei ts s.length=(some e,ts.length,0,0):=by
  unfold Zei
  rw[h2]
  simp only[]
  rw[if_pos h3]
  rfl
 unfold Zcp
 rw[h1]
 simp only[]
 rw[hr]
 simp
theorem Zit {s:List UInt8} {e:Et} {x:Int × Nat} (h:Zcp s=(some e,x)):x=(0,0)∧∃ ts,Zln s=.ok ts∧prL ts=.ok (e,[])∧Zhj e=0:=by
 unfold Zcp at h
 cases hc:Zln s with
 | error y=>rw[hc]at h;obtain ⟨k,a⟩:=y;simp at h
 | ok ts=>
   rw[hc]at h
   simp only[]at h
   cases hp:prL ts with
   | error e0=>
     have hr:Zei ts s.length=(none,0,5,Zhs e0 s.length):=by unfold Zei;rw[hp]
     rw[hr]at h
     simp at h
   | ok y=>
     obtain ⟨e1,r⟩:=y
     by_cases h0:Zhj e1=0
     · have hr:Zei ts s.length=(some e1,ts.length - r.length,0,0):=by unfold Zei;rw[hp];simp only[];rw[if_pos h0]
       rw[hr]at h
       simp only[ne_eq,not_true_eq_false,if_false]at h
       have hps:=Zzt ts
       rw[hp]at hps
       have hl:r.length+1≤ts.length:=hps.2
       by_cases h2:ts.length - r.length < ts.length
       · rw[if_pos h2]at h;simp at h
       · rw[if_neg h2]at h
         have hr0:r=[]:=List.eq_nil_of_length_eq_zero (by omega)
         simp only[Prod.mk.injEq,Option.some.injEq]at h
         obtain ⟨h4,h5⟩:=h
         subst h4
         refine ⟨h5.symm,ts,rfl,by rw[hp,hr0],h0⟩
     · have hr:Zei ts s.length=(none,0,Zhj e1,Zhs ts s.length):=by unfold Zei;rw[hp];simp only[];rw[if_neg h0]
       rw[hr]at h
       simp only[ne_eq,h0,not_false_eq_true,if_true]at h
       simp at h
theorem Zzw {N:Nat} {ts:List Tok} (h:∀ t ∈ ts,t.at_≤N):Zhs ts N≤N:=by
 cases ts with
 | nil=>exact Nat.le_refl _
 | cons t ts=>exact h t (by simp)
theorem Zrh {s:List UInt8} {x:Int × Nat} (h:Zcp s=(none,x)):x.1 ≠ 0∧x.2≤s.length:=by
 unfold Zcp at h
 cases hc:Zln s with
 | error y=>
   rw[hc]at h
   obtain ⟨k,a⟩:=y
   have:=cut_no hc
   simp only[Prod.mk.injEq,true_and]at h
   subst h
   exact this
 | ok ts=>
   rw[hc]at h
   simp only[]at h
   obtain ⟨hl1,hl2,hl3⟩:=Zti hc
   have hat:∀ t ∈ ts,t.at_≤s.length:=fun t ht=>(hl3 t ht).2.2.2.2
   cases hp:prL ts with
   | error e0=>
     have hr:Zei ts s.length=(none,0,5,Zhs e0 s.length):=by unfold Zei;rw[hp]
     have hsf:e0 <:+ ts:=by have:=Zzt ts;rw[hp]at this;exact this
     rw[hr]at h
     simp at h
     subst h
     exact ⟨by simp,Zzw fun t ht=>hat t (hsf.subset ht)⟩
   | ok y=>
     obtain ⟨e1,r⟩:=y
     by_cases h0:Zhj e1=0
     · have hr:Zei ts s.length=(some e1,ts.length - r.length,0,0):=by unfold Zei;rw[hp];simp only[];rw[if_pos h0]
       rw[hr]at h
       simp only[ne_eq,not_true_eq_false,if_false]at h
       by_cases h2:ts.length - r.length < ts.length
       · rw[if_pos h2]at h
         simp only[Prod.mk.injEq,true_and]at h
         subst h
         refine ⟨by simp,?_⟩
         rw[List.getD_eq_getElem?_getD,List.getElem?_eq_getElem h2]
         exact hat _ (List.getElem_mem h2)
       · rw[if_neg h2]at h
         simp at h
     · have hr:Zei ts s.length=(none,0,Zhj e1,Zhs ts s.length):=by unfold Zei;rw[hp];simp only[];rw[if_neg h0]
       rw[hr]at h
       simp only[ne_eq,h0,not_false_eq_true,if_true]at h
       simp only[Prod.mk.injEq,true_and]at h
       subst h
       exact ⟨h0,Zzw hat⟩
theorem Zri {s:List UInt8} (h:2048 < s.length):Zcp s=(none,3,0):=by
 unfold Zcp
 rw[Zni,if_pos h]
theorem Zrg {e:Et} (h:Zhj e=0) (hn:okN e=true):Zcp (Zao e)=if (Zao e).length≤2048 then (some e,0,0) else (none,3,0):=by
 split
 · next hl=>
   obtain ⟨ts,h1,h2⟩:=read_show (Zwe h).1 hn hl
   exact Zso h1 h2 h
 · next hl=>exact Zri (by omega)
theorem par_all {ts:List Tok} {e:Et} (h:prL ts=.ok (e,[])):prL (tS [40] :: (ts ++ [tS [41]]))=.ok (e,[]):=by
 have h1:=Zpm ts
 rw[h]at h1
 have h2:=pr_mv (g:=fun t=>t) (x:=[tS [41]]) (fun _=>rfl) (fun _=>rfl) (fun _=>rfl) (fun t x' q=>by cases q;exact ⟨rfl,rfl⟩) _ _ _ _ _ h1
 have e1:mv (fun t=>t) [tS [41]] ts=ts ++ tS [41] :: []:=by unfold mv;rw[List.map_id']
 have e2:mv (fun t=>t) [tS [41]] []=tS [41] :: []:=rfl
 rw[e1,e2]at h2
 have h3:Rd0 .expr (ts ++ tS [41] :: []) e (tS [41] :: []):=⟨_,h2⟩
 have ho:∀ j,Off j []:=fun j t r' q=>by cases q
 have h4:=Zgi (par7 h3) e [] (mem_end (ho 5))
 have h5:=up_expr (Znp (Nat.le_refl 5) (Nat.zero_le 5) (up_un h4 rfl rfl) (ho 0)) rfl
 obtain ⟨f,hf⟩:=h5
 exact Zzu hf
theorem Zuy {s:List UInt8} {e:Et} {x:Int × Nat} (h:Zcp s=(some e,x)) (hl:s.length+3≤2048):Zcp (40 :: (s ++ [10,41]))=(some e,0,0):=by
 obtain ⟨-,ts,h1,h2,h3⟩:=Zit h
 obtain ⟨us,h4,h5⟩:=cut_around h1 hl
 obtain ⟨r',h6,h7⟩:=Zsk (ts:=tS [40] :: (ts ++ [tS [41]])) (us:=us) (by rw[h5];simp[Zql,tS]) (par_all h2)
 obtain rfl:r'=[]:=by cases r' <;> simp_all
 exact Zso h4 h6 h3
theorem Zux {s:List UInt8} {e:Et} {x:Int × Nat} (h:Zcp s=(some e,x)) (hl:s.length+3≤2048):∃ a,Zcp (s ++ [10,41])=(none,5,a):=by
 obtain ⟨-,ts,h1,h2,h3⟩:=Zit h
 have h4:=cut_behind h1 (by omega)
 have h5:=Zpm ts
 rw[h2]at h5
 have h6:=pr_mv (g:=fun t=>t) (x:=[⟨4,[41],0,s.length+1⟩]) (fun _=>rfl) (fun _=>rfl) (fun _=>rfl) (fun t x' q=>by cases q;exact ⟨rfl,rfl⟩) _ _ _ _ _ h5
 have e1:mv (fun t=>t) [⟨4,[41],0,s.length+1⟩] ts=ts ++ [⟨4,[41],0,s.length+1⟩]:=by unfold mv;rw[List.map_id']
 rw[e1]at h6
 have h7:=Zzu h6
 have hr:Zei (ts ++ [⟨4,[41],0,s.length+1⟩]) (s ++ [10,41]).length=(some e,ts.length,0,0):=by
  unfold Zei
  rw[h7]
  simp only[]
  rw[if_pos h3]
  simp[mv]
 refine ⟨((ts ++ [(⟨4,[41],0,s.length+1⟩:Tok)]).getD ts.length Zan).at_,?_⟩
 unfold Zcp
 rw[h4]
 simp only[]
 rw[hr]
 simp only[ne_eq,not_true_eq_false,if_false]
 rw[if_pos (by simp)]
theorem Zow (m:Nat) (l:List UInt8):l.take (Zba m l)=l.takeWhile (Zey m):=by
 unfold Zba
 induction l with
 | nil=>rfl
 | cons b l ih=>
   rw[List.takeWhile_cons]
   split
   · rw[List.length_cons,List.take_succ_cons,ih]
   · rfl
theorem Zst {p:UInt8→Bool} {l:List UInt8} {b:UInt8} (h:b ∈ l.takeWhile p):p b=true:=by
 induction l with
 | nil=>cases h
 | cons c l ih=>
   rw[List.takeWhile_cons]at h
   split at h
   · next hc=>
     rcases List.mem_cons.1 h with rfl|h
     · exact hc
     · exact ih h
   · cases h
theorem next_tokOk {l:List UInt8} {t:Tok} {n:Nat} (h:Zdb l=.ok (t,n)):Zfj t:=by
 cases l with
 | nil=>cases h
 | cons b r=>
   rcases Zpq h with ⟨hl,rfl,_⟩|⟨_,hd,x,hx,rfl,_⟩|⟨_,x,m,_,hv,hlen,rfl,_⟩|⟨h2,rfl,_⟩|⟨h1,rfl,_⟩
   · have hc:Zey 6 b=true:=by rw[(Zjb b).2.2.2.2.2.2.2.1,hl];rfl
     have e:(b :: r).take (Zba 6 (b :: r))=b :: r.takeWhile (Zey 6):=by rw[Zow,List.takeWhile_cons,if_pos hc]
     refine .inl ⟨rfl,rfl,?_,?_,?_⟩
     · show (b :: r).take (Zba 6 (b :: r)) ≠ []
       rw[e];simp
     · show Zhd (((b :: r).take (Zba 6 (b :: r))).headD 0)=true
       rw[e];exact hl
     · show ((b :: r).take (Zba 6 (b :: r))).all _=true
       rw[List.all_eq_true]
       intro c hcm
       rw[Zow]at hcm
       have:=Zst hcm
       rw[(Zjb c).2.2.2.2.2.2.2.1]at this
       exact this
   · have hc:Zey 4 b=true:=by rw[(Zjb b).2.2.2.2.2.1];exact hd
     have e:(b :: r).take (Zba 4 (b :: r))=b :: r.takeWhile (Zey 4):=by rw[Zow,List.takeWhile_cons,if_pos hc]
     rw[e]at hx
     have hb45:b.toNat ≠ 45:=by
      intro hb
      unfold Zgz at hd
      simp at hd
      omega
     refine .inr (.inl ⟨rfl,rfl,?_,(Zli hx).2⟩)
     unfold Lib.parseIntB at hx
     simp only[hb45,or_false,not_false_eq_true,true_and,false_and,if_false]at hx
     split at hx
     · cases hx
     · cases hx
     · split at hx
       · cases hx
       · cases hx
         exact Int.natCast_nonneg _
   · exact .inr (.inr (.inl ⟨rfl,rfl,hv,hlen⟩))
   · exact .inr (.inr (.inr ⟨rfl,rfl,.inl h2⟩))
   · exact .inr (.inr (.inr ⟨rfl,rfl,.inr ⟨b,rfl,h1⟩⟩))
theorem tokOk_at {t:Tok} (h:Zfj t) (a:Nat):Zfj { t with at_:=a }:=h
theorem cutF_tokOk:∀ (f N:Nat) (l:List UInt8) (ts:List Tok),Zrq f N l=.ok ts→∀ t ∈ ts,Zfj t:=by
 intro f
 induction f with
 | zero=>intro N l ts h;cases h;exact fun t h=>by cases h
 | succ f ih=>
   intro N l ts h
   rw[Zrq]at h
   split at h
   · cases h;exact fun t h=>by cases h
   · split at h
     · cases h
     · next t n hn=>
       split at h
       · next ts' hr=>
         cases h
         intro u hu
         rcases List.mem_cons.1 hu with rfl|hu
         · exact tokOk_at (next_tokOk hn) _
         · exact ih _ _ _ hr u hu
       · cases h
theorem Zvz {s:List UInt8} {ts:List Tok} (h:Zln s=.ok ts):∀ t ∈ ts,Zfj t:=by
 unfold Zln at h
 split at h
 · cases h
 · exact cutF_tokOk _ _ _ _ h
def Zsg:List (List UInt8):=[[32],[10],[47,47,41,10],[9,32]]
theorem skp_note:Skp [47,47,41,10]:=by
 intro l
 have hs:Zba 1 (47 :: 47 :: 41 :: 10 :: l)=0:=by
  unfold Zba
  rw[List.takeWhile_cons,show Zey 1 47=false by decide]
  rfl
 have e:Zec (47 :: 47 :: 41 :: 10 :: l)=10 :: l:=by
  unfold Zec
  simp only[]
  rw[hs]
  rfl
 show Zco (47 :: 47 :: 41 :: 10 :: l)=Zco l
 rw[Zdq (by rw[e];simp),e]
 exact Zhm (by decide) l
theorem Zul:∀ x ∈ Zsg,Skp x∧∃ c r,x=c :: r∧Zhd c=false∧Zgz c=false∧∀ b,Zcc.contains [b,c]=false:=by
 intro x hx
 simp only[Zsg,List.mem_cons,List.not_mem_nil,or_false]at hx
 have hno:∀ c:UInt8,(∀ s ∈ Zcc,s.getD 1 0 ≠ c)→∀ b,Zcc.contains [b,c]=false:=fun c h b=>by
  cases hq:Zcc.contains [b,c] with
  | false=>rfl
  | true=>exact absurd rfl (h [b,c] (by simpa using hq))
 rcases hx with rfl|rfl|rfl|rfl
 · exact ⟨skp_bl,32,[],rfl,by decide,by decide,hno 32 (by decide)⟩
 · exact ⟨fun l=>Zhm (by decide) l,10,[],rfl,by decide,by decide,hno 10 (by decide)⟩
 · exact ⟨skp_note,47,_,rfl,by decide,by decide,hno 47 (by decide)⟩
 · exact ⟨fun l=>by show Zco (9 :: 32 :: l)=_;rw[Zhm (by decide),Zhm (by decide)],9,[32],rfl,by decide,by decide,hno 9 (by decide)⟩
def pcsT (sep:List UInt8):List UInt8→List Tok→Pcs
 | _,[]=>[]
 | s0,t :: ts=>(s0,t) :: pcsT sep sep ts
def Zfc (sep:List UInt8) (ts:List Tok):List UInt8:=ts.flatMap fun t=>Zbw t ++ sep
theorem Zsm (sep:List UInt8):∀ (ts:List Tok) (s0:List UInt8),ts ≠ []→txt (pcsT sep s0 ts) ++ sep=s0 ++ Zfc sep ts
 | [],_,h=>absurd rfl h
 | [t],s0,_=>by simp[pcsT,txt,Zfc]
 | t :: u :: ts,s0,_=>by
   rw[pcsT,Zje,List.append_assoc,List.append_assoc,Zsm sep (u :: ts) sep (by simp)]
   simp[Zfc,List.append_assoc]
theorem Zzz (sep:List UInt8):∀ (ts:List Tok) (s0:List UInt8),(pcsT sep s0 ts).map (fun p=>Zql p.2)=ts.map Zql
 | [],_=>rfl
 | t :: ts,s0=>by rw[pcsT,List.map_cons,List.map_cons,Zzz sep ts sep]
theorem Zre {sep:List UInt8} (hs:sep ∈ Zsg):∀ (ts:List Tok) (s0:List UInt8),Skp s0→(∀ t ∈ ts,Zfj t)→Zil (pcsT sep s0 ts) sep
 | [],_,_,_=>trivial
 | t :: ts,s0,h0,ht=>by
   obtain ⟨h1,c,r,e,h2,h3,h4⟩:=Zul sep hs
   have hx:∃ r',txt (pcsT sep sep ts) ++ sep=c :: r':=by
    cases ts with
    | nil=>exact ⟨r,by rw[pcsT,e];rfl⟩
    | cons u us=>exact ⟨_,by rw[Zsm sep _ _ (by simp),e];rfl⟩
   obtain ⟨r',hr'⟩:=hx
   refine ⟨h0,ht t (by simp),?_,Zre hs ts sep h1 fun u hu=>ht u (by simp[hu])⟩
   rw[hr']
   refine ⟨fun _ d r2 q=>by cases q;exact ⟨h2,h3⟩,fun _ hl=>?_⟩
   obtain ⟨b,hb⟩:=len1 hl
   rw[hb]
   exact h4 b
theorem Zxq {s sep:List UInt8} {e:Et} {x:Int × Nat} {ts:List Tok} (hs:sep ∈ Zsg) (h:Zcp s=(some e,x)) (hc:Zln s=.ok ts) (hl:(Zfc sep ts).length≤2048):Zcp (Zfc sep ts)=(some e,0,0):=by
 obtain ⟨-,ts',h1,h2,h3⟩:=Zit h
 rw[hc]at h1
 obtain rfl:ts=ts':=by injection h1
 have hne:ts ≠ []:=by
  intro e0
  have hps:=Zzt ts
  rw[h2]at hps
  have:=hps.2
  rw[e0]at this
  simp at this
 have htx:=Zsm sep ts [] hne
 rw[List.nil_append]at htx
 have hsk:Zco sep=[]:=by
  have:=(Zul sep hs).1 []
  rw[List.append_nil]at this
  rw[this,Zjg]
 obtain ⟨us,h4,h5⟩:=cut_txt hsk (Zre hs ts [] skp_nil (Zvz hc)) (by rw[htx];exact hl)
 rw[htx]at h4
 rw[Zzz]at h5
 obtain ⟨r',h6,h7⟩:=Zsk h5.symm h2
 obtain rfl:r'=[]:=by cases r' <;> simp_all
 exact Zso h4 h6 h3
theorem cut_one {t:Tok} (ht:Zfj t) (hl:(Zbw t).length≤2048):Zln (Zbw t)=.ok [{ t with at_:=0 }]:=by
 rw[Zni,if_neg (by omega)]
 have h1:=Zzg ht []
 rw[List.append_nil]at h1
 have hnx:Zif t []:=by
  refine ⟨fun _ c r' q=>(by cases q),fun _ hl1=>?_⟩
  rw[List.append_nil]
  cases hq:Zcc.contains (t.t.take 2) with
  | false=>rfl
  | true=>
    have h9:=(Ziq _ (by simpa using hq)).1
    rw[List.length_take]at h9
    omega
 have h2:=next_tok (r:=[]) ht hnx
 rw[List.append_nil]at h2
 have hp:=Zwz ht
 rw[h1,Zke (by intro e;rw[e]at hp;simp at hp) h2,List.drop_length,Zjg,Zks]
 simp[addT]
theorem Zou {N:Nat} {t:Tok} (ht:Zfj t) (hN:t.t.length≤N):(Zbw t).length≤max N 514:=by
 rcases ht with ⟨hk,hn,h1,h2,h3⟩|⟨hk,hx,h1,h2⟩|⟨hk,hn,h1,h2⟩|⟨hk,hn,h1⟩
 · unfold Zbw;rw[if_neg (by omega),if_neg (by omega)];omega
 · unfold Zbw;rw[if_pos hk];have:=(itoa_len h1 h2).2;omega
 · unfold Zbw;rw[if_neg (by omega),if_pos hk];have:=Zkb t.t;omega
 · unfold Zbw;rw[if_neg (by omega),if_neg (by omega)];omega
end Go.Proofs.YtnhooehmcggmdaaGreatDoor
