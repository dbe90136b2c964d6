/- Parts of a proof about the given program: XCut1. -/
import Derived.Lib.ItoaNum
import Derived.Test.YtnhooehmcggmdaaGreatDoorZ03
namespace Go.Proofs.YtnhooehmcggmdaaGreatDoor
set_option maxHeartbeats 16000000
set_option linter.unusedVariables false
set_option linter.unusedSimpArgs false
set_option linter.unusedSectionVars false
def Znx (b:UInt8):List UInt8:=if b.toNat=34 then [92,34] else if b.toNat=92 then [92,92] else if b.toNat=10 then [92,110] else if b.toNat=9 then [92,116] else if b.toNat=0 then [92,48] else [b]
def Zpy:List UInt8→List UInt8
 | []=>[]
 | [b]=>Znx b
 | b :: c :: r=>if b.toNat=92∧c.toNat=42 then 92 :: 42 :: Zpy r else Znx b ++ Zpy (c :: r)
def Zbi (s:List UInt8):List UInt8:=34 :: (Zpy s ++ [34])
def Zbw (t:Tok):List UInt8:=if t.k=2 then Lib.itoa t.n else if t.k=3 then Zbi t.t else t.t
def Zfj (t:Tok):Prop:=
 (t.k=1∧t.n=0∧t.t ≠ []∧Zhd (t.t.headD 0)=true∧t.t.all (fun b=>Zhd b || Zgz b)=true)∨(t.k=2∧t.t=[]∧0≤t.n∧t.n≤9223372036854775807) ∨
 (t.k=3∧t.n=0∧Lib.validD t.t=true∧t.t.length≤256)∨(t.k=4∧t.n=0∧(Zcc.contains t.t=true∨∃ b,t.t=[b]∧Zew.contains b=true))
def Zif (t:Tok) (r:List UInt8):Prop:=
 (t.k=1∨t.k=2→∀ c r',r=c :: r'→Zhd c=false∧Zgz c=false)∧(t.k=4→t.t.length=1→Zcc.contains ((t.t ++ r).take 2)=false)
theorem cls_tab:∀ n:Fin 256,(Zhd (UInt8.ofNat n.val)=true→Zqc (UInt8.ofNat n.val)=2)∧(Zgz (UInt8.ofNat n.val)=true→Zqc (UInt8.ofNat n.val)=4∧Zhd (UInt8.ofNat n.val)=false)∧(Zga (UInt8.ofNat n.val)=true→Zqc (UInt8.ofNat n.val)=1) ∧
 (Zhd (UInt8.ofNat n.val)=false→Zgz (UInt8.ofNat n.val)=false→Zey 6 (UInt8.ofNat n.val)=false)∧(Zga (UInt8.ofNat n.val)=false→Zey 1 (UInt8.ofNat n.val)=false)∧(Zey 4 (UInt8.ofNat n.val)=Zgz (UInt8.ofNat n.val))∧(Zey 2 (UInt8.ofNat n.val)=Zhd (UInt8.ofNat n.val))∧Zey 6 (UInt8.ofNat n.val)=(Zhd (UInt8.ofNat n.val) || Zgz (UInt8.ofNat n.val))∧Zey 1 (UInt8.ofNat n.val)=Zga (UInt8.ofNat n.val):=by decide +kernel
theorem Zjb (b:UInt8):(Zhd b=true→Zqc b=2)∧(Zgz b=true→Zqc b=4∧Zhd b=false)∧(Zga b=true→Zqc b=1) ∧
 (Zhd b=false→Zgz b=false→Zey 6 b=false)∧(Zga b=false→Zey 1 b=false)∧Zey 4 b=Zgz b∧Zey 2 b=Zhd b∧Zey 6 b=(Zhd b || Zgz b)∧Zey 1 b=Zga b:=by
 have h:=cls_tab ⟨b.toNat,b.toNat_lt⟩
 have e:UInt8.ofNat b.toNat=b:=by simp
 simp only[e]at h
 exact h
theorem Zsd {m:Nat} {x r:List UInt8} (hx:∀ b ∈ x,Zey m b=true) (hr:∀ c r',r=c :: r'→Zey m c=false):Zba m (x ++ r)=x.length:=by
 unfold Zba
 induction x with
 | nil=>
   cases r with
   | nil=>rfl
   | cons c r=>rw[List.nil_append,List.takeWhile_cons,hr c r rfl];rfl
 | cons b x ih=>
   rw[List.cons_append,List.takeWhile_cons,hx b (by simp)]
   simp only[if_true,List.length_cons]
   rw[ih fun c hc=>hx c (by simp[hc])]
theorem dec_fin:∀ n:Fin 10,Zgz (UInt8.ofNat (48+n.val))=true∧(UInt8.ofNat (48+n.val)).toNat=48+n.val:=by decide
theorem Zyh (n:Nat) (h:n < 10):Zgz (UInt8.ofNat (48+n))=true∧(UInt8.ofNat (48+n)).toNat=48+n:=dec_fin ⟨n,h⟩
theorem Zhi:∀ (k u:Nat),u < k→(∀ b ∈ Lib.decDigits u,Zgz b=true)∧Lib.decDigits u ≠ []∧(10≤u→∃ c r,Lib.decDigits u=c :: r∧c.toNat ≠ 48)∧(0 < u→∃ c r,Lib.decDigits u=c :: r∧c.toNat ≠ 48):=by
 intro k
 induction k with
 | zero=>intro u h;omega
 | succ k ih=>
   intro u h
   rw[Lib.decDigits]
   by_cases h10:u < 10
   · rw[dif_pos h10]
     have:=Zyh u h10
     refine ⟨fun b hb=>by rw[List.mem_singleton.1 hb];exact this.1,by simp,fun h=>by omega,fun h=>⟨_,_,rfl,by rw[this.2];omega⟩⟩
   · rw[dif_neg h10]
     obtain ⟨h1,h2,h3,h4⟩:=ih (u / 10) (by omega)
     have hd:=Zyh (u % 10) (Nat.mod_lt _ (by decide))
     obtain ⟨c,r,e,hc⟩:=h4 (by omega)
     refine ⟨fun b hb=>?_,by simp,fun _=>⟨c,r ++ [UInt8.ofNat (48+u % 10)],by rw[e];rfl,hc⟩,fun _=>⟨c,r ++ [UInt8.ofNat (48+u % 10)],by rw[e];rfl,hc⟩⟩
     rcases List.mem_append.1 hb with hb|hb
     · exact h1 b hb
     · rw[List.mem_singleton.1 hb];exact hd.1
theorem Zrf (M:Nat):∀ (l:List UInt8) (acc v:Nat) (d:Nat),Lib.parseUintM M acc l=.ok v→d < 10→v < 1844674407370955162→v * 10+d≤M→Lib.parseUintM M acc (l ++ [UInt8.ofNat (48+d)])=.ok (v * 10+d):=by
 intro l
 induction l with
 | nil=>
   intro acc v d h hd hv hm
   cases h
   have:=(Zyh d hd).2
   show Lib.parseUintM M acc [UInt8.ofNat (48+d)]=_
   rw[Lib.parseUintM,this,if_pos (by omega),if_neg (by omega),if_neg (by omega),Lib.parseUintM]
   congr 1
   omega
 | cons c l ih=>
   intro acc v d h hd hv hm
   rw[List.cons_append]
   rw[Lib.parseUintM]at h ⊢
   split at h
   · next h1=>
     rw[if_pos h1]
     split at h
     · cases h
     · next h2=>
       rw[if_neg h2]
       split at h
       · cases h
       · next h3=>
         rw[if_neg h3]
         exact ih _ _ _ h hd hv hm
   · cases h
theorem parse_dec:∀ (k u:Nat),u < k→u≤18446744073709551615→Lib.parseUintM 18446744073709551615 0 (Lib.decDigits u)=.ok u:=by
 intro k
 induction k with
 | zero=>intro u h;omega
 | succ k ih=>
   intro u h hu
   rw[Lib.decDigits]
   by_cases h10:u < 10
   · rw[dif_pos h10]
     have:=Zrf 18446744073709551615 [] 0 0 u rfl h10 (by omega) (by omega)
     rw[List.nil_append]at this
     rw[this]
     congr 1
     omega
   · rw[dif_neg h10]
     have:=Zrf 18446744073709551615 _ 0 (u / 10) (u % 10) (ih (u / 10) (by omega) (by omega)) (Nat.mod_lt _ (by decide)) (by omega) (by omega)
     rw[this]
     congr 1
     omega
theorem parse_itoa {n:Int} (h0:0≤n) (h1:n≤9223372036854775807):Lib.parseIntB 64 (Lib.itoa n)=.ok n:=by
 obtain ⟨u,rfl⟩:∃ u:Nat,n=(u:Int):=⟨n.toNat,by omega⟩
 have e:Lib.itoa (u:Int)=Lib.decDigits u:=by unfold Lib.itoa;rw[if_neg (by omega)];rfl
 rw[e]
 obtain ⟨a1,a2,_,_⟩:=Zhi (u+1) u (by omega)
 have hp:=parse_dec (u+1) u (by omega) (by omega)
 cases hq:Lib.decDigits u with
 | nil=>exact absurd hq a2
 | cons c r=>
   have hc:Zgz c=true:=a1 c (by rw[hq];simp)
   unfold Zgz at hc
   have hc2:=of_decide_eq_true hc
   unfold Lib.parseIntB
   simp only[]
   rw[if_neg (by omega),←hq]
   unfold Lib.parseUintB
   rw[if_neg a2,show (2:Nat) ^ 64 - 1=18446744073709551615 by decide,hp]
   simp only[]
   rw[if_neg (by omega),if_neg (by omega),if_neg (by omega)]
theorem lit_esc1 (b:UInt8) (r acc:List UInt8) (n:Nat) (h:¬ (b.toNat=92∧∃ c r',r=c :: r'∧False)):Zia (Znx b ++ r) acc n=Zia r (acc ++ [b]) (n+(Znx b).length):=by
 unfold Znx
 by_cases h1:b.toNat=34
 · rw[if_pos h1]
   obtain rfl:b=34:=UInt8.toNat_inj.1 h1
   rfl
 rw[if_neg h1]
 by_cases h2:b.toNat=92
 · rw[if_pos h2]
   obtain rfl:b=92:=UInt8.toNat_inj.1 h2
   rfl
 rw[if_neg h2]
 by_cases h3:b.toNat=10
 · rw[if_pos h3]
   obtain rfl:b=10:=UInt8.toNat_inj.1 h3
   rfl
 rw[if_neg h3]
 by_cases h4:b.toNat=9
 · rw[if_pos h4]
   obtain rfl:b=9:=UInt8.toNat_inj.1 h4
   rfl
 rw[if_neg h4]
 by_cases h5:b.toNat=0
 · rw[if_pos h5]
   obtain rfl:b=0:=UInt8.toNat_inj.1 h5
   rfl
 rw[if_neg h5]
 show Zia (b :: r) acc n=_
 rw[Zia.eq_def]
 simp only[]
 rw[if_neg h1,if_neg h2,if_neg h3]
 rfl
theorem lit_esc:∀ (k:Nat) (s:List UInt8),s.length≤k→∀ (r acc:List UInt8) (n:Nat),Zia (Zpy s ++ 34 :: r) acc n=some (acc ++ s,n+(Zpy s).length,true):=by
 intro k
 have hend:∀ (r acc:List UInt8) (n:Nat),Zia (34 :: r) acc n=some (acc,n,true):=fun r acc n=>by
  rw[Zia.eq_def]
  simp only[]
  rw[if_pos (by decide)]
 induction k with
 | zero=>
   intro s h r acc n
   obtain rfl:s=[]:=List.eq_nil_of_length_eq_zero (by omega)
   show Zia (34 :: r) acc n=_
   rw[hend]
   simp[Zpy]
 | succ k ih=>
   intro s h r acc n
   match s with
   | []=>
     show Zia (34 :: r) acc n=_
     rw[hend]
     simp[Zpy]
   | [b]=>
     show Zia (Znx b ++ 34 :: r) acc n=_
     rw[lit_esc1 b _ _ _ (by rintro ⟨_,_,_,_,h⟩;exact h),hend]
     rfl
   | b :: c :: s=>
     rw[Zpy]
     split
     · next hbc=>
       obtain rfl:b=92:=UInt8.toNat_inj.1 hbc.1
       obtain rfl:c=42:=UInt8.toNat_inj.1 hbc.2
       show Zia (92 :: 42 :: (Zpy s ++ 34 :: r)) acc n=_
       rw[show Zia (92 :: 42 :: (Zpy s ++ 34 :: r)) acc n=Zia (Zpy s ++ 34 :: r) (acc ++ [92,42]) (n+2) from rfl,ih s (by simp at h;omega)]
       simp
       omega
     · rw[List.append_assoc,lit_esc1 b _ _ _ (by rintro ⟨_,_,_,_,h⟩;exact h),ih (c :: s) (by simp at h ⊢;omega)]
       simp
       omega
theorem Ziq:∀ s ∈ Zcc,s.length=2∧Zhd (s.headD 0)=false∧Zgz (s.headD 0)=false∧(s.headD 0).toNat ≠ 34∧Zga (s.headD 0)=false∧(s.headD 0).toNat ≠ 47:=by decide
theorem Zui:∀ b ∈ Zew,Zhd b=false∧Zgz b=false∧b.toNat ≠ 34∧Zga b=false∧b.toNat ≠ 47:=by decide
theorem next_tok {t:Tok} {r:List UInt8} (ht:Zfj t) (hr:Zif t r):Zdb (Zbw t ++ r)=.ok ({ t with at_:=0 },(Zbw t).length):=by
 obtain ⟨k,x,n,a⟩:=t
 obtain ⟨hr1,hr2⟩:=hr
 rcases ht with ⟨hk,hn,h1,h2,h3⟩|⟨hk,hx,h1,h2⟩|⟨hk,hn,h1,h2⟩|⟨hk,hn,h1⟩
 · simp only at hk hn h1 h2 h3 hr1 hr2
   subst hk hn
   show Zdb (x ++ r)=.ok (⟨1,x,0,0⟩,x.length)
   cases x with
   | nil=>exact absurd rfl h1
   | cons b x=>
     rw[List.all_eq_true]at h3
     have hs:Zba 6 (b :: x ++ r)=(b :: x).length:=Zsd (fun c hc=>by rw[(Zjb c).2.2.2.2.2.2.2.1];exact h3 c hc) fun c r' e=>(Zjb c).2.2.2.1 (hr1 (.inl rfl) c r' e).1 (hr1 (.inl rfl) c r' e).2
     have h2':Zhd b=true:=h2
     show Zdb (b :: (x ++ r))=_
     unfold Zdb
     simp only[]
     rw[if_pos h2']
     rw[show b :: (x ++ r)=b :: x ++ r from rfl,hs,List.take_left]
 · simp only at hk hx h1 h2 hr1 hr2
   subst hk hx
   show Zdb (Lib.itoa n ++ r)=.ok (⟨2,[],n,0⟩,(Lib.itoa n).length)
   have hp:=parse_itoa h1 h2
   obtain ⟨u,rfl⟩:∃ u:Nat,n=(u:Int):=⟨n.toNat,by omega⟩
   have e:Lib.itoa (u:Int)=Lib.decDigits u:=by unfold Lib.itoa;rw[if_neg (by omega)];rfl
   rw[e]at hp ⊢
   obtain ⟨a1,a2,a3,a4⟩:=Zhi (u+1) u (by omega)
   have hs:Zba 4 (Lib.decDigits u ++ r)=(Lib.decDigits u).length:=Zsd (fun c hc=>by rw[(Zjb c).2.2.2.2.2.1];exact a1 c hc) fun c r' e=>by rw[(Zjb c).2.2.2.2.2.1];exact (hr1 (.inr rfl) c r' e).2
   have hs2:Zba 2 r=0:=by
    have:=Zsd (m:=2) (x:=[]) (r:=r) (fun _ h=>by cases h) fun c r' e=>by rw[(Zjb c).2.2.2.2.2.2.1];exact (hr1 (.inr rfl) c r' e).1
    exact this
   cases hq:Lib.decDigits u with
   | nil=>exact absurd hq a2
   | cons b x=>
     have hb:Zgz b=true:=a1 b (by rw[hq];simp)
     have hlz:¬ ((b :: x).length > 1∧b.toNat=48):=by
      rintro ⟨h5,h6⟩
      by_cases hu:0 < u
      · obtain ⟨c,r',e1,e2⟩:=a4 hu
        rw[hq]at e1
        cases e1
        exact e2 h6
      · obtain rfl:u=0:=by omega
        rw[Lib.decDigits_one (by decide)]at hq
        cases hq
        simp at h5
     rw[hq]at hs hp
     show Zdb (b :: (x ++ r))=_
     unfold Zdb
     simp only[]
     rw[if_neg (by rw[((Zjb b).2.1 hb).2];decide),if_pos hb,show b :: (x ++ r)=b :: x ++ r from rfl,hs,List.take_left,hp]
     simp only[]
     rw[if_neg (by rw[List.drop_left,hs2];rintro (h|h);exact hlz h;omega)]
 · simp only at hk hn h1 h2 hr1 hr2
   subst hk hn
   show Zdb (34 :: (Zpy x ++ [34]) ++ r)=.ok (⟨3,x,0,0⟩,(34 :: (Zpy x ++ [34])).length)
   rw[List.cons_append,List.append_assoc]
   show Zdb (34 :: (Zpy x ++ 34 :: r))=_
   unfold Zdb
   simp only[]
   rw[if_neg (by decide),if_neg (by decide),if_pos (by decide),lit_esc x.length x (Nat.le_refl _) r [] 1]
   simp only[List.nil_append]
   rw[if_neg (by decide),if_neg (by rw[h1];decide),if_neg (by omega)]
   congr 2
   simp
   omega
 · simp only at hk hn h1 hr1 hr2
   subst hk hn
   show Zdb (x ++ r)=.ok (⟨4,x,0,0⟩,x.length)
   rcases h1 with h1|⟨b,rfl,h1⟩
   · obtain ⟨g1,g2,g3,g4,_,_⟩:=Ziq x (by simpa using h1)
     match x,g1 with
     | [b,c],_=>
       show Zdb (b :: c :: r)=_
       unfold Zdb
       simp only[]
       rw[if_neg (by rw[show Zhd b=false from g2];decide),if_neg (by rw[show Zgz b=false from g3];decide),if_neg (show ¬ b.toNat=34 from g4)]
       rw[show (b :: c :: r).take 2=[b,c] from rfl,if_pos h1]
       rfl
   · obtain ⟨g1,g2,g3,_,_⟩:=Zui b (by simpa using h1)
     have h5:=hr2 rfl rfl
     show Zdb (b :: r)=_
     unfold Zdb
     simp only[]
     rw[if_neg (by rw[g1];decide),if_neg (by rw[g2];decide),if_neg g3,if_neg (by rw[show b :: r=[b] ++ r from rfl,h5];decide),if_pos h1]
     rfl
theorem Zsz {t:Tok} (ht:Zfj t) (r:List UInt8):∃ b r',Zbw t ++ r=b :: r'∧Zga b=false∧b.toNat ≠ 47:=by
 have let_no:∀ b,Zhd b=true→Zga b=false∧b.toNat ≠ 47:=fun b h=>by
  unfold Zhd at h;unfold Zga
  simp only[Bool.or_eq_true,decide_eq_true_eq]at h
  exact ⟨decide_eq_false (by omega),by omega⟩
 have dig_no:∀ b,Zgz b=true→Zga b=false∧b.toNat ≠ 47:=fun b h=>by
  unfold Zgz at h;unfold Zga
  simp only[decide_eq_true_eq]at h
  exact ⟨decide_eq_false (by omega),by omega⟩
 obtain ⟨k,x,n,a⟩:=t
 rcases ht with ⟨hk,hn,h1,h2,h3⟩|⟨hk,hx,h1,h2⟩|⟨hk,hn,h1,h2⟩|⟨hk,hn,h1⟩
 · simp only at hk hn h1 h2 h3
   subst hk hn
   cases x with
   | nil=>exact absurd rfl h1
   | cons b x=>exact ⟨b,x ++ r,rfl,let_no b h2⟩
 · simp only at hk hx h1 h2
   subst hk hx
   obtain ⟨u,rfl⟩:∃ u:Nat,n=(u:Int):=⟨n.toNat,by omega⟩
   have e:Lib.itoa (u:Int)=Lib.decDigits u:=by unfold Lib.itoa;rw[if_neg (by omega)];rfl
   obtain ⟨a1,a2,a3,a4⟩:=Zhi (u+1) u (by omega)
   show ∃ b r',Lib.itoa (u:Int) ++ r=b :: r'∧_
   rw[e]
   cases hq:Lib.decDigits u with
   | nil=>exact absurd hq a2
   | cons b x=>exact ⟨b,x ++ r,rfl,dig_no b (a1 b (by rw[hq];simp))⟩
 · simp only at hk hn
   subst hk hn
   exact ⟨34,(Zpy x ++ [34]) ++ r,rfl,by decide,by decide⟩
 · simp only at hk hn h1
   subst hk hn
   rcases h1 with h1|⟨b,rfl,h1⟩
   · obtain ⟨g1,_,_,_,g5,g6⟩:=Ziq x (by simpa using h1)
     match x,g1 with
     | [b,c],_=>exact ⟨b,c :: r,rfl,g5,g6⟩
   · obtain ⟨_,_,_,g4,g5⟩:=Zui b (by simpa using h1)
     exact ⟨b,r,rfl,g4,g5⟩
theorem skip1_no {b:UInt8} {r:List UInt8} (h1:Zga b=false) (h2:b.toNat ≠ 47):Zec (b :: r)=b :: r:=by
 have hs:Zba 1 (b :: r)=0:=by
  unfold Zba
  rw[List.takeWhile_cons,(Zjb b).2.2.2.2.1 h1]
  rfl
 unfold Zec
 simp only[hs,List.drop_zero]
 rw[if_neg]
 cases r with
 | nil=>simp[List.isPrefixOf]
 | cons c r=>
   simp only[List.isPrefixOf,Bool.and_eq_true,beq_iff_eq,not_and]
   intro h
   exact absurd (by rw[←h];rfl) h2
theorem skip_no {b:UInt8} {r:List UInt8} (h1:Zga b=false) (h2:b.toNat ≠ 47):Zco (b :: r)=b :: r:=Zjx (by rw[skip1_no h1 h2])
theorem Zzg {t:Tok} (ht:Zfj t) (r:List UInt8):Zco (Zbw t ++ r)=Zbw t ++ r:=by
 obtain ⟨b,r',e,h1,h2⟩:=Zsz ht r
 rw[e]
 exact skip_no h1 h2
theorem Zjg:Zco []=[]:=by decide
end Go.Proofs.YtnhooehmcggmdaaGreatDoor
