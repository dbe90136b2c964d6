/- Parts of a proof about the given program: XCut2, XCut3, XChk1, XPr0, XPr1, XPr2. -/
import Derived.Test.YtnhooehmcggmdaaGreatDoorZ04
import Derived.Test.YtnhooehmcggmdaaGreatDoorZ22
import Derived.Test.YtnhooehmcggmdaaGreatDoorZ14
import Derived.Test.YtnhooehmcggmdaaGreatDoorZ03
import Derived.Test.YtnhooehmcggmdaaGreatDoorZ16
import Derived.Test.YtnhooehmcggmdaaGreatDoorZ15
namespace Go.Proofs.YtnhooehmcggmdaaGreatDoor
set_option maxHeartbeats 16000000
set_option linter.unusedVariables false
set_option linter.unusedSimpArgs false
set_option linter.unusedSectionVars false
abbrev Pcs:=List (List UInt8 × Tok)
def txt (ps:Pcs):List UInt8:=ps.flatMap fun p=>p.1 ++ Zbw p.2
theorem Zef (ps qs:Pcs):txt (ps ++ qs)=txt ps ++ txt qs:=by simp[txt]
theorem Zje (p:List UInt8 × Tok) (ps:Pcs):txt (p :: ps)=p.1 ++ (Zbw p.2 ++ txt ps):=by simp[txt]
def Skp (sep:List UInt8):Prop:=∀ l,Zco (sep ++ l)=Zco l
def Zil:Pcs→List UInt8→Prop
 | [],_=>True
 | (sep,t) :: ps,r=>Skp sep∧Zfj t∧Zif t (txt ps ++ r)∧Zil ps r
theorem Zcr {ps qs:Pcs} {r:List UInt8} (h1:Zil ps (txt qs ++ r)) (h2:Zil qs r):Zil (ps ++ qs) r:=by
 induction ps with
 | nil=>exact h2
 | cons p ps ih=>
   obtain ⟨a,b,c,d⟩:=h1
   exact ⟨a,b,by show Zif p.2 (txt (ps ++ qs) ++ r);rw[Zef,List.append_assoc];exact c,ih d⟩
theorem Zwz {t:Tok} (ht:Zfj t):0 < (Zbw t).length:=by
 obtain ⟨b,r,e,_,_⟩:=Zsz ht []
 rw[List.append_nil]at e
 rw[e]
 simp
theorem cutF_txt (tail:List UInt8) (htl:Zco tail=[]):∀ (ps:Pcs) (f N:Nat),Zil ps tail→ps.length < f→∃ ts,Zrq f N (Zco (txt ps ++ tail))=.ok ts∧ts.map Zql=ps.map fun p=>Zql p.2:=by
 intro ps
 induction ps with
 | nil=>
   intro f N _ hf
   refine ⟨[],?_,rfl⟩
   show Zrq f N (Zco tail)=_
   rw[htl]
   cases f with
   | zero=>rfl
   | succ f=>rw[Zrq,if_pos rfl]
 | cons p ps ih=>
   obtain ⟨sep,t⟩:=p
   intro f N h hf
   obtain ⟨h1,h2,h3,h4⟩:=h
   cases f with
   | zero=>simp at hf
   | succ f=>
     obtain ⟨ts,e1,e2⟩:=ih f N h4 (by simp at hf;omega)
     rw[Zje,List.append_assoc,List.append_assoc,h1,Zzg h2]
     have hp:=Zwz h2
     rw[Zrq,if_neg (by intro h;rw[List.append_eq_nil_iff]at h;rw[h.1]at hp;simp at hp),next_tok h2 h3]
     simp only[]
     rw[List.drop_left,e1]
     exact ⟨_,rfl,by rw[List.map_cons,e2];rfl⟩
theorem txt_len:∀ (ps:Pcs) (r:List UInt8),Zil ps r→ps.length≤(txt ps).length:=by
 intro ps
 induction ps with
 | nil=>intro r _;simp
 | cons p ps ih=>
   obtain ⟨sep,t⟩:=p
   intro r h
   have:=Zwz h.2.1
   have:=ih r h.2.2.2
   rw[Zje]
   simp only[List.length_append,List.length_cons]
   omega
theorem cut_txt {tail:List UInt8} (htl:Zco tail=[]) {ps:Pcs} (h:Zil ps tail) (hl:(txt ps ++ tail).length≤2048):∃ ts,Zln (txt ps ++ tail)=.ok ts∧ts.map Zql=ps.map fun p=>Zql p.2:=by
 unfold Zln
 rw[if_neg (by omega)]
 have:=txt_len ps tail h
 exact cutF_txt tail htl ps _ _ h (by rw[List.length_append];omega)
def Cl (r:List UInt8):Prop:=∀ c r',r=c :: r'→Zhd c=false∧Zgz c=false
theorem Cl.cons {c:UInt8} {r:List UInt8} (h1:Zhd c=false) (h2:Zgz c=false):Cl (c :: r):=fun _ _ e=>by cases e;exact ⟨h1,h2⟩
theorem Cl.nil:Cl []:=fun _ _ e=>by cases e
theorem Zfx {s r:List UInt8} (h:Cl r):Zif (tW s) r:=⟨fun _=>h,fun h=>by cases h⟩
theorem next_num {n:Int} {r:List UInt8} (h:Cl r):Zif (tN n) r:=⟨fun _=>h,fun h=>by cases h⟩
theorem Zmd (s r:List UInt8):Zif (tQ s) r:=⟨fun h=>(by rcases h with h|h <;> cases h),fun h=>(by cases h)⟩
theorem Zig {s:List UInt8} (h:s.length=2) (r:List UInt8):Zif (tS s) r:=⟨fun h=>(by rcases h with h|h <;> cases h),fun _ h'=>by rw[show (tS s).t=s from rfl]at h';omega⟩
def Zvr:List UInt8:=[61,33,60,62,38,124,58]
theorem Znq:∀ s ∈ Zcc,Zvr.contains (s.headD 0)=true:=by decide
theorem Zsr {c:UInt8} (h:Zvr.contains c=false) (r:List UInt8):Zif (tS [c]) r:=by
 refine ⟨fun h=>(by rcases h with h|h <;> cases h),fun _ _=>?_⟩
 cases hq:Zcc.contains (((tS [c]).t ++ r).take 2) with
 | false=>rfl
 | true=>
   have:=Znq _ (by simpa using hq)
   have e:(((tS [c]).t ++ r).take 2).headD 0=c:=by cases r <;> rfl
   rw[e,h]at this
   cases this
theorem Zjk {c d:UInt8} (h:Zcc.contains [c,d]=false) (r:List UInt8):Zif (tS [c]) (d :: r):=by
 refine ⟨fun h=>(by rcases h with h|h <;> cases h),fun _ _=>?_⟩
 exact h
theorem skp_nil:Skp []:=fun _=>rfl
theorem Zzj (l:List UInt8):Zco (32 :: l)=Zco l:=by
 have hs:Zba 1 (32 :: l)=Zba 1 l+1:=by
  unfold Zba
  rw[List.takeWhile_cons,show Zey 1 32=true by decide]
  rfl
 have h1:Zec (32 :: l)=Zec l:=by
  unfold Zec
  simp only[hs,List.drop_succ_cons]
 have hle:=Zjh l
 rw[Zdq (by rw[h1,List.length_cons];omega),h1]
 by_cases h:(Zec l).length=l.length
 · rw[Zlv h]
 · exact (Zdq h).symm
theorem skp_bl:Skp [32]:=fun l=>Zzj l
theorem Zme {s:List UInt8} (h:Zcu s=true):Zfj (tW s):=by
 refine .inl ⟨rfl,rfl,name_pos h,?_,?_⟩
 all_goals
  unfold Zcu at h
  simp only[Bool.and_eq_true]at h
  obtain ⟨⟨⟨⟨h1,h2⟩,h3⟩,h4⟩,h5⟩:=h
 · show Zhd (s.headD 0)=true
   cases s with
   | nil=>simp at h1
   | cons b s=>
     rw[List.all_eq_true]at h4
     have h6:=h4 b (by simp)
     have h7:Zgz b=false:=by simpa using h3
     rw[h7,Bool.or_false]at h6
     exact h6
 · exact h4
def wordB (s:List UInt8):Bool:=decide (s ≠ []) && Zhd (s.headD 0) && s.all (fun b=>Zhd b || Zgz b)
theorem Zgf {s:List UInt8} (h:wordB s=true):Zfj (tW s):=by
 unfold wordB at h
 simp only[Bool.and_eq_true]at h
 exact .inl ⟨rfl,rfl,of_decide_eq_true h.1.1,h.1.2,h.2⟩
theorem str_tok {s:ByteArray} (h1:Lib.validD s.data.toList=true) (h2:s.size≤256):Zfj (tQ s.data.toList):=.inr (.inr (.inl ⟨rfl,rfl,h1,by rw[Lib.size_eq]at h2;exact h2⟩))
theorem Zlx {s:ByteArray} (h:Zfu s=true):Zfj (tQ s.data.toList):=by
 unfold Zfu at h
 rw[Bool.and_eq_true]at h
 exact str_tok h.1 (of_decide_eq_true h.2)
theorem Zfb {c:UInt8} (h:Zew.contains c=true):Zfj (tS [c]):=.inr (.inr (.inr ⟨rfl,rfl,.inr ⟨c,rfl,h⟩⟩))
theorem Zgp {s:List UInt8} (h:Zcc.contains s=true):Zfj (tS s):=.inr (.inr (.inr ⟨rfl,rfl,.inl h⟩))
theorem Zsv {s:ByteArray} (h:Zfu s=true):Zfj (Znw s.data.toList):=by
 unfold Znw
 split
 · next h=>exact Zme h
 · exact Zlx h
theorem Zvk (s:List UInt8) {r:List UInt8} (h:Cl r):Zif (Znw s) r:=by
 unfold Znw
 split
 · exact Zfx h
 · exact Zmd _ _
def Zdi (s:List UInt8):List UInt8:=if Zcu s then s else Zbi s
def Zha (u:Bool) (k:List UInt8):List UInt8:=if u then 40 :: (k ++ [41]) else k
def Zhr:List (List UInt8)→List UInt8
 | []=>[]
 | [k]=>k
 | k :: q :: l=>k ++ 44 :: 32 :: Zhr (q :: l)
def Zrb (ns:List ByteArray) (K:List (List UInt8)):List (List UInt8):=List.zipWith (fun (x:ByteArray) k=>Zdi x.data.toList ++ 58 :: 32 :: k) ns K
def Zxz (o:Nat) (n:Int) (s t:List UInt8) (ns:List ByteArray) (K:List (List UInt8)) (u:Bool):List UInt8:=
 let k0:=K.getD 0 []
 let k1:=K.getD 1 []
 let k2:=K.getD 2 []
 if o=1 then (if n=1 then Zkv else Zhn)
 else if o=2 then Lib.itoa n
 else if o=3 then Zbi s
 else if o=4 then t ++ 58 :: 58 :: Zbi s
 else if o=5 then s
 else if o=6 then 91 :: (Zhr K ++ [93])
 else if o=7 then 123 :: (Zhr (Zrb ns K) ++ [125])
 else if o=8 then Zha u k0 ++ (if Zcu s then 46 :: s else 91 :: (Zbi s ++ [93]))
 else if o=9 then 40 :: (k0 ++ 32 :: (Zjt ++ 32 :: (Zdi s ++ [41])))
 else if o=10 then 40 :: (k0 ++ 32 :: (wIs ++ 32 :: (t ++ [41])))
 else if o=11 then 40 :: (k0 ++ 32 :: (Zel ++ 32 :: (Zbi s ++ [41])))
 else if o=12 then 33 :: k0
 else if o=13 then 45 :: k0
 else if o=14 then 40 :: (wIf ++ 32 :: (k0 ++ 32 :: (Zeu ++ 32 :: (k1 ++ 32 :: (Zem ++ 32 :: (k2 ++ [41]))))))
 else if 27≤o then Zha u k0 ++ 46 :: (Zfm o ++ 40 :: (k1 ++ [41]))
 else 40 :: (k0 ++ 32 :: (Zjn o ++ 32 :: (k1 ++ [41])))
mutual
def Zao:Et→List UInt8
 | .mk o n s t ns l=>Zxz o n s.data.toList t.data.toList ns (Zaz l) (l.head?.elim false unE)
def Zaz:List Et→List (List UInt8)
 | []=>[]
 | x :: l=>Zao x :: Zaz l
end
theorem Zge (l:List Et):Zaz l=l.map Zao:=by
 induction l with
 | nil=>rfl
 | cons x l ih=>rw[Zaz,ih];rfl
def pp (t:Tok):List UInt8 × Tok:=([],t)
def pb (t:Tok):List UInt8 × Tok:=([32],t)
def bl:Pcs→Pcs
 | []=>[]
 | (s,t) :: r=>(32 :: s,t) :: r
def tyPc (t:List UInt8):Pcs:=(tyT t).map pp
def Zoa (u:Bool) (k:Pcs):Pcs:=if u then pp (tS [40]) :: (k ++ [pp (tS [41])]) else k
def sepP:List Pcs→Pcs
 | []=>[]
 | [k]=>k
 | k :: q :: l=>k ++ pp (tS [44]) :: bl (sepP (q :: l))
def Zxm (ns:List ByteArray) (K:List Pcs):List Pcs:=List.zipWith (fun (x:ByteArray) k=>pp (Znw x.data.toList) :: pp (tS [58]) :: bl k) ns K
def Zya (o:Nat) (n:Int) (s t:List UInt8) (ns:List ByteArray) (K:List Pcs) (u:Bool):Pcs:=
 let k0:=K.getD 0 []
 let k1:=K.getD 1 []
 let k2:=K.getD 2 []
 if o=1 then [pp (tW (if n=1 then Zkv else Zhn))]
 else if o=2 then [pp (tN n)]
 else if o=3 then [pp (tQ s)]
 else if o=4 then tyPc t ++ [pp (tS [58,58]),pp (tQ s)]
 else if o=5 then [pp (tW s)]
 else if o=6 then pp (tS [91]) :: (sepP K ++ [pp (tS [93])])
 else if o=7 then pp (tS [123]) :: (sepP (Zxm ns K) ++ [pp (tS [125])])
 else if o=8 then Zoa u k0 ++ (if Zcu s then [pp (tS [46]),pp (tW s)] else [pp (tS [91]),pp (tQ s),pp (tS [93])])
 else if o=9 then pp (tS [40]) :: (k0 ++ [pb (tW Zjt),pb (Znw s),pp (tS [41])])
 else if o=10 then pp (tS [40]) :: (k0 ++ pb (tW wIs) :: (bl (tyPc t) ++ [pp (tS [41])]))
 else if o=11 then pp (tS [40]) :: (k0 ++ [pb (tW Zel),pb (tQ s),pp (tS [41])])
 else if o=12 then pp (tS [33]) :: k0
 else if o=13 then pp (tS [45]) :: k0
 else if o=14 then pp (tS [40]) :: pp (tW wIf) :: (bl k0 ++ pb (tW Zeu) :: (bl k1 ++ pb (tW Zem) :: (bl k2 ++ [pp (tS [41])])))
 else if 27≤o then Zoa u k0 ++ pp (tS [46]) :: pp (tW (Zfm o)) :: pp (tS [40]) :: (k1 ++ [pp (tS [41])])
 else pp (tS [40]) :: (k0 ++ pb (opT o) :: (bl k1 ++ [pp (tS [41])]))
mutual
def Zkd:Et→Pcs
 | .mk o n s t ns l=>Zya o n s.data.toList t.data.toList ns (pcsEs l) (l.head?.elim false unE)
def pcsEs:List Et→List Pcs
 | []=>[]
 | x :: l=>Zkd x :: pcsEs l
end
theorem pcsEs_map (l:List Et):pcsEs l=l.map Zkd:=by
 induction l with
 | nil=>rfl
 | cons x l ih=>rw[pcsEs,ih];rfl
theorem showE_mk (o:Nat) (n:Int) (s t:ByteArray) (ns:List ByteArray) (l:List Et):Zao (.mk o n s t ns l)=Zxz o n s.data.toList t.data.toList ns (l.map Zao) (l.head?.elim false unE):=by
 rw[Zao,Zge]
theorem Zxp (o:Nat) (n:Int) (s t:ByteArray) (ns:List ByteArray) (l:List Et):Zkd (.mk o n s t ns l)=Zya o n s.data.toList t.data.toList ns (l.map Zkd) (l.head?.elim false unE):=by
 rw[Zkd,pcsEs_map]
theorem bl_snd (k:Pcs):(bl k).map Prod.snd=k.map Prod.snd:=by cases k <;> rfl
theorem pp_snd (l:List Tok):(l.map pp).map Prod.snd=l:=by
 rw[List.map_map]
 exact List.map_id l
theorem Zzm:∀ K:List Pcs,(sepP K).map Prod.snd=Zph (K.map fun k=>k.map Prod.snd)
 | []=>rfl
 | [k]=>rfl
 | k :: q :: l=>by
   have:=Zzm (q :: l)
   rw[List.map_cons]at this
   simp only[sepP,List.map_append,List.map_cons,bl_snd,this,Zph]
   rfl
theorem recP_snd (ns:List ByteArray):∀ K:List Pcs,(Zxm ns K).map (fun k=>k.map Prod.snd)=Zuv ns (K.map fun k=>k.map Prod.snd):=by
 induction ns with
 | nil=>intro K;rfl
 | cons x ns ih=>
   intro K
   cases K with
   | nil=>rfl
   | cons k K=>
     have:=ih K
     simp only[Zxm,Zuv]at this
     simp only[Zxm,Zuv,List.zipWith_cons_cons,List.map_cons,bl_snd,this]
     rfl
theorem getD_map (K:List Pcs) (i:Nat):(K.getD i []).map Prod.snd=(K.map fun k=>k.map Prod.snd).getD i []:=by
 rw[List.getD_eq_getElem?_getD,List.getD_eq_getElem?_getD,List.getElem?_map]
 cases K[i]? <;> rfl
theorem baseP_snd (u:Bool) (k:Pcs):(Zoa u k).map Prod.snd=Znm u (k.map Prod.snd):=by
 unfold Zoa Znm
 cases u <;> simp[pp]
theorem nodeP_snd (o:Nat) (n:Int) (s t:List UInt8) (ns:List ByteArray) (K:List Pcs) (u:Bool):(Zya o n s t ns K u).map Prod.snd=Zxy o n s t ns (K.map fun k=>k.map Prod.snd) u:=by
 unfold Zya Zxy
 simp only[apply_ite (List.map Prod.snd),List.map_append,List.map_cons,List.map_nil,baseP_snd,Zzm,recP_snd,getD_map,bl_snd,tyPc,pp_snd,pp,pb]
theorem pcsE_snd:∀ (n:Nat) (e:Et),e.ht≤n→(Zkd e).map Prod.snd=Zbd e:=by
 intro n
 induction n with
 | zero=>intro e h;cases e;rw[Et.ht]at h;omega
 | succ n ih=>
   intro e h
   cases e with
   | mk o k s t ns l=>
     rw[Et.ht]at h
     rw[Zxp,nodeP_snd,Zdu,List.map_map]
     congr 1
     exact List.map_congr_left fun x hx=>ih x (by have:=Et.ht_mem hx;omega)
theorem Zen:txt []=[]:=rfl
theorem Zih {k:Pcs} (h:k ≠ []):txt (bl k)=32 :: txt k:=by
 cases k with
 | nil=>exact absurd rfl h
 | cons p k=>obtain ⟨s,t⟩:=p;rw[bl,Zje,Zje];rfl
theorem Zdl (t:Tok) (ps:Pcs):txt (pp t :: ps)=Zbw t ++ txt ps:=by rw[Zje];rfl
theorem Zma (t:Tok) (ps:Pcs):txt (pb t :: ps)=32 :: (Zbw t ++ txt ps):=by rw[Zje];rfl
theorem txtW (s:List UInt8):Zbw (tW s)=s:=rfl
theorem Zqy (s:List UInt8):Zbw (tS s)=s:=rfl
theorem txtQ (s:List UInt8):Zbw (tQ s)=Zbi s:=rfl
theorem txtN (n:Int):Zbw (tN n)=Lib.itoa n:=rfl
theorem Zmr (s:List UInt8):Zbw (Znw s)=Zdi s:=by unfold Znw Zdi;split <;> rfl
theorem txt_rest:∀ (ps:List (List UInt8)) (acc:List UInt8),acc ++ txt ((Zhc ps).map pp)=Zlk acc ps:=by
 intro ps
 induction ps with
 | nil=>intro acc;simp[Zhc,txt,Zlk]
 | cons p ps ih=>
   intro acc
   show acc ++ txt (pp (tS [58,58]) :: pp (tW p) :: (Zhc ps).map pp)=Zlk (acc ++ [58,58] ++ p) ps
   rw[←ih,Zdl,Zdl,Zqy,txtW]
   simp
theorem Zqx (t:List UInt8):txt (tyPc t)=t:=by
 unfold tyPc tyT
 cases hq:pcs [] t with
 | nil=>exact absurd hq (Zzx _ t [] (Nat.le_refl _))
 | cons p ps=>
   show txt (pp (tW p) :: (Zhc ps).map pp)=t
   rw[Zdl,txtW,txt_rest,Zzy _ t [] p ps (Nat.le_refl _) hq]
   rfl
theorem Zos (t:List UInt8):tyPc t ≠ []:=by
 unfold tyPc tyT
 cases hq:pcs [] t with
 | nil=>exact absurd hq (Zzx _ t [] (Nat.le_refl _))
 | cons p ps=>simp
theorem sepP_ne {K:List Pcs} (h:K ≠ []) (hk:∀ k ∈ K,k ≠ []):sepP K ≠ []:=by
 match K,h with
 | [k],_=>exact hk k (by simp)
 | k :: q :: l,_=>simp[sepP]
theorem Zsh:∀ K:List Pcs,(∀ k ∈ K,k ≠ [])→txt (sepP K)=Zhr (K.map txt)
 | [],_=>rfl
 | [k],_=>rfl
 | k :: q :: l,h=>by
   have:=Zsh (q :: l) (fun x hx=>h x (by simp[hx]))
   rw[sepP,Zef,Zdl,Zih (sepP_ne (by simp) fun x hx=>h x (by simp[hx])),this,Zqy]
   rfl
theorem Zzp (ns:List ByteArray):∀ K:List Pcs,(∀ k ∈ K,k ≠ [])→(Zxm ns K).map txt=Zrb ns (K.map txt)∧∀ k ∈ Zxm ns K,k ≠ []:=by
 induction ns with
 | nil=>intro K _;exact ⟨rfl,fun k hk=>by simp[Zxm]at hk⟩
 | cons x ns ih=>
   intro K h
   cases K with
   | nil=>exact ⟨rfl,fun k hk=>by simp[Zxm]at hk⟩
   | cons k K=>
     have:=ih K fun z hz=>h z (by simp[hz])
     simp only[Zxm,Zrb]at this
     refine ⟨?_,?_⟩
     · simp only[Zxm,Zrb,List.zipWith_cons_cons,List.map_cons,this.1,Zdl,Zmr,Zqy,Zih (h k (by simp))]
       rfl
     · intro z hz
       simp only[Zxm,List.zipWith_cons_cons,List.mem_cons]at hz
       rcases hz with rfl|hz
       · simp
       · exact this.2 z hz
theorem Zgj (K:List Pcs) (i:Nat):txt (K.getD i [])=(K.map txt).getD i []:=by
 rw[List.getD_eq_getElem?_getD,List.getD_eq_getElem?_getD,List.getElem?_map]
 cases K[i]? <;> rfl
theorem Zgs (u:Bool) (k:Pcs):txt (Zoa u k)=Zha u (txt k):=by
 unfold Zoa Zha
 cases u
 · rfl
 · simp only[if_true]
   rw[Zdl,Zef,Zdl,Zqy,Zqy]
   rfl
theorem op_txt (o:Nat):Zbw (opT o)=Zjn o:=by
 unfold opT
 split
 · next h=>subst h;rfl
 · rfl
theorem nodeP_txt (o:Nat) (n:Int) (s t:List UInt8) (ns:List ByteArray) (K:List Pcs) (u:Bool) (hk:∀ k ∈ K,k ≠ []) (h0:o ≠ 0) (hc:(o=14→3≤K.length)∧(14 < o→2≤K.length)):txt (Zya o n s t ns K u)=Zxz o n s t ns (K.map txt) u:=by
 have hg:∀ i,i < K.length→K.getD i [] ≠ []:=fun i hi=>by
  rw[List.getD_eq_getElem?_getD,List.getElem?_eq_getElem hi]
  exact hk _ (List.getElem_mem hi)
 unfold Zya Zxz
 simp only[]
 by_cases q:o=1
 · rw[if_pos q,if_pos q]
   (rw[Zdl,Zen,txtW,List.append_nil])
 rw[if_neg q,if_neg q]
 by_cases q:o=2
 · rw[if_pos q,if_pos q]
   (rw[Zdl,Zen,txtN,List.append_nil])
 rw[if_neg q,if_neg q]
 by_cases q:o=3
 · rw[if_pos q,if_pos q]
   (rw[Zdl,Zen,txtQ,List.append_nil])
 rw[if_neg q,if_neg q]
 by_cases q:o=4
 · rw[if_pos q,if_pos q]
   (simp only[Zef,Zqx,Zdl,Zen,Zqy,txtQ];simp)
 rw[if_neg q,if_neg q]
 by_cases q:o=5
 · rw[if_pos q,if_pos q]
   (rw[Zdl,Zen,txtW,List.append_nil])
 rw[if_neg q,if_neg q]
 by_cases q:o=6
 · rw[if_pos q,if_pos q]
   (rw[Zdl,Zef,Zsh _ hk,Zdl,Zen,Zqy,Zqy];rfl)
 rw[if_neg q,if_neg q]
 by_cases q:o=7
 · rw[if_pos q,if_pos q]
   (rw[Zdl,Zef,Zsh _ (Zzp ns K hk).2,(Zzp ns K hk).1,Zdl,Zen,Zqy,Zqy];rfl)
 rw[if_neg q,if_neg q]
 by_cases q:o=8
 · rw[if_pos q,if_pos q]
   (by_cases h:Zcu s=true
    · rw[if_pos h,if_pos h];simp only[Zef,Zgs,Zdl,Zen,Zqy,txtW,txtQ,←Zgj];simp
    · rw[if_neg h,if_neg h];simp only[Zef,Zgs,Zdl,Zen,Zqy,txtW,txtQ,←Zgj];simp)
 rw[if_neg q,if_neg q]
 by_cases q:o=9
 · rw[if_pos q,if_pos q]
   (simp only[Zef,Zgs,Zdl,Zma,Zen,Zqy,txtW,txtQ,Zmr,Zih (Zos t),Zqx,←Zgj];simp)
 rw[if_neg q,if_neg q]
 by_cases q:o=10
 · rw[if_pos q,if_pos q]
   (simp only[Zef,Zgs,Zdl,Zma,Zen,Zqy,txtW,txtQ,Zmr,Zih (Zos t),Zqx,←Zgj];simp)
 rw[if_neg q,if_neg q]
 by_cases q:o=11
 · rw[if_pos q,if_pos q]
   (simp only[Zef,Zgs,Zdl,Zma,Zen,Zqy,txtW,txtQ,Zmr,Zih (Zos t),Zqx,←Zgj];simp)
 rw[if_neg q,if_neg q]
 by_cases q:o=12
 · rw[if_pos q,if_pos q]
   (simp only[Zef,Zgs,Zdl,Zma,Zen,Zqy,txtW,txtQ,Zmr,Zih (Zos t),Zqx,←Zgj];simp)
 rw[if_neg q,if_neg q]
 by_cases q:o=13
 · rw[if_pos q,if_pos q]
   (simp only[Zef,Zgs,Zdl,Zma,Zen,Zqy,txtW,txtQ,Zmr,Zih (Zos t),Zqx,←Zgj];simp)
 rw[if_neg q,if_neg q]
 by_cases q:o=14
 · rw[if_pos q,if_pos q]
   (have:=hc.1 q
    simp only[Zdl,Zma,Zef,Zih (hg 0 (by omega)),Zih (hg 1 (by omega)),Zih (hg 2 (by omega)),Zqy,txtW,Zen,←Zgj]
    simp)
 rw[if_neg q,if_neg q]
 by_cases q:27≤o
 · rw[if_pos q,if_pos q]
   (simp only[Zef,Zgs,Zdl,Zma,Zen,Zqy,txtW,←Zgj];simp)
 rw[if_neg q,if_neg q]
 by_cases h15:14 < o
 · have hbl1:txt (bl (K.getD 1 []))=32 :: txt (K.getD 1 []):=Zih (hg 1 (by have:=hc.2 h15;omega))
   (simp only[Zef,Zdl,Zma,Zen,Zqy,op_txt,hbl1,←Zgj];simp)
 · exact absurd h0 (by omega)
open Go.RowKit
theorem labB_eq (s:ByteArray):Zoe s=(!(s.data.toList == []) && (decide (s.size≤64) && Lib.validD s.data.toList)):=by
 unfold Zoe Zfu
 have h0:decide (s.size ≠ 0)=!(s.data.toList == []):=by
  have e:s.size=s.data.toList.length:=by rw[Array.length_toList];rfl
  rw[e]
  cases s.data.toList with
  | nil=>rfl
  | cons a l=>rfl
 rw[h0]
 by_cases h:s.size≤64
 · have:s.size≤256:=by omega
   simp only[h,this,decide_true,Bool.and_true,Bool.true_and]
   rw[Bool.and_comm]
 · simp[h]
set_option maxRecDepth 100000 in
theorem label_w (s:ByteArray) (w:World) (hs:s.size≤140737488351232) (htab:Tb w):Calls Tryz.prog 88 #[.string s] w fun e w'=>e=.returned (.bool (Zoe s))∧Below w.heap.size w w':=by
 have hv:=Zop s w hs htab
 rw[labB_eq]
 go_enter Tryz.func88,Tryz.ntmps88
 by_cases h:s.toList=[]
 · have h1:s.toList.isEmpty=true:=by rw[h];rfl
   have h4:(s.data.toList == [])=true:=by rw[←ByteArray.toList_eq,h];rfl
   go_wp2_with (first|(at_builtin;fail))
   go_ret
   exact ⟨by rw[h4];rfl,Below.refl _ _⟩
 · have h1:s.toList.isEmpty=false:=by simpa using h
   have h4:(s.data.toList == [])=false:=by rw[←ByteArray.toList_eq];simpa using h
   by_cases h0:s.size≤64
   · have h2:(s.size:Int)≤64:=by omega
     have h3:decide (s.size≤64)=true:=decide_eq_true h0
     rw[h3,h4]
     clear h3 h4
     go_wp2_with (first|(at_builtin;fail))
     refine hv.mono ?_
     rintro e w1 ⟨rfl,hb⟩
     go_wp2_with (first|(at_builtin;fail))
     go_ret
     exact ⟨rfl,hb⟩
   · have h2:¬ (s.size:Int)≤64:=by omega
     have h3:decide (s.size≤64)=false:=decide_eq_false h0
     rw[h3,h4]
     clear h3 h4
     go_wp2_with (first|(at_builtin;fail))
     go_ret
     exact ⟨rfl,Below.refl _ _⟩
structure Zll (w0:World) (b:Nat) (w:World):Prop where
 bw:Below w0.heap.size w0 w
 hb:w0.heap.size≤b
 tb:Tb8 w0
abbrev PB (b:Nat) (acc:List UInt8) (w:World):Prop:=PBT 55 b acc w
def Zwq (b:Nat) (acc x:List UInt8) (w:World) (e:Ending) (w':World):Prop:=e=.returned (.tuple #[])∧PB b (acc ++ x) w'∧KA b b w w'
section
variable {w0 w w':World} {b:Nat} {acc:List UInt8}
theorem Zll.step (h:Zll w0 b w) (k:KA b b w w'):Zll w0 b w':=⟨h.bw.trans (k.below.mono h.hb),h.hb,h.tb⟩
theorem Zll.below (h:Zll w0 b w) (k:Below w.heap.size w w'):Zll w0 b w':=⟨bt h.bw k,h.hb,h.tb⟩
theorem Zll.tb8 (h:Zll w0 b w):Tb8 w:=h.tb.below h.bw
theorem Zll.tbs (h:Zll w0 b w):Tb w:=h.tb8.tb
theorem PBT.lt {T:TypeId} (h:PBT T b acc w):b < w.heap.size:=by obtain ⟨_,_,_,_,hk,_⟩:=h;exact hk.lt
theorem KA.of2 (hb:Below w.heap.size w w') (h:PB b acc w):KA b b w w':=KA.of hb (Nat.le_of_lt (PBT.lt h))
end
def Zet (l:List ByteArray):List UInt8:=l.flatMap (·.data.toList)
theorem catB_next (l:List ByteArray) (k:Nat) (x:ByteArray) (h:l[k]?=some x):Zet (l.take (k+1))=Zet (l.take k) ++ x.data.toList:=by
 unfold Zet
 rw[List.take_add_one,h]
 simp
theorem catB_len (l:List ByteArray) (k:Nat):(Zet (l.take k)).length≤(Zet l).length:=by
 have e:Zet l=Zet (l.take k) ++ Zet (l.drop k):=by unfold Zet;rw[←List.flatMap_append,List.take_append_drop]
 rw[e,List.length_append]
 omega
set_option maxRecDepth 100000 in
theorem pput_w (b g:Nat) (acc:List UInt8) (l:List ByteArray) (w:World) (h:PB b acc w) (hg:Blk w g (Zfo l) 9) (hgb:b < g) (hn:l.length≤4096) (hl:acc.length+(Zet l).length≤140737488355328) :
 Calls Tryz.prog 35 #[.pointer (some ⟨b,0,none⟩),.slice (some ⟨g,0,none⟩) l.length l.length] w (Zwq b acc (Zet l) w):=by
 obtain ⟨n,hN⟩:=Zaf l.length
 rw[←hN.out]at hn ⊢
 have HP:=Zai (show PB b (acc ++ Zet (l.take 0)) w by simpa [Zet] using h)
 have HK:=Zai hg
 have HA:=Zai (KA.refl b b w)
 clear h hg
 go_enter Tryz.func35,Tryz.ntmps35
 go_wp2_with (first|(at_builtin;fail))
 go_loopw [5,8] (fun _ i wr=>∃ k:Nat,k≤n∧i=.int .i64 k∧Hid (PB b (acc ++ Zet (l.take k)) wr)∧Hid (Blk wr g (Zfo l) 9)∧Hid (KA b b w wr)) (fun _ i _=>n - (intOf i).toNat)
 case atStart=>exact ⟨0,by omega,rfl,HP,HK,HA⟩
 case round=>
  clear HP HK HA
  obtain ⟨k,hk,rfl,HP,HK,HA⟩:=hrel
  by_cases hlt:k < n
  · have hi0:(0:Int)≤(k:Int):=by omega
    have hi1:(k:Int) < (n:Int):=by omega
    obtain ⟨x,hx⟩:∃ x,l[k]?=some x:=⟨l[k]'(by rw[←hN.out];exact hlt),List.getElem?_eq_getElem _⟩
    have c0:wr.cell? ⟨g,k,none⟩=some (.string x):=(HK.out.cell k).trans (by simp[Zfo,hx])
    have hnx:=catB_next l k x hx
    have hle:=catB_len l (k+1)
    have hws:=wStr Zot x HP.out (by rw[hnx]at hle;rw[List.length_append]at hle ⊢;rw[Lib.size_eq];omega)
    rw[List.append_assoc,←hnx]at hws
    have HX:=Zai hx
    clear hx hnx hle
    go_wp2_with (first|(at_builtin;fail))
    refine hws.mono ?_
    clear hws
    rintro e w3 ⟨rfl,hpb3,hk3⟩
    have hk4:=hk3.blk HK.out (by omega) (by decide)
    have hk5:=HA.out.trans hk3
    go_wp2_with (first|(at_builtin;fail))
    go_roundw
    case rel=>exact ⟨k+1,by omega,by go_num,Zai hpb3,Zai hk4,Zai hk5⟩
    case measure=>simp[intOf];omega
  · obtain rfl:k=n:=by omega
    have hi1:¬ (k:Int) < (k:Int):=by omega
    go_wp2_with (first|(at_builtin;fail))
    go_end0
    have hP:=HP.out
    rw[hN.out,List.take_length]at hP
    exact ⟨rfl,hP,HA.out⟩
theorem Zfl (b:Nat) (acc:List UInt8) (l:List ByteArray) (w:World) (h:PB b acc w) (hn:l.length≤4096) (hl:acc.length+(Zet l).length≤140737488355328) :
 Calls Tryz.prog 35 #[.pointer (some ⟨b,0,none⟩),.slice (some ⟨w.heap.size,0,none⟩) l.length l.length] (w.alloc (.cells (Zfo l).toArray 9)) (Zwq b acc (Zet l) w):=by
 have hb:=Zac w (.cells (Zfo l).toArray 9)
 refine (pput_w b w.heap.size acc l _ (h.below hb) (Blk.new w (Zfo l) 9) (PBT.lt h) hn hl).mono ?_
 rintro e w' ⟨rfl,h1,h2⟩
 exact ⟨rfl,h1,(KA.of2 hb h).trans h2⟩
set_option maxRecDepth 100000 in
theorem Zkc (s:ByteArray) (w:World) (hq:Zfu s=true) (htab:Tb w):Calls Tryz.prog 37 #[.string s] w fun e w'=>e=.returned (.string (str (Zbi s.data.toList)))∧Below w.heap.size w w':=by
 have hs:s.size≤256:=by
  unfold Zfu at hq
  rw[Bool.and_eq_true]at hq
  exact of_decide_eq_true hq.2
 have h:=tquote_w s w (by omega) htab
 have h0:quoE s=0:=(quoE_ok s).2 hq
 have h1:quoS s=str (Zbi s.data.toList):=by unfold quoS;rw[if_pos h0]
 rw[h0,h1]at h
 obtain ⟨Q,hQ⟩:=Zaf (str (Zbi s.data.toList))
 rw[←hQ.out]at h ⊢
 clear hQ h0 h1 hq
 go_enter Tryz.func37,Tryz.ntmps37
 go_wp2_with (first|(at_builtin;fail))
 refine h.mono ?_
 clear h
 rintro e w1 ⟨rfl,hb⟩
 go_wp2_with (first|(at_builtin;fail))
 go_ret
 exact ⟨rfl,hb⟩
set_option maxRecDepth 100000 in
theorem Zzv (s:ByteArray) (w:World) (hq:Zfu s=true) (htab:Tb w):Calls Tryz.prog 42 #[.string s] w fun e w'=>e=.returned (.string (str (Zdi s.data.toList)))∧Below w.heap.size w w':=by
 have hs:s.size≤256:=by
  unfold Zfu at hq
  rw[Bool.and_eq_true]at hq
  exact of_decide_eq_true hq.2
 have h:=name_w s w (by omega) htab.space
 have hR:str (Zdi s.data.toList)=if Zcu s.data.toList then s else str (Zbi s.data.toList):=by
  unfold Zdi
  by_cases hn:Zcu s.data.toList=true
  · rw[if_pos hn,if_pos hn,Zdh]
  · rw[if_neg hn,if_neg hn]
 obtain ⟨R,HR⟩:=Zaf (str (Zdi s.data.toList))
 rw[←HR.out]at hR ⊢
 obtain ⟨N,HN⟩:=Zaf (Zcu s.data.toList)
 rw[←HN.out]at hR h
 have HQ:=Zai hR
 clear hR HR HN
 go_enter Tryz.func42,Tryz.ntmps42
 go_wp2_with (first|(at_builtin;fail))
 refine h.mono ?_
 clear h
 rintro e w1 ⟨rfl,hb⟩
 cases N with
 | true=>
   have h1:R=s:=HQ.out
   subst h1
   clear HQ
   go_wp2_with (first|(at_builtin;fail))
   go_ret
   exact ⟨rfl,hb⟩
 | false=>
   have h1:R=str (Zbi s.data.toList):=HQ.out
   have H1:=Zai h1
   clear h1 HQ
   have hqw:=Zkc s w1 hq (htab.below hb)
   rw[←H1.out]at hqw
   go_wp2_with (first|(at_builtin;fail))
   refine hqw.mono ?_
   clear hqw
   rintro e w2 ⟨rfl,hb2⟩
   go_wp2_with (first|(at_builtin;fail))
   go_ret
   exact ⟨rfl,bt hb hb2⟩
def PrX (w0:World) (r:List Value) (x:List UInt8):Prop:=∀ (b:Nat) (acc:List UInt8) (w:World),Zll w0 b w→PB b acc w→acc.length+x.length≤1099511627776→Calls Tryz.prog 21 #[.pointer (some ⟨b,0,none⟩),.agg r.toArray] w (Zwq b acc x w)
def RowE (r:List Value):Prop:=∃ (o:Nat) (n:Int) (s t:ByteArray) (A:Option Addr) (a c:Nat) (B:Option Addr) (m d:Nat),r=Zav o n s t (.slice A a c) (.slice B m d)
set_option maxRecDepth 100000 in
theorem Zie (w0:World) (r:List Value) (x:List UInt8) (hr:RowE r) (hX:PrX w0 r x) (b:Nat) (acc:List UInt8) (s1 s2:ByteArray) (w:World) (hE:Zll w0 b w) (h:PB b acc w) (hl:acc.length+(s1.data.toList ++ (x ++ s2.data.toList)).length≤1099511627776) :
 Calls Tryz.prog 41 #[.pointer (some ⟨b,0,none⟩),.string s1,.agg r.toArray,.string s2] w (Zwq b acc (s1.data.toList ++ (x ++ s2.data.toList)) w):=by
 obtain ⟨o,n,s,t,A,a,c,B,m,d,hrw⟩:=hr
 have HR:=Zai hrw
 have kr:=Blk.new w r 26
 have hb0:=Zac w (.cells r.toArray 26)
 have hP1:=h.below hb0
 have hE1:=hE.below hb0
 have hK1:=KA.of2 hb0 h
 have hgb:=PBT.lt h
 obtain ⟨W,hW⟩:=Zaf (w.alloc (.cells r.toArray 26))
 have hWl:Hid (W=w.alloc (.cells #[.int .u8 (o:Int),.int .i64 n,.string s,.string t,.slice A a c,.slice B m d] 26)):=by
  rw[hrw]at hW
  exact hW
 rw[←hW.out]at kr hP1 hE1 hK1
 have hp:=Zfl b acc [s1] W hP1 (by simp) (by simp[Zet]at hl ⊢;omega)
 have e1:Zet [s1]=s1.data.toList:=by simp[Zet]
 rw[e1]at hp
 have hsz:Hid (b < w.heap.size):=Zai hgb
 clear hW h hE hP1 hb0
 rw[show (Value.agg r.toArray)=.agg #[.int .u8 (o:Int),.int .i64 n,.string s,.string t,.slice A a c,.slice B m d] from by rw[hrw];rfl]
 clear hrw
 go_enter Tryz.func41,Tryz.ntmps41
 go_upto_region 1 with (first|(at_builtin;fail))
 rw[←hWl.out]
 clear hWl
 go_wp2_with (first|(at_builtin;fail))
 refine hp.mono ?_
 clear hp
 rintro e w1 ⟨rfl,hP2,hk2⟩
 have kr1:=hk2.blk kr (by have:=hsz.out;omega) (by decide)
 have hE2:=hE1.step hk2
 have hK2:=hK1.trans hk2
 have hx:=hX b _ w1 hE2 hP2 (by simp only[List.length_append]at hl ⊢;omega)
 clear kr hE1 hK1 hk2 hP2 hX
 go_wp2_with (first
  | (at_builtin;fail)
  | refine wpList_load_row rfl 26 _ rfl _ rfl 26 r.toArray (0,0) _ kr1 Tryz.underlying26 rfl (kE6 (by rw[HR.out];rfl)) ?_)
 refine hx.mono ?_
 clear hx
 rintro e w2 ⟨rfl,hP3,hk3⟩
 have hK3:=hK2.trans hk3
 have hq:=Zfl b _ [s2] w2 hP3 (by simp) (by simp[Zet]at hl ⊢;omega)
 have e2:Zet [s2]=s2.data.toList:=by simp[Zet]
 rw[e2]at hq
 clear kr1 hE2 hK2 hk3 hP3
 go_wp2_with (first|(at_builtin;fail))
 refine hq.mono ?_
 clear hq
 rintro e w3 ⟨rfl,hP4,hk4⟩
 go_wp2_with (first|(at_builtin;fail))
 go_end0
 refine ⟨rfl,?_,hK3.trans hk4⟩
 rw[←List.append_assoc,←List.append_assoc]
 exact hP4
set_option maxRecDepth 100000 in
theorem pbase1_w (w0:World) (r:List Value) (x:List UInt8) (hr:RowE r) (hX:PrX w0 r x) (b:Nat) (acc:List UInt8) (w:World) (hE:Zll w0 b w) (h:PB b acc w) (hl:acc.length+(40 :: (x ++ [41])).length≤1099511627776) :
 Calls Tryz.prog 77 #[.pointer (some ⟨b,0,none⟩),.agg r.toArray] w (Zwq b acc (40 :: (x ++ [41])) w):=by
 have hr0:=hr
 obtain ⟨o,n,s,t,A,a,c,B,m,d,hrw⟩:=hr
 have HR:=Zai hrw
 have kr:=Blk.new w r 26
 have hb0:=Zac w (.cells r.toArray 26)
 have hP1:=h.below hb0
 have hE1:=hE.below hb0
 have hK1:=KA.of2 hb0 h
 obtain ⟨W,hW⟩:=Zaf (w.alloc (.cells r.toArray 26))
 have hWl:Hid (W=w.alloc (.cells #[.int .u8 (o:Int),.int .i64 n,.string s,.string t,.slice A a c,.slice B m d] 26)):=by
  rw[hrw]at hW
  exact hW
 rw[←hW.out]at kr hP1 hE1 hK1
 have hk:=Zie w0 r x hr0 hX b acc ⟨#[40]⟩ ⟨#[41]⟩ W hE1 hP1 hl
 clear hW h hE hP1 hb0 hr0 hX
 rw[show (Value.agg r.toArray)=.agg #[.int .u8 (o:Int),.int .i64 n,.string s,.string t,.slice A a c,.slice B m d] from by rw[hrw];rfl]
 clear hrw
 go_enter Tryz.func77,Tryz.ntmps77
 go_upto_region 1 with (first|(at_builtin;fail))
 rw[←hWl.out]
 clear hWl
 go_wp2_with (first
  | (at_builtin;fail)
  | refine wpList_load_row rfl 26 _ rfl _ rfl 26 r.toArray (0,0) _ kr Tryz.underlying26 rfl (kE6 (by rw[HR.out];rfl)) ?_)
 refine hk.mono ?_
 clear hk
 rintro e w2 ⟨rfl,hP3,hk3⟩
 go_wp2_with (first|(at_builtin;fail))
 go_end0
 exact ⟨rfl,hP3,hK1.trans hk3⟩
set_option maxRecDepth 100000 in
theorem Zsn (w0:World) (o:Nat) (n:Int) (s t:ByteArray) (A:Option Addr) (a c:Nat) (B:Option Addr) (m d:Nat) (r:List Value) (hrw:r=Zav o n s t (.slice A a c) (.slice B m d)) (x:List UInt8) (hX:PrX w0 r x) (b:Nat) (acc:List UInt8) (w:World) (hE:Zll w0 b w) (h:PB b acc w) (hl:acc.length+(Zha (decide (o=12∨o=13)) x).length≤1099511627776) :
 Calls Tryz.prog 39 #[.pointer (some ⟨b,0,none⟩),.agg r.toArray] w (Zwq b acc (Zha (decide (o=12∨o=13)) x) w):=by
 have HR:=Zai hrw
 have kr:=Blk.new w r 26
 have hb0:=Zac w (.cells r.toArray 26)
 have hP1:=h.below hb0
 have hE1:=hE.below hb0
 have hK1:=KA.of2 hb0 h
 obtain ⟨W,hW⟩:=Zaf (w.alloc (.cells r.toArray 26))
 have hWl:Hid (W=w.alloc (.cells #[.int .u8 (o:Int),.int .i64 n,.string s,.string t,.slice A a c,.slice B m d] 26)):=by
  rw[hrw]at hW
  exact hW
 rw[←hW.out]at kr hP1 hE1 hK1
 have x0:W.cell? ⟨w.heap.size,0,none⟩=some (.int .u8 (o:Int)):=by rw[kr.cell,hrw];rfl
 have e21:∀ args w,(callFunc 21 args).run Tryz.prog w=.ok (.enter 21 args) w:=fun _ _=>by kernel_rfl
 have e77:∀ args w,(callFunc 77 args).run Tryz.prog w=.ok (.enter 77 args) w:=fun _ _=>by kernel_rfl
 clear hW h hE hb0
 by_cases hu:o=12∨o=13
 · rw[decide_eq_true hu]at hl ⊢
   have hk:=pbase1_w w0 r x ⟨_,_,_,_,_,_,_,_,_,_,hrw⟩ hX b acc W hE1 hP1 hl
   clear hX hE1 hP1 hl
   rw[show (Value.agg r.toArray)=.agg #[.int .u8 (o:Int),.int .i64 n,.string s,.string t,.slice A a c,.slice B m d] from by rw[hrw];rfl]
   clear hrw
   rcases hu with hu|hu
   · have f12:((o:Int) == 12)=true:=by rw[hu];rfl
     clear hu
     go_enter Tryz.func39,Tryz.ntmps39
     go_upto_region 1 with (first|(at_builtin;fail))
     rw[←hWl.out]
     clear hWl
     go_wp2_with (first
      | (at_builtin;fail)
      | refine wpList_load_row rfl 26 _ rfl _ rfl 26 r.toArray (0,0) _ kr Tryz.underlying26 rfl (kE6 (by rw[HR.out];rfl)) ?_
      | (go_at_fn 77;refine hk.mono ?_;clear hk;rintro e w2 ⟨rfl,hP3,hk3⟩))
     go_end0
     exact ⟨rfl,hP3,hK1.trans hk3⟩
   · have f12:((o:Int) == 12)=false:=by rw[hu];rfl
     have f13:((o:Int) == 13)=true:=by rw[hu];rfl
     clear hu
     go_enter Tryz.func39,Tryz.ntmps39
     go_upto_region 1 with (first|(at_builtin;fail))
     rw[←hWl.out]
     clear hWl
     go_wp2_with (first
      | (at_builtin;fail)
      | refine wpList_load_row rfl 26 _ rfl _ rfl 26 r.toArray (0,0) _ kr Tryz.underlying26 rfl (kE6 (by rw[HR.out];rfl)) ?_
      | (go_at_fn 77;refine hk.mono ?_;clear hk;rintro e w2 ⟨rfl,hP3,hk3⟩))
     go_end0
     exact ⟨rfl,hP3,hK1.trans hk3⟩
 · rw[decide_eq_false hu]at hl ⊢
   have hk:=hX b acc W hE1 hP1 hl
   clear hX hE1 hP1 hl
   rw[show (Value.agg r.toArray)=.agg #[.int .u8 (o:Int),.int .i64 n,.string s,.string t,.slice A a c,.slice B m d] from by rw[hrw];rfl]
   clear hrw
   have f12:((o:Int) == 12)=false:=by rw[beq_eq_false_iff_ne];omega
   have f13:((o:Int) == 13)=false:=by rw[beq_eq_false_iff_ne];omega
   clear hu
   go_enter Tryz.func39,Tryz.ntmps39
   go_upto_region 1 with (first|(at_builtin;fail))
   rw[←hWl.out]
   clear hWl
   go_wp2_with (first
    | (at_builtin;fail)
    | refine wpList_load_row rfl 26 _ rfl _ rfl 26 r.toArray (0,0) _ kr Tryz.underlying26 rfl (kE6 (by rw[HR.out];rfl)) ?_
    | (go_at_fn 21;refine hk.mono ?_;clear hk;rintro e w2 ⟨rfl,hP3,hk3⟩))
   go_end0
   exact ⟨rfl,hP3,hK1.trans hk3⟩
theorem Zum:∀ (X:List (List UInt8)) (x:List UInt8),X ≠ []→Zhr (X ++ [x])=Zhr X ++ (44 :: 32 :: x)
 | [],x,h=>absurd rfl h
 | [q],x,_=>by simp[Zhr]
 | q :: q2 :: X,x,_=>by
   have h:=Zum (q2 :: X) x (by simp)
   rw[List.cons_append]at h
   rw[List.cons_append,List.cons_append,Zhr,Zhr,h]
   simp
def Zne (X:List (List UInt8)) (i:Nat):List UInt8:=if i=0 then [] else Zhr (X.take i) ++ [44,32]
theorem Zro (X:List (List UInt8)) (i:Nat) (x:List UInt8) (h:X[i]?=some x):Zhr (X.take (i+1))=Zne X i ++ x:=by
 have hi:i < X.length:=(List.getElem?_eq_some_iff.1 h).1
 rw[List.take_add_one,h]
 unfold Zne
 cases i with
 | zero=>simp[Zhr]
 | succ i=>
   rw[if_neg (by omega)]
   show Zhr (X.take (i+1) ++ [x])=_
   rw[Zum _ _ (by intro e;have h9:=congrArg List.length e;rw[List.length_take,List.length_nil]at h9;omega)]
   simp
theorem Zjz:∀ (X:List (List UInt8)) (i:Nat),(Zhr (X.take i)).length≤(Zhr X).length
 | [],i=>by simp
 | [p],i=>by cases i <;> simp[Zhr]
 | p :: q :: X,0=>by simp[Zhr]
 | p :: q :: X,1=>by simp[Zhr]
 | p :: q :: X,i+2=>by
   have h:=Zjz (q :: X) (i+1)
   rw[List.take_succ_cons]at h
   rw[List.take_succ_cons,List.take_succ_cons,Zhr,Zhr]
   simp only[List.length_append,List.length_cons]
   omega
theorem Zcf {w:World} {P:Nat→Prop} {x:Et} {q:List Value} (h:EAt w P x q):RowE q:=by
 cases x
 rw[EAt]at h
 obtain ⟨A,c,B,d,rows,rfl,_⟩:=h
 exact ⟨_,_,_,_,_,_,_,_,_,_,rfl⟩
theorem Zcl {q:List Value} (h:RowE q):q.length=6∧∀ v ∈ q,v.oneCell'=true:=by
 obtain ⟨o,n,s,t,A,a,c,B,m,d,rfl⟩:=h
 exact ⟨rfl,Zcd⟩
theorem Zbf {w w':World} {b o:Nat} {r:List Value} (h:w.rangeAt b o r) (hb:Below w.heap.size w w'):w'.rangeAt b o r:=Zka h hb
theorem Zqh {q:List Value} (h:q.length=6):(Tryz.prog.info? 26).map (·.size)=some q.length:=by rw[kE,h]
set_option maxRecDepth 100000 in
theorem pparts6_w (w0:World) (P:Nat→Prop) (v:Int) (s t:ByteArray) (ns:List ByteArray) (l:List Et) (r:List Value) (hr:EAt w0 P (.mk 6 v s t ns l) r) (ih:∀ x q,x ∈ l→EAt w0 P x q→PrX w0 q (Zao x))
 (b:Nat) (acc:List UInt8) (w:World) (hE:Zll w0 b w) (h:PB b acc w) (hlen:acc.length+(Zhr (Zaz l)).length≤1099511627776) :
 Calls Tryz.prog 38 #[.pointer (some ⟨b,0,none⟩),.agg r.toArray] w (Zwq b acc (Zhr (Zaz l)) w):=by
 rw[EAt]at hr
 obtain ⟨A,cA,B,cB,rows,hrw,-,hTx,-,⟨hnl,-,hll,-⟩,-,hLi,hEs⟩:=hr
 unfold Zbq at hnl hll
 have hKx:Hid ((Zaz l)=(Zaz l)):=rfl
 obtain ⟨X,HX⟩:=Zaf (Zaz l)
 rw[←HX.out]at hlen ⊢
 clear hKx
 have hXl:X.length=l.length:=by
  rw[HX.out]
  rw[Zge,List.length_map]
 have hXi:∀ i x,l[i]?=some x→X[i]?=some (Zao x):=fun i x hx=>by
  rw[HX.out]
  rw[Zge,List.getElem?_map,hx];rfl
 have kr:=Blk.new w r 26
 have hb0:=Zac w (.cells r.toArray 26)
 have hP1:=h.below hb0
 have hE1:=hE.below hb0
 have hK1:=KA.of2 hb0 h
 have hgb:=PBT.lt h
 obtain ⟨W,hW⟩:=Zaf (w.alloc (.cells r.toArray 26))
 have hWl:Hid (W=w.alloc (.cells #[.int .u8 6,.int .i64 v,.string s,.string t,.slice A ns.length cA,.slice B l.length cB] 26)):=by
  rw[hrw]at hW
  exact hW
 rw[←hW.out]at kr hP1 hE1 hK1
 obtain ⟨k3,hk3⟩:=Zaf w.heap.size
 rw[←hk3.out]at kr hgb
 have x5:W.cell? ⟨k3,5,none⟩=some (.slice B l.length cB):=by rw[kr.cell,hrw];rfl
 have HP:=Zai (show PB b (acc ++ Zhr (X.take 0)) W by simpa [Zhr] using hP1)
 have HK:=Zai kr
 have HE:=Zai hE1
 have HA:=Zai hK1
 have HRW:=Zai hrw
 have HTX:=Zai hTx
 have HLI:=Zai hLi
 have HES:=Zai hEs
 clear hW h hE hb0 hP1 hE1 hK1 kr hTx hLi hEs HX
 rw[show (Value.agg r.toArray)=.agg #[.int .u8 6,.int .i64 v,.string s,.string t,.slice A ns.length cA,.slice B l.length cB] from by rw[hrw];rfl]
 obtain ⟨n,hn⟩:=Zaf l.length
 rw[←hn.out]at hXl hll x5 hWl ⊢
 obtain ⟨nn,hnn⟩:=Zaf ns.length
 rw[←hnn.out]at hWl ⊢
 clear hrw
 go_enter Tryz.func38,Tryz.ntmps38
 go_upto_region 1 with (first|(at_builtin;fail))
 rw[←hk3.out,←hWl.out]
 clear hWl
 go_wp2_with (first|(at_builtin;fail))
 go_loopw [4,5,9] (fun _ _ k wr=>∃ i:Nat,i≤n∧k=.int .i64 i∧Hid (PB b (acc ++ Zhr (X.take i)) wr)∧Hid (Blk wr k3 r 26)∧Hid (Zll w0 b wr)∧Hid (KA b b w wr)) (fun _ _ k _=>n - (intOf k).toNat)
 case atStart=>exact ⟨0,by omega,rfl,HP,HK,HE,HA⟩
 case round=>
  clear HP HK HE HA x5
  obtain ⟨i,hi,rfl,HP,HK,HE,HA⟩:=hrel
  by_cases hlt:i < n
  · have hi0:(0:Int)≤(i:Int):=by omega
    have hi1:(i:Int) < (n:Int):=by omega
    obtain ⟨x,hx⟩:∃ x,l[i]?=some x:=⟨l[i]'(by rw[←hn.out];exact hlt),List.getElem?_eq_getElem _⟩
    obtain ⟨q,hq,hqv⟩:=(Zbm HES.out).2 i x hx
    obtain ⟨gB,oB,rfl,-⟩:=HLI.out.2 (by
     have h9:=Zci HES.out
     intro e
     rw[e]at h9
     simp at h9
     have:=hn.out
     omega)
    have hrg:=Zbf (Zdt HLI.out (Zbl HES.out) hq) HE.out.bw
    have hX1:=ih x q (List.mem_of_getElem? hx) hqv
    have hrq:=Zcl (Zcf hqv)
    have hxi:=hXi i x hx
    have hnx:=Zro X i _ hxi
    have htk:=Zjz X (i+1)
    rw[hnx]at htk
    have hE2:=HE.out
    have hP2:=HP.out
    have hbr:=PBT.lt hP2
    have k5:=Blk.new wr Zag 26
    have hb5:=Zac wr (.cells Zag.toArray 26)
    obtain ⟨W5,hW5⟩:=Zaf (wr.alloc (.cells Zag.toArray 26))
    have hW5l:Hid (W5=wr.alloc (.cells #[.int .u8 0,.int .i64 0,.string ⟨#[]⟩,.string ⟨#[]⟩,.slice none 0 0,.slice none 0 0] 26)):=hW5
    rw[←hW5.out]at k5 hb5
    have kq:=k5.vrow q
    have hbq:=Zah hb5 (Nat.le_refl _) q.toArray
    obtain ⟨W6,hW6⟩:=Zaf (W5.setRow wr.heap.size q.toArray)
    rw[←hW6.out]at kq hbq
    have hk3l:k3 < wr.heap.size:=HK.out.lt
    have hKc:=HK.out.below hbq
    have hPc:=hP2.below hbq
    have hEc:=hE2.below hbq
    have hAc:=HA.out.trans (KA.of2 hbq hP2)
    have HX:=Zai hx
    have HXI:=Zai hxi
    have HNX:=Zai hnx
    have HXLEN:=Zai htk
    clear hx hxi hnx htk hq hqv hW5 hE2 hP2 hb5 hbq
    go_upto_region 4 with (first
     | (at_builtin;fail)
     | refine wpList_load_mid rfl 26 _ rfl gB (oB+i * 6) rfl q _ hrg Tryz.underlying26 rfl (Zqh hrq.1) ?_
     | (rw[←hW5l.out];refine wpList_store_row rfl 26 _ _ rfl _ q.toArray rfl rfl 26 Zag.toArray k5 (kE6 hrq.1) (by simp[hrq.1,Zag,Zav]) (Zas hrq.2) ?_;rw[←hW6.out]))
    clear hW5l hW6 k5 hrg
    obtain ⟨k9,hk9⟩:=Zaf wr.heap.size
    rw[←hk9.out]at kq hk3l ⊢
    have hk9b:b < k9:=by rw[hk9.out];exact hbr
    go_upto_if 15 with (first|(at_builtin;fail))
    go_cut [] (fun wx=>Hid (PB b (acc ++ Zne X i) wx)∧Hid (Blk wx k3 r 26)∧Hid (Blk wx k9 q 26)∧Hid (Zll w0 b wx)∧Hid (KA b b w wx))
    case first=>
     by_cases hi2:i=0
     · subst hi2
       have hacc:Zhr (X.take 0)=Zne X 0:=by simp[Zne,Zhr]
       rw[hacc]at hPc
       go_wp2_with (first|(at_builtin;fail))
       go_meet
       case rel=>exact ⟨Zai hPc,Zai hKc,Zai kq,Zai hEc,Zai hAc⟩
     · have hi3:(0:Int) < (i:Int):=by omega
       have hps:=Zfl b _ [⟨#[44,32]⟩] W6 hPc (by simp) (by
        have e2:Zet [⟨#[44,32]⟩]=[44,32]:=rfl
        have:=Zjz X i
        rw[e2,List.length_append]
        simp only[List.length_cons,List.length_nil]
        omega)
       have e2:Zet [⟨#[44,32]⟩]=[44,32]:=rfl
       rw[e2]at hps
       have hacc:acc ++ Zhr (X.take i) ++ [44,32]=acc ++ Zne X i:=by
        unfold Zne
        rw[if_neg hi2,List.append_assoc]
       clear e2
       go_wp2_with (first|(at_builtin;fail))
       refine hps.mono ?_
       clear hps
       rintro e w3 ⟨rfl,hpb3,hk3'⟩
       rw[hacc]at hpb3
       have z1:=hk3'.blk hKc (by omega) (by decide)
       have z2:=hk3'.blk kq (by omega) (by decide)
       have z3:=hEc.step hk3'
       have z4:=hAc.trans hk3'
       go_wp2_with (first|(at_builtin;fail))
       go_meet
       case rel=>exact ⟨Zai hpb3,Zai z1,Zai z2,Zai z3,Zai z4⟩
    case rest=>
     clear hPc hKc kq hEc hAc HP HK HE HA
     obtain ⟨HP,HK,HQ,HE,HA⟩:=hcut
     have x0:wc.cell? ⟨k3,0,none⟩=some (.int .u8 6):=by rw[HK.out.cell,HRW.out];rfl
     have hx9:=hX1 b _ wc HE.out HP.out (by have:=HXLEN.out;rw[List.length_append]at this ⊢;omega)
     have kq:=HQ.out
     have hf7:((6:Int) == 7)=false:=by decide
     go_wp2_with (first
      | (at_builtin;fail)
      | refine wpList_load_row rfl 26 _ rfl _ rfl 26 q.toArray (0,0) _ kq Tryz.underlying26 rfl (kE6 hrq.1) ?_)
     refine hx9.mono ?_
     clear hx9
     rintro e w4 ⟨rfl,hpb4,hk4⟩
     rw[List.append_assoc,←HNX.out]at hpb4
     have z1:=hk4.blk HK.out (by omega) (by decide)
     have z3:=HE.out.step hk4
     have z4:=HA.out.trans hk4
     clear x0 kq
     go_wp2_with (first|(at_builtin;fail))
     go_roundw
     case rel=>exact ⟨i+1,by omega,by go_num,Zai hpb4,Zai z1,Zai z3,Zai z4⟩
     case measure=>simp[intOf];omega
  · obtain rfl:i=n:=by omega
    have hi1:¬ (i:Int) < (i:Int):=by omega
    go_wp2_with (first|(at_builtin;fail))
    go_end0
    have hP:=HP.out
    rw[←hXl,List.take_length]at hP
    exact ⟨rfl,hP,HA.out⟩
set_option maxRecDepth 100000 in
theorem pparts7_w (w0:World) (P:Nat→Prop) (v:Int) (s t:ByteArray) (ns:List ByteArray) (l:List Et) (r:List Value) (hr:EAt w0 P (.mk 7 v s t ns l) r) (hn7:ns.length=l.length) (hq7:∀ x ∈ ns,Zfu x=true) (ih:∀ x q,x ∈ l→EAt w0 P x q→PrX w0 q (Zao x))
 (b:Nat) (acc:List UInt8) (w:World) (hE:Zll w0 b w) (h:PB b acc w) (hlen:acc.length+(Zhr (Zrb ns (Zaz l))).length≤1099511627776) :
 Calls Tryz.prog 38 #[.pointer (some ⟨b,0,none⟩),.agg r.toArray] w (Zwq b acc (Zhr (Zrb ns (Zaz l))) w):=by
 rw[EAt]at hr
 obtain ⟨A,cA,B,cB,rows,hrw,-,hTx,-,⟨hnl,-,hll,-⟩,-,hLi,hEs⟩:=hr
 unfold Zbq at hnl hll
 have hKx:Hid ((Zrb ns (Zaz l))=(Zrb ns (Zaz l))):=rfl
 obtain ⟨X,HX⟩:=Zaf (Zrb ns (Zaz l))
 rw[←HX.out]at hlen ⊢
 clear hKx
 have hXl:X.length=l.length:=by
  rw[HX.out]
  unfold Zrb;rw[List.length_zipWith,Zge,List.length_map,hn7,Nat.min_self]
 have hXi:∀ i x,l[i]?=some x→∃ y:ByteArray,ns[i]?=some y∧X[i]?=some (Zdi y.data.toList ++ 58 :: 32 :: Zao x):=fun i x hx=>by
  rw[HX.out]
  have hi:i < ns.length:=by have:=(List.getElem?_eq_some_iff.1 hx).1;omega
  refine ⟨ns[i],List.getElem?_eq_getElem hi,?_⟩
  unfold Zrb
  rw[List.getElem?_zipWith,Zge,List.getElem?_map,hx,List.getElem?_eq_getElem hi]
  rfl
 have kr:=Blk.new w r 26
 have hb0:=Zac w (.cells r.toArray 26)
 have hP1:=h.below hb0
 have hE1:=hE.below hb0
 have hK1:=KA.of2 hb0 h
 have hgb:=PBT.lt h
 obtain ⟨W,hW⟩:=Zaf (w.alloc (.cells r.toArray 26))
 have hWl:Hid (W=w.alloc (.cells #[.int .u8 7,.int .i64 v,.string s,.string t,.slice A ns.length cA,.slice B l.length cB] 26)):=by
  rw[hrw]at hW
  exact hW
 rw[←hW.out]at kr hP1 hE1 hK1
 obtain ⟨k3,hk3⟩:=Zaf w.heap.size
 rw[←hk3.out]at kr hgb
 have x5:W.cell? ⟨k3,5,none⟩=some (.slice B l.length cB):=by rw[kr.cell,hrw];rfl
 have HP:=Zai (show PB b (acc ++ Zhr (X.take 0)) W by simpa [Zhr] using hP1)
 have HK:=Zai kr
 have HE:=Zai hE1
 have HA:=Zai hK1
 have HRW:=Zai hrw
 have HTX:=Zai hTx
 have HLI:=Zai hLi
 have HES:=Zai hEs
 clear hW h hE hb0 hP1 hE1 hK1 kr hTx hLi hEs HX
 rw[show (Value.agg r.toArray)=.agg #[.int .u8 7,.int .i64 v,.string s,.string t,.slice A ns.length cA,.slice B l.length cB] from by rw[hrw];rfl]
 obtain ⟨n,hn⟩:=Zaf l.length
 rw[←hn.out]at hn7
 rw[←hn.out]at hXl hll x5 hWl ⊢
 rw[hn7]at hWl ⊢
 clear hrw
 go_enter Tryz.func38,Tryz.ntmps38
 go_upto_region 1 with (first|(at_builtin;fail))
 rw[←hk3.out,←hWl.out]
 clear hWl
 go_wp2_with (first|(at_builtin;fail))
 go_loopw [4,5,9] (fun _ _ k wr=>∃ i:Nat,i≤n∧k=.int .i64 i∧Hid (PB b (acc ++ Zhr (X.take i)) wr)∧Hid (Blk wr k3 r 26)∧Hid (Zll w0 b wr)∧Hid (KA b b w wr)) (fun _ _ k _=>n - (intOf k).toNat)
 case atStart=>exact ⟨0,by omega,rfl,HP,HK,HE,HA⟩
 case round=>
  clear HP HK HE HA x5
  obtain ⟨i,hi,rfl,HP,HK,HE,HA⟩:=hrel
  by_cases hlt:i < n
  · have hi0:(0:Int)≤(i:Int):=by omega
    have hi1:(i:Int) < (n:Int):=by omega
    obtain ⟨x,hx⟩:∃ x,l[i]?=some x:=⟨l[i]'(by rw[←hn.out];exact hlt),List.getElem?_eq_getElem _⟩
    obtain ⟨q,hq,hqv⟩:=(Zbm HES.out).2 i x hx
    obtain ⟨gB,oB,rfl,-⟩:=HLI.out.2 (by
     have h9:=Zci HES.out
     intro e
     rw[e]at h9
     simp at h9
     have:=hn.out
     omega)
    have hrg:=Zbf (Zdt HLI.out (Zbl HES.out) hq) HE.out.bw
    have hX1:=ih x q (List.mem_of_getElem? hx) hqv
    have hrq:=Zcl (Zcf hqv)
    obtain ⟨y,hy,hxi⟩:=hXi i x hx
    have hnx:=Zro X i _ hxi
    have htk:=Zjz X (i+1)
    rw[hnx]at htk
    have hE2:=HE.out
    have hP2:=HP.out
    have hbr:=PBT.lt hP2
    have k5:=Blk.new wr Zag 26
    have hb5:=Zac wr (.cells Zag.toArray 26)
    obtain ⟨W5,hW5⟩:=Zaf (wr.alloc (.cells Zag.toArray 26))
    have hW5l:Hid (W5=wr.alloc (.cells #[.int .u8 0,.int .i64 0,.string ⟨#[]⟩,.string ⟨#[]⟩,.slice none 0 0,.slice none 0 0] 26)):=hW5
    rw[←hW5.out]at k5 hb5
    have kq:=k5.vrow q
    have hbq:=Zah hb5 (Nat.le_refl _) q.toArray
    obtain ⟨W6,hW6⟩:=Zaf (W5.setRow wr.heap.size q.toArray)
    rw[←hW6.out]at kq hbq
    have hk3l:k3 < wr.heap.size:=HK.out.lt
    have hKc:=HK.out.below hbq
    have hPc:=hP2.below hbq
    have hEc:=hE2.below hbq
    have hAc:=HA.out.trans (KA.of2 hbq hP2)
    have HX:=Zai hx
    have HXI:=Zai hxi
    have HNX:=Zai hnx
    have HY:=Zai hy
    have HXLEN:=Zai htk
    clear hx hxi hnx htk hq hqv hW5 hE2 hP2 hb5 hbq hy
    go_upto_region 4 with (first
     | (at_builtin;fail)
     | refine wpList_load_mid rfl 26 _ rfl gB (oB+i * 6) rfl q _ hrg Tryz.underlying26 rfl (Zqh hrq.1) ?_
     | (rw[←hW5l.out];refine wpList_store_row rfl 26 _ _ rfl _ q.toArray rfl rfl 26 Zag.toArray k5 (kE6 hrq.1) (by simp[hrq.1,Zag,Zav]) (Zas hrq.2) ?_;rw[←hW6.out]))
    clear hW5l hW6 k5 hrg
    obtain ⟨k9,hk9⟩:=Zaf wr.heap.size
    rw[←hk9.out]at kq hk3l ⊢
    have hk9b:b < k9:=by rw[hk9.out];exact hbr
    go_upto_if 15 with (first|(at_builtin;fail))
    go_cut [] (fun wx=>Hid (PB b (acc ++ Zne X i) wx)∧Hid (Blk wx k3 r 26)∧Hid (Blk wx k9 q 26)∧Hid (Zll w0 b wx)∧Hid (KA b b w wx))
    case first=>
     by_cases hi2:i=0
     · subst hi2
       have hacc:Zhr (X.take 0)=Zne X 0:=by simp[Zne,Zhr]
       rw[hacc]at hPc
       go_wp2_with (first|(at_builtin;fail))
       go_meet
       case rel=>exact ⟨Zai hPc,Zai hKc,Zai kq,Zai hEc,Zai hAc⟩
     · have hi3:(0:Int) < (i:Int):=by omega
       have hps:=Zfl b _ [⟨#[44,32]⟩] W6 hPc (by simp) (by
        have e2:Zet [⟨#[44,32]⟩]=[44,32]:=rfl
        have:=Zjz X i
        rw[e2,List.length_append]
        simp only[List.length_cons,List.length_nil]
        omega)
       have e2:Zet [⟨#[44,32]⟩]=[44,32]:=rfl
       rw[e2]at hps
       have hacc:acc ++ Zhr (X.take i) ++ [44,32]=acc ++ Zne X i:=by
        unfold Zne
        rw[if_neg hi2,List.append_assoc]
       clear e2
       go_wp2_with (first|(at_builtin;fail))
       refine hps.mono ?_
       clear hps
       rintro e w3 ⟨rfl,hpb3,hk3'⟩
       rw[hacc]at hpb3
       have z1:=hk3'.blk hKc (by omega) (by decide)
       have z2:=hk3'.blk kq (by omega) (by decide)
       have z3:=hEc.step hk3'
       have z4:=hAc.trans hk3'
       go_wp2_with (first|(at_builtin;fail))
       go_meet
       case rel=>exact ⟨Zai hpb3,Zai z1,Zai z2,Zai z3,Zai z4⟩
    case rest=>
     clear hPc hKc kq hEc hAc HP HK HE HA
     obtain ⟨HP,HK,HQ,HE,HA⟩:=hcut
     have x0:wc.cell? ⟨k3,0,none⟩=some (.int .u8 7):=by rw[HK.out.cell,HRW.out];rfl
     obtain ⟨gN,oN,hAn,hcN⟩:=HTX.out.2 (by
      intro e
      have h9:=Zfk ns
      rw[e]at h9
      simp at h9
      omega)
     have x4:wc.cell? ⟨k3,4,none⟩=some (.slice (some ⟨gN,oN,none⟩) n cA):=by rw[HK.out.cell,HRW.out,←hAn,←hn7];rfl
     clear hAn
     have x9:wc.cell? ⟨gN,oN+i,none⟩=some (.string y):=Zcg (hcN i _ (by unfold Zfo;rw[List.getElem?_map,HY.out];rfl)) HE.out.bw
     have hnm:=Zzv y wc (hq7 y (List.mem_of_getElem? HY.out)) HE.out.tbs
     have kq0:=HQ.out
     go_wp2_with (first|(at_builtin;fail))
     refine hnm.mono ?_
     clear hnm
     rintro e w4 ⟨rfl,hb4⟩
     have hP4:=HP.out.below hb4
     have hps:=Zfl b _ [str (Zdi y.data.toList),⟨#[58,32]⟩] w4 hP4 (by simp) (by
      have e2:Zet [str (Zdi y.data.toList),⟨#[58,32]⟩]=Zdi y.data.toList ++ [58,32]:=by simp[Zet,Zax]
      have:=HXLEN.out
      rw[e2]
      simp only[List.length_append,List.length_cons,List.length_nil]at this ⊢
      omega)
     have e2:Zet [str (Zdi y.data.toList),⟨#[58,32]⟩]=Zdi y.data.toList ++ [58,32]:=by simp[Zet,Zax]
     rw[e2]at hps
     have hK4:=HK.out.below hb4
     have hQ4:=HQ.out.below hb4
     have hE4:=HE.out.below hb4
     have hA4:=HA.out.trans (KA.of2 hb4 HP.out)
     clear x0 x4 x9 kq0 hP4 e2
     go_wp2_with (first|(at_builtin;fail))
     refine hps.mono ?_
     clear hps
     rintro e w5 ⟨rfl,hP5,hk5⟩
     have hK5:=hk5.blk hK4 (by omega) (by decide)
     have kq:=hk5.blk hQ4 (by omega) (by decide)
     have hE5:=hE4.step hk5
     have hA5:=hA4.trans hk5
     have hx9:=hX1 b _ w5 hE5 hP5 (by have:=HXLEN.out;simp only[List.length_append,List.length_cons,List.length_nil]at this ⊢;omega)
     clear hK4 hQ4 hE4 hA4 hk5
     go_wp2_with (first
      | (at_builtin;fail)
      | refine wpList_load_row rfl 26 _ rfl _ rfl 26 q.toArray (0,0) _ kq Tryz.underlying26 rfl (kE6 hrq.1) ?_)
     refine hx9.mono ?_
     clear hx9
     rintro e w6 ⟨rfl,hpb6,hk6⟩
     have hacc:acc ++ Zne X i ++ (Zdi y.data.toList ++ [58,32]) ++ Zao x=acc ++ Zhr (X.take (i+1)):=by
      rw[HNX.out]
      simp
     rw[hacc]at hpb6
     have z1:=hk6.blk hK5 (by omega) (by decide)
     have z3:=hE5.step hk6
     have z4:=hA5.trans hk6
     clear hacc hP5 kq
     go_wp2_with (first|(at_builtin;fail))
     go_roundw
     case rel=>exact ⟨i+1,by omega,by go_num,Zai hpb6,Zai z1,Zai z3,Zai z4⟩
     case measure=>simp[intOf];omega
  · obtain rfl:i=n:=by omega
    have hi1:¬ (i:Int) < (i:Int):=by omega
    go_wp2_with (first|(at_builtin;fail))
    go_end0
    have hP:=HP.out
    rw[←hXl,List.take_length]at hP
    exact ⟨rfl,hP,HA.out⟩
end Go.Proofs.YtnhooehmcggmdaaGreatDoor
