/- Parts of a proof about the given program: XCut4, XNodes, XShowL. -/
import Derived.Test.YtnhooehmcggmdaaGreatDoorZ23
import Derived.Test.YtnhooehmcggmdaaGreatDoorZ26
import Derived.Test.YtnhooehmcggmdaaGreatDoorZ03
import Derived.Test.YtnhooehmcggmdaaGreatDoorZ24
namespace Go.Proofs.YtnhooehmcggmdaaGreatDoor
set_option maxHeartbeats 16000000
set_option linter.unusedVariables false
set_option linter.unusedSimpArgs false
set_option linter.unusedSectionVars false
mutual
def okN:Et→Bool
 | .mk _ n _ _ _ l=>decide (n≤9223372036854775807) && okNs l
def okNs:List Et→Bool
 | []=>true
 | x :: l=>okN x && okNs l
end
theorem Zoc {x:Et} {l:List Et} (h:okNs l=true) (hx:x ∈ l):okN x=true:=by
 induction l with
 | nil=>cases hx
 | cons y l ih=>
   rw[okNs,Bool.and_eq_true]at h
   rcases List.mem_cons.1 hx with rfl|hx
   · exact h.1
   · exact ih h.2 hx
def Fst (ps:Pcs):Prop:=∃ t ps',ps=pp t :: ps'∧Zfj t∧(t.k=4→∃ c,t.t=[c]∧c ≠ 61)
theorem Fst.ne {ps:Pcs} (h:Fst ps):ps ≠ []:=by obtain ⟨t,ps',rfl,_⟩:=h;simp
theorem Fst.app {ps:Pcs} (h:Fst ps) (qs:Pcs):Fst (ps ++ qs):=by
 obtain ⟨t,ps',rfl,h2⟩:=h
 exact ⟨t,ps' ++ qs,rfl,h2⟩
theorem fst_no61 {ps:Pcs} (h:Fst ps) (r:List UInt8):∃ c r',txt ps ++ r=c :: r'∧c ≠ 61:=by
 obtain ⟨t,ps',rfl,ht,hs⟩:=h
 rw[Zdl,List.append_assoc]
 obtain ⟨c,r',e,_,_⟩:=Zsz ht (txt ps' ++ r)
 refine ⟨c,r',e,?_⟩
 obtain ⟨k,x,n,a⟩:=t
 have no:∀ b:UInt8,Zhd b=true∨Zgz b=true→b ≠ 61:=by
  rintro b h rfl
  revert h
  decide
 rcases ht with ⟨hk,hn,h1,h2,h3⟩|⟨hk,hx,h1,h2⟩|⟨hk,hn,h1,h2⟩|⟨hk,hn,h1⟩
 · simp only at hk hn h1 h2 h3
   subst hk hn
   cases x with
   | nil=>exact absurd rfl h1
   | cons b x=>
     have:b=c:=by injection e
     rw[←this]
     exact no b (.inl h2)
 · simp only at hk hx h1 h2
   subst hk hx
   obtain ⟨u,rfl⟩:∃ u:Nat,n=(u:Int):=⟨n.toNat,by omega⟩
   obtain ⟨a1,a2,a3,a4⟩:=Zhi (u+1) u (by omega)
   have e2:Lib.itoa (u:Int)=Lib.decDigits u:=by unfold Lib.itoa;rw[if_neg (by omega)];rfl
   have e3:Lib.itoa (u:Int) ++ (txt ps' ++ r)=c :: r':=e
   rw[e2]at e3
   cases hq:Lib.decDigits u with
   | nil=>exact absurd hq a2
   | cons b x=>
     rw[hq]at e3
     have:b=c:=by injection e3
     rw[←this]
     exact no b (.inr (a1 b (by rw[hq];simp)))
 · simp only at hk hn
   subst hk hn
   have:(34:UInt8)=c:=by injection e
   rw[←this]
   decide
 · simp only at hk hn
   subst hk hn
   obtain ⟨d,hd,hd2⟩:=hs rfl
   simp only at hd
   subst hd
   have:d=c:=by injection e
   rw[←this]
   exact hd2
theorem Zkf {t:Tok} {ps:Pcs} {r:List UInt8} (h1:Zfj t) (h2:Zif t (txt ps ++ r)) (h3:Zil ps r):Zil (pp t :: ps) r:=⟨skp_nil,h1,h2,h3⟩
theorem Zwo {t:Tok} {ps:Pcs} {r:List UInt8} (h1:Zfj t) (h2:Zif t (txt ps ++ r)) (h3:Zil ps r):Zil (pb t :: ps) r:=⟨skp_bl,h1,h2,h3⟩
theorem Zwu {c:UInt8} {ps:Pcs} {r:List UInt8} (h1:Zew.contains c=true) (h2:Zvr.contains c=false) (h3:Zil ps r):Zil (pp (tS [c]) :: ps) r:=Zkf (Zfb h1) (Zsr h2 _) h3
theorem Zyo {k:Pcs} {r:List UInt8} (h:Zil k r):Zil (bl k) r:=by
 cases k with
 | nil=>exact h
 | cons p k=>
   obtain ⟨s,t⟩:=p
   obtain ⟨a,b⟩:=h
   exact ⟨fun l=>(Zzj _).trans (a l),b⟩
theorem Zwd (t:Tok) (ps:Pcs) (r:List UInt8):Cl (txt (pb t :: ps) ++ r):=by rw[Zma];exact .cons (by decide) (by decide)
theorem Zky {c:UInt8} {s:List UInt8} (h1:Zhd c=false) (h2:Zgz c=false) (ps:Pcs) (r:List UInt8):Cl (txt (pp (tS (c :: s)) :: ps) ++ r):=by rw[Zdl];exact .cons h1 h2
theorem cl_bl {k:Pcs} (h:k ≠ []) (qs:Pcs) (r:List UInt8):Cl (txt (bl k ++ qs) ++ r):=by rw[Zef,Zih h];exact .cons (by decide) (by decide)
def Ph (ps:Pcs):Prop:=Fst ps∧∀ r,Cl r→Zil ps r
theorem sep_ph:∀ K:List Pcs,(∀ k ∈ K,Ph k)→∀ r,Cl r→Zil (sepP K) r
 | [],_,_,_=>trivial
 | [k],h,r,hr=>(h k (by simp)).2 r hr
 | k :: q :: l,h,r,hr=>by
   rw[sepP]
   exact Zcr ((h k (by simp)).2 _ (Zky (by decide) (by decide) _ _)) (Zwu (by decide) (by decide) (Zyo (sep_ph (q :: l) (fun x hx=>h x (by simp[hx])) r hr)))
theorem rec_ph (ns:List ByteArray) (hn:ns.all Zoe=true):∀ K:List Pcs,(∀ k ∈ K,Ph k)→∀ k ∈ Zxm ns K,Ph k:=by
 induction ns with
 | nil=>intro K _ k hk;simp[Zxm]at hk
 | cons x ns ih=>
   intro K h
   rw[List.all_cons,Bool.and_eq_true]at hn
   cases K with
   | nil=>intro k hk;simp[Zxm]at hk
   | cons k K=>
     intro z hz
     simp only[Zxm,List.zipWith_cons_cons,List.mem_cons]at hz
     rcases hz with rfl|hz
     · have hq:Zfu x=true:=by
        have:=hn.1
        unfold Zoe at this
        rw[Bool.and_eq_true,Bool.and_eq_true]at this
        exact this.1.1
       have hk:=h k (by simp)
       have hlab:∀ s,(Znw s).k ≠ 4:=fun s=>by unfold Znw;split <;> (intro h;cases h)
       refine ⟨⟨_,_,rfl,Zsv hq,fun h=>absurd h (hlab _)⟩,fun r hr=>Zkf (Zsv hq) (Zvk _ (Zky (by decide) (by decide) _ _)) (Zkf (Zfb (by decide)) ?_ (Zyo (hk.2 r hr)))⟩
       rw[Zih hk.1.ne]
       exact Zjk (by decide) _
     · exact ih hn.2 K (fun q hq=>h q (by simp[hq])) z hz
theorem ty_ph {t:List UInt8} (h:Zhe t=true):Ph (tyPc t):=by
 obtain ⟨p,ps,e,hp,hps,_⟩:=Zlr h
 unfold tyPc
 rw[e]
 refine ⟨⟨_,_,rfl,Zme hp,fun h=>by cases h⟩,fun r hr=>?_⟩
 have key:∀ ps:List (List UInt8),(∀ q ∈ ps,Zcu q=true)→Zil ((Zhc ps).map pp) r∧Cl (txt ((Zhc ps).map pp) ++ r):=by
  intro ps
  induction ps with
  | nil=>intro _;exact ⟨trivial,hr⟩
  | cons q ps ih=>
    intro h
    obtain ⟨i1,i2⟩:=ih fun x hx=>h x (by simp[hx])
    exact ⟨Zkf (Zgp (by decide)) (Zig rfl _) (Zkf (Zme (h q (by simp))) (Zfx i2) i1),Zky (by decide) (by decide) _ _⟩
 obtain ⟨k1,k2⟩:=key ps hps
 exact Zkf (Zme hp) (Zfx k2) k1
theorem Zym {u:Bool} {k:Pcs} (h:Ph k) {r:List UInt8} (hr:Cl r):Zil (Zoa u k) r:=by
 unfold Zoa
 cases u with
 | false=>rw[if_neg (by decide)];exact h.2 r hr
 | true=>rw[if_pos rfl];exact Zwu (by decide) (by decide) (Zcr (h.2 _ (Zky (by decide) (by decide) _ _)) (Zwu (by decide) (by decide) trivial))
theorem base_fst {u:Bool} {k:Pcs} (h:Ph k) (qs:Pcs):Fst (Zoa u k ++ qs):=by
 unfold Zoa
 cases u with
 | false=>rw[if_neg (by decide)];exact h.1.app qs
 | true=>rw[if_pos rfl];exact ⟨_,_,rfl,Zfb (by decide),fun _=>⟨40,rfl,by decide⟩⟩
theorem Ztc {c:UInt8} (h:Zew.contains c=true) (h2:c ≠ 61) (ps:Pcs):Fst (pp (tS [c]) :: ps):=⟨_,_,rfl,Zfb h,fun _=>⟨c,rfl,h2⟩⟩
theorem fst_w {s:List UInt8} (h:Zfj (tW s)) (ps:Pcs):Fst (pp (tW s) :: ps):=⟨_,_,rfl,h,fun h=>by cases h⟩
theorem Zml {c:UInt8} (h1:Zew.contains c=true) (h2:Zvr.contains c=false) (r:List UInt8):Zil [pp (tS [c])] r:=Zwu h1 h2 trivial
theorem var_tok {s:List UInt8} (h:Zea.contains s=true):Zfj (tW s):=by
 have:s ∈ Zea:=by simpa using h
 simp only[Zea,List.mem_cons,List.not_mem_nil,or_false]at this
 rcases this with rfl|rfl|rfl|rfl <;> exact Zgf (by decide)
theorem op_tok {o:Nat} (h1:14 < o) (h2:o < 27) (r:List UInt8):Zfj (opT o)∧Zif (opT o) (32 :: r):=by
 obtain rfl|rfl|rfl|rfl|rfl|rfl|rfl|rfl|rfl|rfl|rfl|rfl:o=15∨o=16∨o=17∨o=18∨o=19∨o=20∨o=21∨o=22∨o=23∨o=24∨o=25∨o=26:=by omega
 · exact ⟨Zgp (by decide),Zig rfl _⟩
 · exact ⟨Zgp (by decide),Zig rfl _⟩
 · exact ⟨Zgp (by decide),Zig rfl _⟩
 · exact ⟨Zgp (by decide),Zig rfl _⟩
 · exact ⟨Zfb (c:=60) (by decide),Zjk (c:=60) (by decide) _⟩
 · exact ⟨Zgp (by decide),Zig rfl _⟩
 · exact ⟨Zfb (c:=62) (by decide),Zjk (c:=62) (by decide) _⟩
 · exact ⟨Zgp (by decide),Zig rfl _⟩
 · exact ⟨Zgf (by decide),Zfx (.cons (by decide) (by decide))⟩
 · exact ⟨Zfb (c:=43) (by decide),Zsr (c:=43) (by decide) _⟩
 · exact ⟨Zfb (c:=45) (by decide),Zsr (c:=45) (by decide) _⟩
 · exact ⟨Zfb (c:=42) (by decide),Zsr (c:=42) (by decide) _⟩
theorem pcs_ph:∀ (n:Nat) (e:Et),e.ht≤n→Zbt e=true→okN e=true→Ph (Zkd e):=by
 intro n
 induction n with
 | zero=>intro e h;cases e;rw[Et.ht]at h;omega
 | succ n ih=>
   intro e hh hr hn
   cases e with
   | mk o k s t ns l=>
     obtain ⟨hc,hb,hp,hl⟩:=Zbh hr
     obtain ⟨c1,c2,c3,c4,c5,c6,c7⟩:=Zoi hc
     obtain ⟨b1,b2,b3,b4⟩:=Zwm hb
     rw[Et.ht]at hh
     rw[okN,Bool.and_eq_true]at hn
     have hmax:=of_decide_eq_true hn.1
     have kid:∀ a ∈ l,Ph (Zkd a):=fun a hm=>ih a (by have:=Et.ht_mem hm;omega) (Zeo hl hm) (Zoc hn.2 hm)
     have kids:∀ p ∈ l.map Zkd,Ph p:=fun p hp=>by
      obtain ⟨a,ha,rfl⟩:=List.mem_map.1 hp
      exact kid a ha
     clear ih hh hl hc hb hn hr
     unfold Zcx at hp
     rw[Zxp]
     unfold Zya
     simp only[]
     by_cases q:o=1
     · rw[if_pos q]
       have:Zfj (tW (if k=1 then Zkv else Zhn)):=by split <;> exact Zgf (by decide)
       exact ⟨fst_w this _,fun r hr=>Zkf this (Zfx hr) trivial⟩
     rw[if_neg q]
     rw[if_neg q]at hp
     by_cases q:o=2
     · rw[if_pos q]
       rw[if_pos q]at hp
       have:Zfj (tN k):=.inr (.inl ⟨rfl,rfl,of_decide_eq_true hp,hmax⟩)
       exact ⟨⟨_,_,rfl,this,fun h=>by cases h⟩,fun r hr=>Zkf this (next_num hr) trivial⟩
     rw[if_neg q]
     rw[if_neg q]at hp
     by_cases q:o=3
     · rw[if_pos q]
       rw[if_pos (.inl q)]at hp
       exact ⟨⟨_,_,rfl,Zlx hp,fun h=>by cases h⟩,fun r hr=>Zkf (Zlx hp) (Zmd _ _) trivial⟩
     rw[if_neg q]
     by_cases q:o=4
     · rw[if_pos q]
       rw[if_neg (by omega),if_pos q,Zqi,Bool.and_eq_true,Bool.and_eq_true]at hp
       have h1:=ty_ph hp.1.1
       have h2:Zfj (tQ s.data.toList):=str_tok hp.1.2 (by have:=of_decide_eq_true hp.2;omega)
       exact ⟨h1.1.app _,fun r hr=>Zcr (h1.2 _ (Zky (by decide) (by decide) _ _)) (Zkf (Zgp (by decide)) (Zig rfl _) (Zkf h2 (Zmd _ _) trivial))⟩
     rw[if_neg q]
     by_cases q:o=5
     · rw[if_pos q]
       rw[if_neg (by omega),if_neg (by omega),if_pos q]at hp
       exact ⟨fst_w (var_tok hp) _,fun r hr=>Zkf (var_tok hp) (Zfx hr) trivial⟩
     rw[if_neg q]
     by_cases q:o=6
     · rw[if_pos q]
       exact ⟨Ztc (by decide) (by decide) _,fun r hr=>Zwu (by decide) (by decide) (Zcr (sep_ph _ kids _ (Zky (by decide) (by decide) _ _)) (Zml (by decide) (by decide) r))⟩
     rw[if_neg q]
     by_cases q:o=7
     · rw[if_pos q]
       rw[if_neg (by omega),if_neg (by omega),if_neg (by omega),if_neg (by omega),if_neg (by omega),if_pos q,Bool.and_eq_true,Zna,Bool.and_eq_true]at hp
       exact ⟨Ztc (by decide) (by decide) _,fun r hr=>Zwu (by decide) (by decide) (Zcr (sep_ph _ (rec_ph ns hp.2.1 _ kids) _ (Zky (by decide) (by decide) _ _)) (Zml (by decide) (by decide) r))⟩
     rw[if_neg q]
     by_cases q:o=8
     · rw[if_pos q]
       obtain ⟨a,rfl⟩:=len1 (c5 (by omega) (by omega))
       rw[if_neg (by omega),if_neg (by omega),if_neg (by omega),if_neg (by omega),if_pos (.inl q),Zoe,Bool.and_eq_true,Bool.and_eq_true]at hp
       have ha:Ph (Zkd a):=kid a (by simp)
       show Ph (Zoa (unE a) (Zkd a) ++ _)
       refine ⟨base_fst ha _,fun r hr=>?_⟩
       split
       · next hnm=>exact Zcr (Zym ha (Zky (by decide) (by decide) _ _)) (Zwu (by decide) (by decide) (Zkf (Zme hnm) (Zfx hr) trivial))
       · exact Zcr (Zym ha (Zky (by decide) (by decide) _ _)) (Zwu (by decide) (by decide) (Zkf (Zlx hp.1.1) (Zmd _ _) (Zml (by decide) (by decide) r)))
     rw[if_neg q]
     by_cases q:o=9
     · rw[if_pos q]
       obtain ⟨a,rfl⟩:=len1 (c5 (by omega) (by omega))
       rw[if_neg (by omega),if_neg (by omega),if_neg (by omega),if_neg (by omega),if_pos (.inr q),Zoe,Bool.and_eq_true,Bool.and_eq_true]at hp
       have ha:Ph (Zkd a):=kid a (by simp)
       show Ph (pp (tS [40]) :: (Zkd a ++ _))
       exact ⟨Ztc (by decide) (by decide) _,fun r hr=>Zwu (by decide) (by decide) (Zcr (ha.2 _ (Zwd _ _ _)) (Zwo (Zgf (by decide)) (Zfx (Zwd _ _ _)) (Zwo (Zsv hp.1.1) (Zvk _ (Zky (by decide) (by decide) _ _)) (Zml (by decide) (by decide) r))))⟩
     rw[if_neg q]
     by_cases q:o=10
     · rw[if_pos q]
       obtain ⟨a,rfl⟩:=len1 (c5 (by omega) (by omega))
       rw[if_neg (by omega),if_neg (by omega),if_neg (by omega),if_pos q]at hp
       have ha:Ph (Zkd a):=kid a (by simp)
       have hty:=ty_ph hp
       show Ph (pp (tS [40]) :: (Zkd a ++ _))
       exact ⟨Ztc (by decide) (by decide) _,fun r hr=>Zwu (by decide) (by decide) (Zcr (ha.2 _ (Zwd _ _ _)) (Zwo (Zgf (by decide)) (Zfx (cl_bl hty.1.ne _ _)) (Zcr (Zyo (hty.2 _ (Zky (by decide) (by decide) _ _))) (Zml (by decide) (by decide) r))))⟩
     rw[if_neg q]
     by_cases q:o=11
     · rw[if_pos q]
       obtain ⟨a,rfl⟩:=len1 (c5 (by omega) (by omega))
       rw[if_pos (.inr q)]at hp
       have ha:Ph (Zkd a):=kid a (by simp)
       show Ph (pp (tS [40]) :: (Zkd a ++ _))
       exact ⟨Ztc (by decide) (by decide) _,fun r hr=>Zwu (by decide) (by decide) (Zcr (ha.2 _ (Zwd _ _ _)) (Zwo (Zgf (by decide)) (Zfx (Zwd _ _ _)) (Zwo (Zlx hp) (Zmd _ _) (Zml (by decide) (by decide) r))))⟩
     rw[if_neg q]
     by_cases q:o=12
     · rw[if_pos q]
       obtain ⟨a,rfl⟩:=len1 (c5 (by omega) (by omega))
       have ha:Ph (Zkd a):=kid a (by simp)
       show Ph (pp (tS [33]) :: Zkd a)
       refine ⟨Ztc (by decide) (by decide) _,fun r hr=>Zkf (Zfb (by decide)) ?_ (ha.2 r hr)⟩
       obtain ⟨c,r',e,hc⟩:=fst_no61 ha.1 r
       rw[e]
       refine Zjk ?_ _
       cases hq:Zcc.contains [33,c] with
       | false=>rfl
       | true=>
         have:[33,c] ∈ Zcc:=by simpa using hq
         simp only[Zcc,List.mem_cons,List.not_mem_nil,or_false,List.cons.injEq,and_true]at this
         rcases this with ⟨h,_⟩|⟨_,h⟩|⟨h,_⟩|⟨h,_⟩|⟨h,_⟩|⟨h,_⟩|⟨h,_⟩ <;> first|exact absurd h hc|exact absurd h (by decide)
     rw[if_neg q]
     by_cases q:o=13
     · rw[if_pos q]
       obtain ⟨a,rfl⟩:=len1 (c5 (by omega) (by omega))
       have ha:Ph (Zkd a):=kid a (by simp)
       show Ph (pp (tS [45]) :: Zkd a)
       exact ⟨Ztc (by decide) (by decide) _,fun r hr=>Zwu (by decide) (by decide) (ha.2 r hr)⟩
     rw[if_neg q]
     by_cases q:o=14
     · rw[if_pos q]
       obtain ⟨a,b,d,rfl⟩:=len3 (c6 q)
       have ha:Ph (Zkd a):=kid a (by simp)
       have hb:Ph (Zkd b):=kid b (by simp)
       have hd:Ph (Zkd d):=kid d (by simp)
       show Ph (pp (tS [40]) :: pp (tW wIf) :: (bl (Zkd a) ++ pb (tW Zeu) :: (bl (Zkd b) ++ pb (tW Zem) :: (bl (Zkd d) ++ [pp (tS [41])]))))
       refine ⟨Ztc (by decide) (by decide) _,fun r hr=>Zwu (by decide) (by decide) (Zkf (Zgf (by decide)) (Zfx (cl_bl ha.1.ne _ _)) (Zcr (Zyo (ha.2 _ (Zwd _ _ _))) ?_))⟩
       refine Zwo (Zgf (by decide)) (Zfx (cl_bl hb.1.ne _ _)) (Zcr (Zyo (hb.2 _ (Zwd _ _ _))) ?_)
       exact Zwo (Zgf (by decide)) (Zfx (cl_bl hd.1.ne _ _)) (Zcr (Zyo (hd.2 _ (Zky (by decide) (by decide) _ _))) (Zml (by decide) (by decide) r))
     rw[if_neg q]
     obtain ⟨a,b,rfl⟩:=len2 (c7 (by omega))
     have ha:Ph (Zkd a):=kid a (by simp)
     have hb:Ph (Zkd b):=kid b (by simp)
     by_cases q:27≤o
     · rw[if_pos q]
       have hcall:Zfj (tW (Zfm o)):=by
        obtain rfl|rfl|rfl:o=27∨o=28∨o=29:=by omega
        all_goals exact Zgf (by decide)
       show Ph (Zoa (unE a) (Zkd a) ++ pp (tS [46]) :: pp (tW (Zfm o)) :: pp (tS [40]) :: (Zkd b ++ [pp (tS [41])]))
       refine ⟨base_fst ha _,fun r hr=>Zcr (Zym ha (Zky (by decide) (by decide) _ _)) (Zwu (by decide) (by decide) (Zkf hcall (Zfx (Zky (by decide) (by decide) _ _)) (Zwu (by decide) (by decide) ?_)))⟩
       exact Zcr (hb.2 _ (Zky (by decide) (by decide) _ _)) (Zml (by decide) (by decide) r)
     · rw[if_neg q]
       show Ph (pp (tS [40]) :: (Zkd a ++ pb (opT o) :: (bl (Zkd b) ++ [pp (tS [41])])))
       refine ⟨Ztc (by decide) (by decide) _,fun r hr=>Zwu (by decide) (by decide) (Zcr (ha.2 _ (Zwd _ _ _)) ?_)⟩
       have hop:=op_tok (o:=o) (by omega) (by omega) (txt (Zkd b) ++ txt [pp (tS [41])] ++ r)
       refine Zwo hop.1 ?_ (Zcr (Zyo (hb.2 _ (Zky (by decide) (by decide) _ _))) (Zml (by decide) (by decide) r))
       rw[Zef,Zih hb.1.ne]
       exact hop.2
theorem pcs_txt:∀ (n:Nat) (e:Et),e.ht≤n→Zbt e=true→okN e=true→txt (Zkd e)=Zao e:=by
 intro n
 induction n with
 | zero=>intro e h;cases e;rw[Et.ht]at h;omega
 | succ n ih=>
   intro e hh hr hn
   cases e with
   | mk o k s t ns l=>
     obtain ⟨hc,hb,hp,hl⟩:=Zbh hr
     obtain ⟨c1,c2,c3,c4,c5,c6,c7⟩:=Zoi hc
     rw[Et.ht]at hh
     rw[okN,Bool.and_eq_true]at hn
     rw[Zxp,showE_mk,nodeP_txt _ _ _ _ _ _ _ (fun p hp=>by
      obtain ⟨a,ha,rfl⟩:=List.mem_map.1 hp
      exact (pcs_ph n a (by have:=Et.ht_mem ha;omega) (Zeo hl ha) (Zoc hn.2 ha)).1.ne) c1 ⟨fun h=>by rw[List.length_map];have:=c6 h;omega,fun h=>by rw[List.length_map];have:=c7 h;omega⟩]
     congr 1
     rw[List.map_map]
     exact List.map_congr_left fun x hx=>ih x (by have:=Et.ht_mem hx;omega) (Zeo hl hx) (Zoc hn.2 hx)
theorem read_show {e:Et} (hr:Zbt e=true) (hn:okN e=true) (hl:(Zao e).length≤2048):∃ ts,Zln (Zao e)=.ok ts∧prL ts=.ok (e,[]):=by
 have h1:=pcs_txt e.ht e (Nat.le_refl _) hr hn
 have h2:=pcs_ph e.ht e (Nat.le_refl _) hr hn
 obtain ⟨ts,h3,h4⟩:=cut_txt (tail:=[]) Zjg (h2.2 [] Cl.nil) (by rw[List.append_nil,h1];exact hl)
 rw[List.append_nil,h1]at h3
 refine ⟨ts,h3,?_⟩
 have h5:ts.map Zql=(Zbd e).map Zql:=by
  rw[h4,←pcsE_snd e.ht e (Nat.le_refl _),List.map_map]
  rfl
 obtain ⟨r',h6,h7⟩:=Zsk h5.symm (prL_toks hr)
 rw[h6,List.map_eq_nil_iff.1 h7.symm]
open Go.RowKit
def Zok:NT→Nat
 | .rowT _ e=>e.nodes
 | .memT e=>e.nodes
 | .items _ _ l=>Et.nodess l+1
 | _=>0
def Nd (rc:NT→List Tok→Option (Zcs Et)):Prop:=∀ nt ts e r,rc nt ts=some (.ok (e,r))→e.nodes+r.length≤ts.length+Zok nt
theorem Zev:∀ (a b:List Et),Et.nodess (a ++ b)=Et.nodess a+Et.nodess b
 | [],b=>by rw[Et.nodess];simp
 | x :: a,b=>by rw[List.cons_append,Et.nodess,Et.nodess,Zev a b];omega
theorem Zcm (o:Nat) (n:Int) (s t:ByteArray) (ns:List ByteArray) (l:List Et):(Et.mk o n s t ns l).nodes=Et.nodess l+1:=by rw[Et.nodes]
theorem Zdx (a:Et):Et.nodess [a]=a.nodes:=by rw[Et.nodess,Et.nodess];rfl
theorem Zlj (a b:Et):Et.nodess [a,b]=a.nodes+b.nodes:=by rw[Et.nodess,Zdx]
theorem nodess3 (a b c:Et):Et.nodess [a,b,c]=a.nodes+(b.nodes+c.nodes):=by rw[Et.nodess,Zlj]
theorem Zjj:Et.nodess []=0:=by rw[Et.nodess]
section
variable {rc:NT→List Tok→Option (Zcs Et)}
theorem Zfy {x:Option (Zcs Et)} {k:Et→List Tok→Option (Zcs Et)} {e:Et} {r:List Tok} (h:Zcn x k=some (.ok (e,r))):∃ e1 r1,x=some (.ok (e1,r1))∧k e1 r1=some (.ok (e,r)):=by
 rcases Zbp h with ⟨e0,_,h2⟩|h
 · cases h2
 · exact h
theorem Zgt {α:Type} {x:Zcs α} {k:α→List Tok→Option (Zcs Et)} {e:Et} {r:List Tok} (h:Zdc x k=some (.ok (e,r))):∃ a r1,x=.ok (a,r1)∧k a r1=some (.ok (e,r)):=by
 rcases Zca h with ⟨e0,_,h2⟩|h
 · cases h2
 · exact h
theorem Zjo {α:Type} {x:Zcs α} {ts r:List Tok} {n:Nat} {a:α} (h:PS x ts n) (e:x=.ok (a,r)):r.length+n≤ts.length:=by rw[e]at h;exact h.2
theorem step_nd (hrc:Nd rc):Nd (Zbj rc):=by
 intro nt ts e r h
 cases nt with
 | expr=>
   cases ts with
   | nil=>exact hrc (.lv 0) _ _ _ h
   | cons t ts=>
     rw[Zhq]at h
     split at h
     · obtain ⟨a,r1,h1,h⟩:=Zfy h
       obtain ⟨_,r2,h2,h⟩:=Zgt h
       obtain ⟨b,r3,h3,h⟩:=Zfy h
       obtain ⟨_,r4,h4,h⟩:=Zgt h
       obtain ⟨c,r5,h5,h⟩:=Zfy h
       cases h
       have q1:=hrc _ _ _ _ h1
       have q2:=Zjo (Zkg _ _) h2
       have q3:=hrc _ _ _ _ h3
       have q4:=Zjo (Zkg _ _) h4
       have q5:=hrc _ _ _ _ h5
       unfold Zbk
       rw[Zcm,nodess3]
       simp only[Zok,List.length_cons]at *
       omega
     · exact hrc (.lv 0) _ _ _ h
 | lv k=>
   by_cases h2:k=2
   · subst h2
     rw[Zip]at h
     obtain ⟨a,r1,h1,h⟩:=Zfy h
     have q1:=hrc _ _ _ _ h1
     cases r1 with
     | nil=>cases h;simpa [Zok] using q1
     | cons t r1=>
       simp only[Zsj]at h
       simp only[Zok,List.length_cons]at *
       split at h
       · obtain ⟨b,r3,h3,h⟩:=Zfy h
         cases h
         have q3:=hrc _ _ _ _ h3
         unfold Zbk
         rw[Zcm,Zlj]
         simp only[Zok]at q3
         omega
       split at h
       · obtain ⟨b,r3,h3,h⟩:=Zfy h
         cases h
         have q3:=hrc _ _ _ _ h3
         unfold Zbk
         rw[Zcm,Zlj]
         simp only[Zok]at q3
         omega
       split at h
       · obtain ⟨s,r3,h3,h⟩:=Zgt h
         cases h
         have q3:=Zjo (Zmg _) h3
         rw[Zcm,Zdx]
         omega
       split at h
       · obtain ⟨s,r3,h3,h⟩:=Zgt h
         cases h
         have q3:=Zjo (Zry _) h3
         rw[Zcm,Zdx]
         omega
       split at h
       · obtain ⟨s,r3,h3,h⟩:=Zgt h
         cases h
         have q3:=Zjo (Zkh _) h3
         rw[Zcm,Zdx]
         omega
       cases h
       simpa using q1
   by_cases h5:k=5
   · subst h5
     cases ts with
     | nil=>exact hrc (.lv 6) _ _ _ h
     | cons t ts=>
       rw[Zqj]at h
       split at h
       · obtain ⟨b,r3,h3,h⟩:=Zfy h
         cases h
         have q3:=hrc _ _ _ _ h3
         unfold Zbk
         rw[Zcm,Zdx]
         simp only[Zok,List.length_cons]at *
         omega
       split at h
       · obtain ⟨b,r3,h3,h⟩:=Zfy h
         cases h
         have q3:=hrc _ _ _ _ h3
         unfold Zbk
         rw[Zcm,Zdx]
         simp only[Zok,List.length_cons]at *
         omega
       exact hrc (.lv 6) _ _ _ h
   by_cases h6:k=6
   · subst h6
     obtain ⟨a,r1,h1,h⟩:=Zfy h
     have q1:=hrc _ _ _ _ h1
     have q2:=hrc _ _ _ _ h
     simp only[Zok]at *
     omega
   by_cases h7:k=7
   · subst h7
     cases ts with
     | nil=>cases h
     | cons t ts=>
       have hbrk:∀ b:Bool,Zqe rc b ts=some (.ok (e,r))→e.nodes+r.length≤(t :: ts).length+0:=by
        intro b h
        cases ts with
        | nil=>
          have q:=hrc _ _ _ _ h
          simp only[Zok,Zjj,List.length_cons,List.length_nil]at *
          omega
        | cons t2 ts2=>
          simp only[Zqe]at h
          split at h
          · cases h
            rw[Zcm,Zjj]
            simp only[List.length_cons]
            omega
          · have q:=hrc _ _ _ _ h
            simp only[Zok,Zjj,List.length_cons]at *
            omega
       rw[Zfr]at h
       show e.nodes+r.length≤(t :: ts).length+0
       split at h
       · cases h;rw[Zcm,Zjj];simp only[List.length_cons];omega
       split at h
       · cases h;rw[Zcm,Zjj];simp only[List.length_cons];omega
       split at h
       · cases h;rw[Zcm,Zjj];simp only[List.length_cons];omega
       split at h
       · cases h;rw[Zcm,Zjj];simp only[List.length_cons];omega
       split at h
       · cases h;rw[Zcm,Zjj];simp only[List.length_cons];omega
       split at h
       · obtain ⟨a,r1,h1,h⟩:=Zfy h
         obtain ⟨_,r2,h2,h⟩:=Zgt h
         cases h
         have q1:=hrc _ _ _ _ h1
         have q2:=Zjo (Zgh _ _) h2
         simp only[Zok,List.length_cons]at *
         omega
       split at h
       · exact hbrk _ h
       split at h
       · exact hbrk _ h
       obtain ⟨u,r1,h1,h⟩:=Zgt h
       cases h
       have q1:=Zjo (Zww _) h1
       rw[Zcm,Zjj]
       omega
   rw[Zlu k h2 h5 h6 h7]at h
   obtain ⟨a,r1,h1,h⟩:=Zfy h
   have q1:=hrc _ _ _ _ h1
   have q2:=hrc _ _ _ _ h
   simp only[Zok]at *
   omega
 | rowT k a=>
   cases ts with
   | nil=>cases h;simp only[Zok];omega
   | cons t ts=>
     rw[Zgv]at h
     split at h
     · obtain ⟨b,r1,h1,h⟩:=Zfy h
       have q1:=hrc _ _ _ _ h1
       have q2:=hrc _ _ _ _ h
       unfold Zbk at q2
       simp only[Zok,Zcm,Zlj,List.length_cons]at *
       omega
     · cases h;simp only[Zok];omega
 | memT a=>
   cases ts with
   | nil=>cases h;simp only[Zok];omega
   | cons t ts=>
     rw[Zgd]at h
     split at h
     · obtain ⟨s,r1,h1,h⟩:=Zgt h
       obtain ⟨_,r2,h2,h⟩:=Zgt h
       have q1:=Zjo (Zkh _) h1
       have q2:=Zjo (Zgh _ _) h2
       have q3:=hrc _ _ _ _ h
       simp only[Zok,Zcm,Zdx,List.length_cons]at *
       omega
     split at h
     · obtain ⟨s,r1,h1,h⟩:=Zgt h
       have q1:=Zjo (Zss _) h1
       cases r1 with
       | nil=>
         have q3:=hrc _ _ _ _ h
         simp only[Zok,Zcm,Zdx,List.length_cons,List.length_nil]at *
         omega
       | cons t2 r1=>
         simp only[dotT]at h
         split at h
         · obtain ⟨b,r3,h3,h⟩:=Zfy h
           obtain ⟨_,r4,h4,h⟩:=Zgt h
           have q3:=hrc _ _ _ _ h3
           have q4:=Zjo (Zgh _ _) h4
           have q5:=hrc _ _ _ _ h
           unfold Zbk at q5
           simp only[Zok,Zcm,Zlj,List.length_cons]at *
           omega
         · have q3:=hrc _ _ _ _ h
           simp only[Zok,Zcm,Zdx,List.length_cons]at *
           omega
     · cases h;simp only[Zok];omega
 | items b ns l=>
   rw[Zfs]at h
   obtain ⟨ns2,r1,h1,h⟩:=Zgt h
   obtain ⟨a,r2,h2,h⟩:=Zfy h
   have q1:=Zjo (Zsy _ _ _) h1
   have q2:=hrc _ _ _ _ h2
   cases r2 with
   | nil=>cases h
   | cons t r2=>
     simp only[Znc]at h
     split at h
     · have q3:=hrc _ _ _ _ h
       simp only[Zok,Zev,Zdx,List.length_cons]at *
       omega
     split at h
     · cases h
       rw[Zcm,Zev,Zdx]
       simp only[Zok,List.length_cons]at *
       omega
     cases h
end
theorem pr_nd:∀ f:Nat,Nd (pr f):=by
 intro f
 induction f with
 | zero=>intro nt ts e r h;cases h
 | succ f ih=>exact step_nd ih
theorem prL_nodes {ts r:List Tok} {e:Et} (h:prL ts=.ok (e,r)):e.nodes+r.length≤ts.length:=by
 have h2:=Zpm ts
 rw[h]at h2
 exact pr_nd _ _ _ _ _ h2
def sumL:List (List UInt8)→Nat
 | []=>0
 | x :: X=>x.length+sumL X
theorem Zxj:∀ X:List (List UInt8),(Zhr X).length≤sumL X+2 * X.length
 | []=>by simp[Zhr]
 | [k]=>by simp[Zhr,sumL]
 | k :: q :: l=>by
   have h:=Zxj (q :: l)
   rw[Zhr,sumL]
   simp only[List.length_append,List.length_cons]at h ⊢
   omega
theorem recS_le:∀ (ns:List ByteArray) (K:List (List UInt8)),(∀ x ∈ ns,(Zdi x.data.toList).length≤130)→sumL (Zrb ns K)≤sumL K+132 * K.length∧(Zrb ns K).length≤K.length
 | [],K,_=>by simp[Zrb,sumL]
 | x :: ns,[],_=>by simp[Zrb,sumL]
 | x :: ns,k :: K,h=>by
   obtain ⟨h1,h2⟩:=recS_le ns K (fun y hy=>h y (by simp[hy]))
   have h3:=h x (by simp)
   unfold Zrb at h1 h2 ⊢
   rw[List.zipWith_cons_cons,sumL,sumL]
   simp only[List.length_append,List.length_cons]at h1 h2 ⊢
   omega
theorem Zzd:∀ l:List Et,(∀ x ∈ l,(Zao x).length≤8192 * x.nodes)→sumL (Zaz l)≤8192 * Et.nodess l
 | [],_=>by rw[Zaz,sumL];omega
 | x :: l,h=>by
   rw[Zaz,sumL,Et.nodess]
   have h1:=h x (by simp)
   have h2:=Zzd l (fun y hy=>h y (by simp[hy]))
   omega
theorem Zvy:∀ (k u:Nat),u < 10 ^ (k+1)→Lib.nDigits u≤k+1
 | 0,u,h=>by rw[Lib.nDigits_small (by simpa using h)];exact Nat.le_refl _
 | k+1,u,h=>by
   by_cases hu:u < 10
   · rw[Lib.nDigits_small hu];omega
   · rw[Lib.nDigits_big hu]
     have:=Zvy k (u / 10) (by
      rw[Nat.div_lt_iff_lt_mul (by decide)]
      rw[show (10:Nat) ^ (k+1) * 10=10 ^ (k+1+1) from (Nat.pow_succ 10 (k+1)).symm]
      exact h)
     omega
theorem itoa_len {n:Int} (h0:0≤n) (h1:n≤9223372036854775807):0 < (Lib.itoa n).length∧(Lib.itoa n).length≤19:=by
 obtain ⟨u,rfl⟩:=Int.eq_ofNat_of_zero_le h0
 have hu:u < 10 ^ 19:=by
  have:u≤9223372036854775807:=by omega
  have e:(10:Nat) ^ 19=10000000000000000000:=by decide
  omega
 have e:Lib.itoa (u:Int)=Lib.decDigits u:=by
  unfold Lib.itoa
  rw[if_neg (by omega)]
  simp
 rw[e,Lib.decDigits_length]
 exact ⟨Lib.nDigits_pos u,Zvy 18 u hu⟩
theorem base_len (u:Bool) (k:List UInt8):(Zha u k).length≤k.length+2∧k.length≤(Zha u k).length:=by
 unfold Zha
 cases u <;> simp <;> omega
theorem var_len {s:ByteArray} (h:Zea.contains s.data.toList=true):0 < s.data.toList.length∧s.data.toList.length≤9:=by
 have hm:s.data.toList ∈ Zea:=by simpa using h
 have:∀ x ∈ Zea,0 < x.length∧x.length≤9:=by decide
 exact this _ hm
theorem Zob:∀ (N:Nat) (e:Et),e.ht≤N→Zbt e=true→okN e=true→0 < (Zao e).length∧(Zao e).length≤8192 * e.nodes:=by
 intro N
 induction N with
 | zero=>intro e h;cases e;rw[Et.ht]at h;omega
 | succ N ih=>
   intro e hht hr hk
   obtain ⟨o,n,s,t,ns,l⟩:=e
   obtain ⟨hc,hbr,hpt,hrs⟩:=Zbh hr
   rw[Et.ht]at hht
   rw[okN,Bool.and_eq_true]at hk
   have hn1:=of_decide_eq_true hk.1
   have hkids:∀ x ∈ l,0 < (Zao x).length∧(Zao x).length≤8192 * x.nodes:=fun x hx=>ih x (by have:=Et.ht_mem hx;omega) (Zeo hrs hx) (Zoc hk.2 hx)
   have hsum:=Zzd l (fun x hx=>(hkids x hx).2)
   rw[Zao,Et.nodes]
   have hql:∀ {x:ByteArray},Zfu x=true→(Zbi x.data.toList).length≤514:=fun {x} h=>by
    have h1:=Zkb x.data.toList
    have h2:=Zpk h
    rw[←Lib.size_eq]at h1
    omega
   have hlb:∀ {x:ByteArray},Zoe x=true→(Zdi x.data.toList).length≤130∧x.data.toList.length≤64:=fun {x} h=>by
    have h1:=Zvh x.data.toList
    unfold Zoe at h
    rw[Bool.and_eq_true]at h
    have h2:=of_decide_eq_true h.2
    rw[←Lib.size_eq]at h1 ⊢
    omega
   have hty:∀ {x:List UInt8},Zhe x=true→x.length≤64:=fun {x} h=>by
    unfold Zhe at h
    rw[Bool.and_eq_true]at h
    exact of_decide_eq_true h.1
   rcases (show o=0∨o=1∨o=2∨o=3∨o=4∨o=5∨o=6∨o=7∨o=8∨o=9∨o=10∨o=11∨o=12∨o=13∨o=14∨(15≤o∧o < 27)∨(27≤o∧o < 30)∨30≤o by omega) with h|h|h|h|h|h|h|h|h|h|h|h|h|h|h|h|h|h
   · subst h;simp[Zld]at hc
   · subst h
     show 0 < (if n=1 then Zkv else Zhn).length∧(if n=1 then Zkv else Zhn).length≤_
     by_cases h1:n=1
     · rw[if_pos h1];have e:Zkv.length=4:=rfl;rw[e];omega
     · rw[if_neg h1];have e:Zhn.length=5:=rfl;rw[e];omega
   · subst h
     have hp:0≤n:=by simpa [Zcx] using hpt
     have:=itoa_len hp hn1
     show 0 < (Lib.itoa n).length∧(Lib.itoa n).length≤_
     omega
   · subst h
     have hp:Zfu s=true:=by simpa [Zcx] using hpt
     have:=hql hp
     show 0 < (Zbi s.data.toList).length∧(Zbi s.data.toList).length≤_
     have h0:0 < (Zbi s.data.toList).length:=by unfold Zbi;simp
     omega
   · subst h
     have hp:Zqi t s=true:=by simpa [Zcx] using hpt
     unfold Zqi at hp
     rw[Bool.and_eq_true,Bool.and_eq_true]at hp
     have h1:=hty hp.1.1
     have h2:=of_decide_eq_true hp.2
     have h3:=Zkb s.data.toList
     rw[←Lib.size_eq]at h3
     show 0 < (t.data.toList ++ 58 :: 58 :: Zbi s.data.toList).length∧(t.data.toList ++ 58 :: 58 :: Zbi s.data.toList).length≤_
     simp only[List.length_append,List.length_cons]
     omega
   · subst h
     have hp:Zea.contains s.data.toList=true:=by simpa [Zcx] using hpt
     have:=var_len hp
     show 0 < s.data.toList.length∧s.data.toList.length≤_
     omega
   · subst h
     have hl:l.length≤16:=by simpa [Zld,Zfn] using hc
     have h1:=Zxj (Zaz l)
     have h2:(Zaz l).length=l.length:=by rw[Zge,List.length_map]
     show 0 < (91 :: (Zhr (Zaz l) ++ [93])).length∧(91 :: (Zhr (Zaz l) ++ [93])).length≤_
     simp only[List.length_append,List.length_cons,List.length_nil]
     omega
   · subst h
     have hl:l.length≤16:=by simpa [Zld,Zfn] using hc
     have hp:ns.length=l.length∧Zna ns=true:=by simpa [Zcx] using hpt
     have hnm:∀ x ∈ ns,(Zdi x.data.toList).length≤130:=fun x hx=>by
      have:=hp.2
      unfold Zna at this
      rw[Bool.and_eq_true,List.all_eq_true]at this
      exact (hlb (this.1 x hx)).1
     have h0:=recS_le ns (Zaz l) hnm
     have h1:=Zxj (Zrb ns (Zaz l))
     have h2:(Zaz l).length=l.length:=by rw[Zge,List.length_map]
     show 0 < (123 :: (Zhr (Zrb ns (Zaz l)) ++ [125])).length∧(123 :: (Zhr (Zrb ns (Zaz l)) ++ [125])).length≤_
     simp only[List.length_append,List.length_cons,List.length_nil]
     omega
   · subst h
     have hlm:l.length=1:=by simpa [Zld,Zfn] using hc
     obtain ⟨y0,rfl⟩:=List.length_eq_one_iff.1 hlm
     have hp:Zoe s=true:=by simpa [Zcx] using hpt
     have hb:=base_len (([y0]:List Et).head?.elim false unE) (Zao y0)
     have hk0:=hkids y0 (by simp)
     have h2:=hlb hp
     have h3:=hql (Zod hp)
     rw[Zdx]
     show 0 < (Zha (([y0]:List Et).head?.elim false unE) (Zao y0) ++ (if Zcu s.data.toList then 46 :: s.data.toList else 91 :: (Zbi s.data.toList ++ [93]))).length∧(Zha (([y0]:List Et).head?.elim false unE) (Zao y0) ++ (if Zcu s.data.toList then 46 :: s.data.toList else 91 :: (Zbi s.data.toList ++ [93]))).length≤_
     rw[List.length_append]
     split <;> simp only[List.length_cons,List.length_append,List.length_nil] <;> omega
   · subst h
     have hlm:l.length=1:=by simpa [Zld,Zfn] using hc
     obtain ⟨y0,rfl⟩:=List.length_eq_one_iff.1 hlm
     have hp:Zoe s=true:=by simpa [Zcx] using hpt
     have hk0:=hkids y0 (by simp)
     have h2:=hlb hp
     rw[Zdx]
     show 0 < (40 :: (Zao y0 ++ 32 :: (Zjt ++ 32 :: (Zdi s.data.toList ++ [41])))).length∧(40 :: (Zao y0 ++ 32 :: (Zjt ++ 32 :: (Zdi s.data.toList ++ [41])))).length≤_
     simp only[List.length_cons,List.length_append,List.length_nil,show Zjt.length=3 from rfl]
     omega
   · subst h
     have hlm:l.length=1:=by simpa [Zld,Zfn] using hc
     obtain ⟨y0,rfl⟩:=List.length_eq_one_iff.1 hlm
     have hp:Zhe t.data.toList=true:=by simpa [Zcx] using hpt
     have hk0:=hkids y0 (by simp)
     have h2:=hty hp
     rw[Zdx]
     show 0 < (40 :: (Zao y0 ++ 32 :: (wIs ++ 32 :: (t.data.toList ++ [41])))).length∧(40 :: (Zao y0 ++ 32 :: (wIs ++ 32 :: (t.data.toList ++ [41])))).length≤_
     simp only[List.length_cons,List.length_append,List.length_nil,show wIs.length=2 from rfl]
     omega
   · subst h
     have hlm:l.length=1:=by simpa [Zld,Zfn] using hc
     obtain ⟨y0,rfl⟩:=List.length_eq_one_iff.1 hlm
     have hp:Zfu s=true:=by simpa [Zcx] using hpt
     have hk0:=hkids y0 (by simp)
     have h2:=hql hp
     rw[Zdx]
     show 0 < (40 :: (Zao y0 ++ 32 :: (Zel ++ 32 :: (Zbi s.data.toList ++ [41])))).length∧(40 :: (Zao y0 ++ 32 :: (Zel ++ 32 :: (Zbi s.data.toList ++ [41])))).length≤_
     simp only[List.length_cons,List.length_append,List.length_nil,show Zel.length=4 from rfl]
     omega
   · subst h
     have hlm:l.length=1:=by simpa [Zld,Zfn] using hc
     obtain ⟨y0,rfl⟩:=List.length_eq_one_iff.1 hlm
     have hk0:=hkids y0 (by simp)
     rw[Zdx]
     show 0 < (33 :: Zao y0).length∧(33 :: Zao y0).length≤_
     simp only[List.length_cons]
     omega
   · subst h
     have hlm:l.length=1:=by simpa [Zld,Zfn] using hc
     obtain ⟨y0,rfl⟩:=List.length_eq_one_iff.1 hlm
     have hk0:=hkids y0 (by simp)
     rw[Zdx]
     show 0 < (45 :: Zao y0).length∧(45 :: Zao y0).length≤_
     simp only[List.length_cons]
     omega
   · subst h
     have hlm:l.length=3:=by simpa [Zld,Zfn] using hc
     obtain ⟨y0,y1,y2,rfl⟩:=Zvi hlm
     have hk0:=hkids y0 (by simp)
     have hk1:=hkids y1 (by simp)
     have hk2:=hkids y2 (by simp)
     rw[nodess3]
     show 0 < (40 :: (wIf ++ 32 :: (Zao y0 ++ 32 :: (Zeu ++ 32 :: (Zao y1 ++ 32 :: (Zem ++ 32 :: (Zao y2 ++ [41]))))))).length∧(40 :: (wIf ++ 32 :: (Zao y0 ++ 32 :: (Zeu ++ 32 :: (Zao y1 ++ 32 :: (Zem ++ 32 :: (Zao y2 ++ [41]))))))).length≤_
     simp only[List.length_cons,List.length_append,List.length_nil,show wIf.length=2 from rfl,show Zeu.length=4 from rfl,show Zem.length=4 from rfl]
     omega
   · have hlm:=bin_kids h.1 h.2 hc
     obtain ⟨y0,y1,rfl⟩:=Zmz hlm
     have hk0:=hkids y0 (by simp)
     have hk1:=hkids y1 (by simp)
     have h2:=Zzk h.1 h.2
     rw[Zlj,Zvd h.1 h.2]
     show 0 < (40 :: (Zao y0 ++ 32 :: (Zjn o ++ 32 :: (Zao y1 ++ [41])))).length∧(40 :: (Zao y0 ++ 32 :: (Zjn o ++ 32 :: (Zao y1 ++ [41])))).length≤_
     simp only[List.length_cons,List.length_append,List.length_nil]
     omega
   · have hlm:l.length=2:=by
      rcases (show o=27∨o=28∨o=29 by omega) with rfl|rfl|rfl <;> simpa [Zld,Zfn] using hc
     obtain ⟨y0,y1,rfl⟩:=Zmz hlm
     have hk0:=hkids y0 (by simp)
     have hk1:=hkids y1 (by simp)
     have hb:=base_len (([y0,y1]:List Et).head?.elim false unE) (Zao y0)
     rw[Zlj]
     have hs:Zxz o n s.data.toList t.data.toList ns (Zaz [y0,y1]) (([y0,y1]:List Et).head?.elim false unE)=Zha (([y0,y1]:List Et).head?.elim false unE) (Zao y0) ++ 46 :: (Zfm o ++ 40 :: (Zao y1 ++ [41])):=by
      rcases (show o=27∨o=28∨o=29 by omega) with rfl|rfl|rfl <;> rfl
     have hcl:(Zfm o).length≤11:=by
      rcases (show o=27∨o=28∨o=29 by omega) with rfl|rfl|rfl <;> decide
     rw[hs]
     simp only[List.length_cons,List.length_append,List.length_nil]
     omega
   · exfalso
     unfold Zld at hc
     rw[Bool.and_eq_true,Bool.and_eq_true]at hc
     have:=of_decide_eq_true hc.1.2
     omega
end Go.Proofs.YtnhooehmcggmdaaGreatDoor
