/-
  A layer of contracts over the abstract machine. Lemmas alone; no condition.
-/
import Derived.Test.YtlpmfgmldmdggaaGreatA3
namespace Go.RM
open Go
section
variable {T : bh} {tab : List XE} {one : Bool} {base : Nat} {E E' : Env} {st st' : aR} {s s' : St} {n n' : Nat}
def Il (E:Env) (hp:List AB) (H:Hp):Option Value→Option AV→Prop
 | none,y=>y=none
 | some v,y=>∃ a,y=some a∧AR E.ρ H.get (E.O hp) a v
def qt (E:Env) (base:Nat) (st:aR) (s:St) (K:Exit→aR→Option AV→Prop) (p:Exit × St × Option Value):Prop :=
 ∃ E' st' y,K p.1 st' y∧st'.fl=st.fl∧jD E' base st' p.2.1∧iK st.fl base E st.hp s.hp E' st'.hp p.2.1.hp∧Il E' st'.hp p.2.1.hp p.2.2 y
def gT (T:bh) (c:Code) (st:aR) (pv:Option AV) (K:Exit→aR→Option AV→Prop):Prop :=
 ∀ (E:Env) (base:Nat) (s:St) (v:Option Value),jD E base st s→Il E st.hp s.hp v pv→∃ p,jG T c s v=some p∧qt E base st s K p
theorem qt.from {K:Exit→aR→Option AV→Prop} {E1:Env} {uT:aR} {s1:St} {p:Exit × St × Option Value} (hfl:uT.fl=st.fl) (hf:iK st.fl base E st.hp s.hp E1 uT.hp s1.hp) (h:qt E1 base uT s1 K p):qt E base st s K p:=by
 obtain ⟨E',st',y,k1,k0,k2,k3,k4⟩:=h
 rw [hfl] at k3
 exact ⟨E',st',y,k1,k0.trans hfl,k2,hf.trans k3,k4⟩
def GN (T:bh) (mu:Tmp→Bool) (dst:Option Tmp) (op:Op) (st:aR) (pv:Option AV) (K:aR→Option AV→Prop):Prop :=
 match op with
 | .call ⟨.builtin .recover,_,_⟩=>gv dst st.fr (match pv with|some a=>a|none=>.fl .nilIface) fun fr'=>K ⟨fr',st.hp,st.av,st.rd,st.fl⟩ none
 | op=>cv op=.plain∧wpOp T (EO mu dst) op st.fr st.hp fun v hp'=>force v fun v=>gv dst st.fr v fun fr'=>K ⟨fr',hp',st.av,st.rd,st.fl⟩ pv
def wpOpsS (T:bh) (mu:Tmp→Bool) (ops:List Oper):List Oper→aR→Option AV→(aR→Option AV→Prop)→Prop
 | [],st,pv,K=>K st pv
 | ⟨dst,op,_,_,_,gd⟩ :: l,st,pv,K=>cY ops gd st.fr (GN T mu dst op st pv fun st' pv'=>wpOpsS T mu ops l st' pv' K) (gv dst st.fr (.tp []) fun fr'=>wpOpsS T mu ops l ⟨fr',st.hp,st.av,st.rd,st.fl⟩ pv K)
theorem Il.DN {v:Option Value} {pv:Option AV} (h:Il E st.hp s.hp v pv) (hs:jD E base st s) {hp':List AB} {H':Hp} (k:iK st.hp.length base E st.hp s.hp E' hp' H'):Il E' hp' H' v pv:=by
 cases v with
 | none=>exact h
 | some v =>
  obtain ⟨a,rfl,ha⟩:=h
  exact ⟨a,rfl,k.ar hs.h ha⟩
theorem nD {mu:Tmp→Bool} {ops:List Oper}:∀ {l:List Oper} {st:aR} {pv:Option AV} {K:aR→Option AV→Prop},wpOpsS T mu ops l st pv K→∀ {E:Env} {base:Nat} {s:St} {v:Option Value},jD E base st s→Il E st.hp s.hp v pv →
  ∃ p,fP T ops l s v=some p∧qt E base st s (fun _=>K) (.normal,p.1,p.2)
 | [],st,pv,K,h,E,base,s,v,hs,hv=>⟨(s,v),rfl,E,st,pv,h,rfl,hs,.refl,hv⟩
 | o :: l,st,pv,K,h,E,base,s,v,hs,hv=>by
  have h:cY ops o.guard st.fr (GN T mu o.dst o.op st pv fun st' pv'=>wpOpsS T mu ops l st' pv' K) (gv o.dst st.fr (.tp []) fun fr'=>wpOpsS T mu ops l ⟨fr',st.hp,st.av,st.rd,st.fl⟩ pv K):=h
  rw [lX]
  rcases wI hs.fr h with ⟨hg,h⟩|⟨hg,h⟩
  ·rw [hg]
   simp only [cond_true]
   have rest:∀ {E':Env} {st':aR} {s':St} {pv':Option AV} {v':Option Value},st'.fl=st.fl→iK st.fl base E st.hp s.hp E' st'.hp s'.hp→jD E' base st' s'→Il E' st'.hp s'.hp v' pv'→wpOpsS T mu ops l st' pv' K→∃ p,fP T ops l s' v'=some p∧qt E base st s (fun _=>K) (.normal,p.1,p.2):=by
    intro E' st' s' pv' v' hfl hfm hs' hv' hw
    obtain ⟨p,h1,h2⟩:=nD hw hs' hv'
    exact ⟨p,h1,qt.from hfl hfm h2⟩
   have plain:cv o.op=.plain→(wpOp T (EO mu o.dst) o.op st.fr st.hp fun v hp'=>force v fun v=>gv o.dst st.fr v fun fr'=>wpOpsS T mu ops l ⟨fr',hp',st.av,st.rd,st.fl⟩ pv K)→∃ u e,jS T s.hp.n o.op (aL s.fr) s.hp.get=some (u,e)∧∃ p,fP T ops l ⟨cP s.fr o.dst u,s.hp.app e,s.rd⟩ v=some p∧qt E base st s (fun _=>K) (.normal,p.1,p.2):=by
    intro hk h
    obtain ⟨u,e,E',a,hp',r1,r2,r3,r4,r5⟩:=qH hs.h hs.fr h
    refine ⟨u,e,r1,?_⟩
    exact rest (st':=⟨tf st.fr o.dst a,hp',st.av,st.rd,st.fl⟩) rfl r4.DN ⟨r3,hs.rd,jr (r4.DN.fr hs.h hs.fr) r5 o.dst⟩ (hv.DN hs r4.DN) (gJ (dH r2))
   unfold GN at h
   split at h
   ·rename_i hop
    have hS:HD T o.op s v=some (v.getD .nilIface,s.hp,none):=by
     unfold HD
     rw [hop]
     cases v <;> rfl
    rw [hS]
    simp only
    cases v with
    | none =>
     obtain rfl:pv=none:=hv
     exact rest (st':=⟨tf st.fr o.dst (.fl .nilIface),st.hp,st.av,st.rd,st.fl⟩) (s':=⟨cP s.fr o.dst .nilIface,s.hp,s.rd⟩) rfl .refl ⟨hs.h,hs.rd,jr hs.fr (.d (.fl rfl)) o.dst⟩ rfl (gJ h)
    | some v =>
     obtain ⟨a,rfl,ha⟩:=hv
     exact rest (st':=⟨tf st.fr o.dst a,st.hp,st.av,st.rd,st.fl⟩) (s':=⟨cP s.fr o.dst v,s.hp,s.rd⟩) rfl .refl ⟨hs.h,hs.rd,jr hs.fr ha o.dst⟩ rfl (gJ h)
   ·rename_i op hne
    obtain ⟨u,e,q1,q2⟩:=plain h.1 h.2
    have hS:HD T o.op s v=some (u,s.hp.app e,v):=by
     unfold HD
     split
     ·rename_i hop
      exact absurd hop (hne _ _)
     ·simp only [h.1,q1]
    rw [hS]
    exact q2
  ·rw [hg]
   simp only [cond_false]
   obtain ⟨p,h1,h2⟩:=nD (gJ h) (E:=E) (base:=base) (s:=⟨cP s.fr o.dst undef,s.hp,s.rd⟩) (v:=v) ⟨hs.h,hs.rd,jr hs.fr wH o.dst⟩ hv
   exact ⟨p,h1,h2⟩
theorem gT.ops {id:Nat} {ops:Array Oper} {pv:Option AV} {mu:Tmp→Bool} {K:Exit→aR→Option AV→Prop} (h:wpOpsS T mu ops.toList ops.toList st pv (K .normal)):gT T (.region id ops false) st pv K:=by
 intro E base s v hs hv
 obtain ⟨p,h1,E',st',y,k1,k2⟩:=nD h hs hv
 refine ⟨(.normal,p.1,p.2),?_,E',st',y,k1,k2⟩
 rw [lY]
 simp only [cond_false,h1]
def KP (Kb:aR→Option AV→Prop) (K:Exit→aR→Option AV→Prop) (e:Exit) (s:aR) (y:Option AV):Prop :=
 match e with
 | .normal=>Kb s y
 | e=>K e s y
theorem gT.seq {a b:Code} {pv:Option AV} {K:Exit→aR→Option AV→Prop} (h:gT T a st pv (KP (fun s y=>gT T b s y K) K)):gT T (.seq a b) st pv K:=by
 intro E base s v hs hv
 obtain ⟨⟨e,s1,v1⟩,h1,E1,uT,y1,k1,k0,k2,k3,k4⟩:=h E base s v hs hv
 rw [qA,h1]
 have other:(∀ x,e ≠ x→True)→K e uT y1→qt E base st s K (e,s1,v1):=fun _ k=>⟨E1,uT,y1,k,k0,k2,k3,k4⟩
 cases e with
 | normal =>
  obtain ⟨p,r1,r2⟩:=k1 E1 base s1 v1 k2 k4
  exact ⟨p,r1,qt.from k0 k3 r2⟩
 | _=>exact ⟨_,rfl,other (fun _ _=>trivial) k1⟩
theorem gT.cond {c:Operand} {a b:Code} {pv:Option AV} {K:Exit→aR→Option AV→Prop} {t:Bool} (hc:aS st.fr c=.fl (.bool t)) (h1:t=true→gT T a st pv K) (h2:t=false→gT T b st pv K):gT T (.cond c a b) st pv K:=by
 intro E base s v hs hv
 have:=gR hs.fr c
 rw [hc] at this
 have hv':=this.eR.1
 rw [oB,hv']
 cases t with
 | true=>exact h1 rfl E base s v hs hv
 | false=>exact h2 rfl E base s v hs hv
theorem gT.skip {pv:Option AV} {K:Exit→aR→Option AV→Prop} (h:K .normal st pv):gT T .skip st pv K:=fun E _ s v hs hv=>⟨(.normal,s,v),rfl,E,st,pv,h,rfl,hs,.refl,hv⟩
theorem gT.ret {pv:Option AV} {K:Exit→aR→Option AV→Prop} (h:K .ret st pv):gT T .ret st pv K:=fun E _ s v hs hv=>⟨(.ret,s,v),rfl,E,st,pv,h,rfl,hs,.refl,hv⟩
def xj (E:Env) (base:Nat) (st:aR) (s:St) (K:nV→aR→AV→Prop) (p:jv × St × Value):Prop :=
 ∃ E' st' y F,K y st' F∧st'.fl=st.fl∧jD E' base st' p.2.1∧iK st.fl base E st.hp s.hp E' st'.hp p.2.1.hp∧KN E' st'.hp p.2.1.hp p.1 y∧AR E'.ρ p.2.1.hp.get (E'.O st'.hp) F p.2.2
def B5 (T:bh) (tab:List XE) (one:Bool) (c:Code) (st:aR) (K:nV→aR→AV→Prop):Prop :=
 ∀ (E:Env) (base:Nat) (s:St),jD E base st s→∃ m L,nJ T (RX T tab m) c s=some L∧k9 one L (xj E base st s K)
theorem xj.from {K:nV→aR→AV→Prop} {E1:Env} {uT:aR} {s1:St} {p:jv × St × Value} (hfl:uT.fl=st.fl) (hf:iK st.fl base E st.hp s.hp E1 uT.hp s1.hp) (h:xj E1 base uT s1 K p):xj E base st s K p:=by
 obtain ⟨E',st',y,F,k1,k0,k2,k3,k4⟩:=h
 rw [hfl] at k3
 exact ⟨E',st',y,F,k1,k0.trans hfl,k2,hf.trans k3,k4⟩
theorem B5.Ln {a b:Code} {K:nV→aR→AV→Prop} (ha:pg a=none) (h:aC T tab one a st (fun e s=>e=.normal∧B5 T tab one b s K)):B5 T tab one (.seq a b) st K:=by
 intro E base s hs
 obtain ⟨m0,L0,h1,h2,h3⟩:=h E base s hs
 obtain ⟨m,M,hm,q1,q2⟩:=cB (one:=one) (L:=L0) (f:=fun m (p:Exit × St)=>(match p.1 with
   | .normal=>nJ T (RX T tab m) b p.2
   | _=>none:Option (List (jv × St × Value)))) (P:=xj E base st s K) (fun i j x M hij hx=>by
   obtain ⟨z,s2⟩:=x
   cases z with
   | normal=>exact wj (dR hij) _ _ _ hx
   | _=>cases hx) m0 h2 (fun p hp=>by
  obtain ⟨E',st',⟨k1,k1'⟩,k0,k2,k3⟩:=h3 p hp
  obtain ⟨z,s'⟩:=p
  obtain rfl:z=.normal:=k1
  obtain ⟨m,M,r1,r2,r3⟩:=k1' E' base s' k2
  exact ⟨m,M,r1,r2,fun q hq=>xj.from k0 k3 (r3 q hq)⟩)
 refine ⟨m,M,?_,q2⟩
 rw [mo,ha]
 simp only
 rw [dX (dR hm) _ _ _ h1]
 exact q1
theorem B5.defer {a b:Code} {l:List Oper} {x:Operand} {mu:Tmp→Bool} {K:nV→aR→AV→Prop} (ha:pg a=some (l,x)) (h:wpOps T tab one mu (Cz a) l st (fun st'=>∃ F,aS st'.fr x=F∧ak T tab one 1000 b ⟨st'.fr,st'.hp,st'.av,st'.rd,st'.hp.length⟩ fun y s=>K y ⟨s.fr,s.hp,s.av,s.rd,st.fl⟩ F)):B5 T tab one (.seq a b) st K:=by
 intro E base s hs
 obtain ⟨m0,L0,h1,h2,h3⟩:=fX h hs
 obtain ⟨m,M,hm,q1,q2⟩:=cB (one:=one) (L:=L0) (f:=fun m (s:St)=>(bC T (RX T tab m) (fJ T (RX T tab m) 1000) b s).map fun M=>M.map fun p=>(p.1,p.2,aL s.fr x)) (P:=xj E base st s K) (fun i j y M hij hx=>by
   cases hq:bC T (RX T tab i) (fJ T (RX T tab i) 1000) b y with
   | none=>rw [hq] at hx;cases hx
   | some N =>
    rw [hq] at hx
    rw [jE hij hq]
    exact hx) m0 h2 (fun s' hp=>by
  obtain ⟨E',st',⟨F,hF,k1⟩,k0,k2,k3⟩:=h3 s' hp
  obtain ⟨m,M,r1,r2,r3⟩:=k1 E' base s' ⟨k2.h,k2.rd,k2.fr⟩
  refine ⟨m,M.map fun p=>(p.1,p.2,aL s'.fr x),by rw [r1];rfl,fun h1=>?_,fun q hq=>?_⟩
  ·obtain ⟨p,hp⟩:=r2 h1
   exact ⟨_,by rw [hp];rfl⟩
  ·obtain ⟨p,hp,rfl⟩:=List.mem_map.1 hq
   obtain ⟨E2,st2,y,j1,j0,j2,j3,j4⟩:=r3 p hp
   have hfr:AR E'.ρ s'.hp.get (E'.O st'.hp) F (aL s'.fr x):=by rw [←hF];exact gR k2.fr x
   exact ⟨E2,⟨st2.fr,st2.hp,st2.av,st2.rd,st.fl⟩,y,F,j1,rfl,⟨j2.h,j2.rd,j2.fr⟩,k3.trans (j3.low k2.h _),j4,j3.ar k2.h hfr⟩)
 refine ⟨m,M,?_,q2⟩
 rw [mo,ha]
 simp only
 rw [fU (dR hm) _ _ _ _ h1]
 exact q1
def Aq (T:bh) (F:AV) (pv:Option AV) (hp:List AB) (av:bw) (Q:List AB→bw→Prop):Prop :=
 ∃ g fn c fs cs,F=.fn g fs cs∧T.Cw.get g=some fn∧fn.body=some c∧fn.results.toList=[]∧gT T c ⟨uh (fs++cs),hp,av,false,hp.length⟩ pv fun e s y=>(e=.normal∨e=.ret)∧y=none∧Q s.hp s.av
def Im (T:bh) (rs:List ResultVar) (Q:AV→List AB→bw→Prop) (y:nV) (st:aR) (F:AV):Prop :=
 match y with
 | .e .normal=>Aq T F none st.hp st.av fun hp' amb'=>ij T ⟨st.fr,hp',amb',st.rd,st.fl⟩ rs fun as=>Q (l6 as) hp' amb'
 | .e .ret=>Aq T F none st.hp st.av fun hp' amb'=>ij T ⟨st.fr,hp',amb',st.rd,st.fl⟩ rs fun as=>Q (l6 as) hp' amb'
 | .eK a=>Aq T F (some a) st.hp st.av fun hp' amb'=>ij T ⟨st.fr,hp',amb',st.rd,st.fl⟩ rs fun as=>Q (l6 as) hp' amb'
 | _=>False
theorem Fc {rs:List ResultVar} {F:AV} {pv:Option AV} {Q:AV→List AB→bw→Prop} {clo:Value} {v:Option Value} (hs:jD E base st s) (hF:AR E.ρ s.hp.get (E.O st.hp) F clo) (hv:Il E st.hp s.hp v pv)
  (hd:Aq T F pv st.hp st.av fun hp' amb'=>ij T ⟨st.fr,hp',amb',st.rd,st.fl⟩ rs fun as=>Q (l6 as) hp' amb') :
  ∃ H' vs,jH T clo s.hp v=some (H',none)∧e9 T s.fr H' rs=some vs∧∃ E' a hp' amb',Q a hp' amb'∧aK E' base hp' amb' H'∧AR E'.ρ H'.get (E'.O hp') a (aW vs)∧iK st.hp.length base E st.hp s.hp E' hp' H':=by
 obtain ⟨g,fn,c,fs,cs,rfl,q1,q2,q3,q4⟩:=hd
 obtain ⟨fs',cs',rfl,h1,h2⟩:∃ fs' cs',clo=.func (.func g) fs' cs'∧fh E.ρ s.hp.get (E.O st.hp) fs fs'.toList∧fh E.ρ s.hp.get (E.O st.hp) cs cs'.toList:=by
  cases hF with
  | d h=>cases h with
   | fn ha hb h1 h2=>exact ⟨_,_,rfl,⟨ha,fun i x u hx hu=>.d (h1 i x u hx hu)⟩,⟨hb,fun i x u hx hu=>.d (h2 i x u hx hu)⟩⟩
  | fn ha hb h1 h2=>exact ⟨_,_,rfl,⟨ha,h1⟩,⟨hb,h2⟩⟩
 obtain ⟨⟨e,s1,v1⟩,r1,E1,uT,y1,⟨k1,k2,k3⟩,k4,k5,k6,k7⟩:=q4 E base ⟨setArgs .leaf 0 (fs'.toList++cs'.toList),s.hp,false⟩ v ⟨hs.h,rfl,mG (h1.append h2)⟩ hv
 obtain rfl:v1=none:=by
  cases v1 with
  | none=>rfl
  | some w =>
   obtain ⟨a,ha,_⟩:=k7
   rw [k2] at ha
   cases ha
 have hrun:jH T (.func (.func g) fs' cs') s.hp v=some (s1.hp,none):=by
  unfold jH
  rw [show bQ (.func (.func g) fs' cs') []=some (.fn g (fs'.toList++[]++cs'.toList)) from rfl]
  simp only [q1,q2,q3,List.append_nil]
  rw [r1]
  rcases k1 with k1|k1
  ·simp only at k1;subst k1;rfl
  ·simp only at k1;subst k1;rfl
 obtain ⟨us,as,j1,j2,j3⟩:=iq (E:=E1) (base:=base) (st:=⟨st.fr,uT.hp,uT.av,st.rd,st.fl⟩) (s:=⟨s.fr,s1.hp,s.rd⟩) ⟨k5.h,hs.rd,k6.fr hs.h hs.fr⟩ k3
 exact ⟨s1.hp,us,hrun,j1,E1,l6 as,uT.hp,uT.av,j2,k5.h,Al j3,k6⟩
theorem ai.KQ {hp:List AB} {av:bw} {f:FuncId} {fn:Func} {c:Code} {first caps args:List AV} {Q:AV→List AB→bw→Prop} (hf:T.fn.get f=none) (hd:T.Cw.get f=some fn) (hb:fn.body=some c) (hn:noEntry tab f=true)
  (hw:B5 T tab one c ⟨uh (first++args++caps),hp,av,false,hp.length⟩ (Im T fn.results.toList Q)):ai T tab one (.fn f first caps) args hp av Q:=by
 intro E base H u us hr hF ha
 obtain ⟨fs,cs,rfl,h1,h2⟩:∃ fs cs,u=.func (.func f) fs cs∧fh E.ρ H.get (E.O hp) first fs.toList∧fh E.ρ H.get (E.O hp) caps cs.toList:=by
  cases hF with
  | d h=>cases h with
   | fn ha hb h1 h2=>exact ⟨_,_,rfl,⟨ha,fun i x u hx hu=>.d (h1 i x u hx hu)⟩,⟨hb,fun i x u hx hu=>.d (h2 i x u hx hu)⟩⟩
  | fn ha hb h1 h2=>exact ⟨_,_,rfl,⟨ha,h1⟩,⟨hb,h2⟩⟩
 refine ⟨.fn f (fs.toList++us++cs.toList),rfl,?_⟩
 have hargs:=(h1.append ha).append h2
 obtain ⟨m,L,h1,h2,h3⟩:=hw E base ⟨setArgs .leaf 0 (fs.toList++us++cs.toList),H,false⟩ ⟨hr,rfl,mG hargs⟩
 obtain ⟨m',M,hm,q1,q2,q3⟩:=cB (one:=one) (L:=L) (f:=fun _ (p:jv × St × Value)=>kN T fn.results.toList p)
  (P:=fun r=>∃ w H',r=.ret w H'∧∃ E' a hp' amb',Q a hp' amb'∧aK E' base hp' amb' H'∧AR E'.ρ H'.get (E'.O hp') a w∧iK hp.length base E hp H E' hp' H')
  (fun _ _ _ _ _ h=>h) m h2 (fun p hp'=>by
   obtain ⟨E',st',y,F,k1,k0,k2,k3,k4,k5⟩:=h3 p hp'
   obtain ⟨x,s',clo⟩:=p
   have fin:∀ {v:Option Value} {pv:Option AV},Il E' st'.hp s'.hp v pv→(∀ H' vs,jH T clo s'.hp v=some (H',none)→e9 T s'.fr H' fn.results.toList=some vs→kN T fn.results.toList (x,s',clo)=some [.ret (aW vs) H'])→(Aq T F pv st'.hp st'.av fun hp' amb'=>ij T ⟨st'.fr,hp',amb',st'.rd,st'.fl⟩ fn.results.toList fun as=>Q (l6 as) hp' amb') →
     ∃ (_:Nat) (M:List eV),kN T fn.results.toList (x,s',clo)=some M∧k9 one M fun r=>∃ w H',r=.ret w H'∧∃ E' a hp' amb',Q a hp' amb'∧aK E' base hp' amb' H'∧AR E'.ρ H'.get (E'.O hp') a w∧iK hp.length base E hp H E' hp' H':=by
    intro v pv hpv hx hd
    obtain ⟨H',vs,r1,r2,E2,a,hp2,amb2,r3,r4,r5,r6⟩:=Fc k2 k5 hpv hd
    exact ⟨0,[.ret (aW vs) H'],hx H' vs r1 r2,.single ⟨_,_,rfl,E2,a,hp2,amb2,r3,r4,r5,k3.trans (r6.low k2.h _)⟩⟩
   cases x with
   | eK v =>
    obtain ⟨a,rfl,hav⟩:=k4
    exact fin (v:=some v) (pv:=some a) ⟨a,rfl,hav⟩ (fun H' vs h1 h2=>by unfold kN;simp only [h1,h2,Option.map_some]) k1
   | e e =>
    obtain rfl:y=.e e:=k4
    cases e with
    | normal=>exact fin (v:=none) (pv:=none) rfl (fun H' vs h1 h2=>by unfold kN;simp only [h1,h2,Option.map_some]) k1
    | ret=>exact fin (v:=none) (pv:=none) rfl (fun H' vs h1 h2=>by unfold kN;simp only [h1,h2,Option.map_some]) k1
    | _=>exact k1.elim)
 refine ⟨m'+1,M,?_,q2,q3⟩
 show RX T tab (m'+1) (.call f _ H)=_
 rw [rX,jd _ _ hn]
 simp only
 rw [gQ,hf]
 simp only
 unfold nK
 simp only [hd,hb]
 rw [wj (dR hm) _ _ _ h1]
 exact q1
end
end Go.RM
namespace Go.RM
open Go
section
variable {T : bh} {tab : List XE} {one : Bool} {base : Nat} {E E' : Env} {st st' : aR} {s s' : St} {n n' : Nat}
theorem di.fuel {F:AV} {args:List AV} {hp:List AB} {av:bw} {Q:xh→List AB→bw→Prop} (hn:n≤n') (h:di T tab one n F args hp av Q):di T tab one n' F args hp av Q:=by
 intro E base H u us hr hF ha
 obtain ⟨g,as,fn,h1,h2,m,L,h3,h4⟩:=h E base H u us hr hF ha
 exact ⟨g,as,fn,h1,h2,m,L,tE hn _ _ h3,h4⟩
theorem di.mono {F:AV} {args:List AV} {hp:List AB} {av:bw} {Q Q':xh→List AB→bw→Prop} (h:di T tab one n F args hp av Q) (hq:∀ y hp' amb',Q y hp' amb'→Q' y hp' amb'):di T tab one n F args hp av Q':=by
 intro E base H u us hr hF ha
 obtain ⟨g,as,fn,h1,h2,m,L,h3,h4,h5⟩:=h E base H u us hr hF ha
 refine ⟨g,as,fn,h1,h2,m,L,h3,h4,fun r hr=>?_⟩
 obtain ⟨E',y,hp',amb',k1,k2⟩:=h5 r hr
 exact ⟨E',y,hp',amb',hq _ _ _ k1,k2⟩
theorem ak.mono {c:Code} {K K':nV→aR→Prop} (h:ak T tab one n c st K) (hk:∀ y s,K y s→K' y s):ak T tab one n c st K':=by
 intro E base s hs
 obtain ⟨m,L,h1,h2,h3⟩:=h E base s hs
 refine ⟨m,L,h1,h2,fun p hp=>?_⟩
 obtain ⟨E',st',y,k1,k2⟩:=h3 p hp
 exact ⟨E',st',y,hk _ _ k1,k2⟩
def B6 (T:bh) (tab:List XE) (one:Bool) (n:Nat) (dst:Option Tmp) (f:Operand) (l:List Operand) (K:nV→aR→Prop) (st:aR):Prop :=
 ∃ Q,di T tab one n (aS st.fr f) (l.map (aS st.fr)) st.hp st.av Q∧(∀ a hp' amb',Q (.ret a) hp' amb'→K (.e .normal) ⟨tf st.fr dst a,hp',amb',st.rd,st.fl⟩)∧∀ a hp' amb',Q (.eK a) hp' amb'→K (.eK a) ⟨st.fr,hp',amb',st.rd,st.fl⟩
theorem B6.run {ops:List Oper} {dst:Option Tmp} {f:Operand} {l:List Operand} {tys:Array TypeId} {ty:TypeId} {pos:String} {after:Array Edge} {K:nV→aR→Prop} (h:B6 T tab one n dst f l K st) (hs:jD E base st s) :
  ∃ m M,aI T (RX T tab m) (fJ T (RX T tab m) n) ops [⟨dst,.call ⟨.value f,l.toArray,tys⟩,ty,pos,after,none⟩] s=some M∧k9 one M fun p=>jX E base st s K (eX p):=by
 obtain ⟨Q,h,hret,hpan⟩:=h
 obtain ⟨g,gas,fn,hgo,hg,m,L,q1,q2,q3⟩:=h E base s.hp _ _ hs.h (gR hs.fr f) (iF hs.fr l)
 have hpc:mT T (.call ⟨.value f,l.toArray,tys⟩) s=some (g,gas):=by
  unfold mT
  show (match bQ (aL s.fr f) (l.map (aL s.fr)) with
   | some (.fn g as)=>match T.Ct.get g with
    | some _=>some (g,as)
    | none=>none
   | _=>none)=_
  rw [hgo]
  simp only [hg]
 obtain ⟨m',M,hm,r1,r2⟩:=cB (one:=one) (L:=L) (f:=fun _ (r:dJ)=>Kj dst s (fun st=>some [(none,st)]) r) (P:=fun p:Option Value × St=>jX E base st s K (eX p)) (fun _ _ _ _ _ h=>h) m q2 (fun r hr=>by
  obtain ⟨E',y,hp',amb',k1,k2,k3,k4⟩:=q3 r hr
  cases r with
  | ret v H' =>
   obtain ⟨a,rfl,hav⟩:=k3
   exact ⟨0,[(none,⟨cP s.fr dst v,H',s.rd⟩)],rfl,.single ⟨E',⟨tf st.fr dst a,hp',amb',st.rd,st.fl⟩,.e .normal,hret a hp' amb' k1,rfl,⟨k2,hs.rd,jr (k4.fr hs.h hs.fr) hav dst⟩,k4.low hs.h _,rfl⟩⟩
  | eK v H' =>
   obtain ⟨a,rfl,hav⟩:=k3
   exact ⟨0,[(some v,⟨s.fr,H',s.rd⟩)],rfl,.single ⟨E',⟨st.fr,hp',amb',st.rd,st.fl⟩,.eK a,hpan a hp' amb' k1,rfl,⟨k2,hs.rd,k4.fr hs.h hs.fr⟩,k4.low hs.h _,a,rfl,hav⟩⟩
  | out x z=>exact k3.elim)
 refine ⟨m',M,?_,r2⟩
 have hany:eL T (RX T tab m') (fJ T (RX T tab m') n) (.call ⟨.value f,l.toArray,tys⟩) s=some L:=by
  unfold eL
  rw [show lu (.call ⟨.value f,l.toArray,tys⟩)=none from rfl]
  simp only [hpc]
  exact nk (dR hm) _ _ _ q1
 rw [cq]
 show _root_.cond true _ _=_
 simp only [cond_true,hany]
 exact r1
theorem B6.after {ops:List Oper} {dst:Option Tmp} {f:Operand} {l:List Operand} {tys:Array TypeId} {ty:TypeId} {pos:String} {after:Array Edge} {K:nV→aR→Prop} {m0:Nat} {L0:List St}
  (h1:one=true→∃ p,L0=[p]) (h2:∀ p ∈ L0,qI E base st s (B6 T tab one n dst f l K) p) :
  ∃ m M,m0≤m∧aN L0 (fun s=>aI T (RX T tab m) (fJ T (RX T tab m) n) ops [⟨dst,.call ⟨.value f,l.toArray,tys⟩,ty,pos,after,none⟩] s)=some M∧k9 one M fun p=>jX E base st s K (eX p) :=
 cB (one:=one) (L:=L0) (f:=fun m s=>aI T (RX T tab m) (fJ T (RX T tab m) n) ops [⟨dst,.call ⟨.value f,l.toArray,tys⟩,ty,pos,after,none⟩] s) (P:=fun p=>jX E base st s K (eX p)) (fun i j x M hij hx=>oJ (dR hij) (nk (dR hij) n) _ _ _ _ hx) m0 h1 (fun p hp=>by
  obtain ⟨E',st',k1,k0,k2,k3⟩:=h2 p hp
  obtain ⟨m,M,r1,r2,r3⟩:=k1.run (ops:=ops) (tys:=tys) (ty:=ty) (pos:=pos) (after:=after) k2
  exact ⟨m,M,r1,r2,fun q hq=>jX.from k0 k3 (r3 q hq)⟩)
theorem ak.ku (hT:uy T tab) {id:Nat} {L A:List Oper} {mu:Tmp→Bool} {dst:Option Tmp} {f:Operand} {l:List Operand} {tys:Array TypeId} {ty:TypeId} {pos:String} {after:Array Edge} {K:nV→aR→Prop}
  (hl:L=A++[⟨dst,.call ⟨.value f,l.toArray,tys⟩,ty,pos,after,none⟩]) (h:wpOps T tab one mu L A st (B6 T tab one n dst f l K)):ak T tab one n (.region id L.toArray false) st K:=by
 intro E base s hs
 obtain ⟨m0,L0,h1,h2,h3⟩:=fX h hs
 obtain ⟨m,M,hm,q1,q2,q3⟩:=B6.after (ops:=L) (tys:=tys) (ty:=ty) (pos:=pos) (after:=after) (m0:=m0) h2 h3
 refine ⟨m,M.map eX,?_,fun h1=>?_,fun p hp=>?_⟩
 ·rw [cr]
  simp only [cond_false]
  have:aI T (RX T tab m) (fJ T (RX T tab m) n) L L s=some M:=by
   have e:=tF (recP:=fJ T (RX T tab m) n) hT L A s _ (fU (dR hm) _ _ _ _ h1)
   have:=kr (T:=T) (rec:=RX T tab m) (recP:=fJ T (RX T tab m) n) (ops:=L) A [⟨dst,.call ⟨.value f,l.toArray,tys⟩,ty,pos,after,none⟩] s (M:=M) e (by rw [pT];exact q1)
   rw [hl] at this ⊢
   exact this
  rw [this]
 ·obtain ⟨p,hp⟩:=q2 h1
  exact ⟨_,by rw [hp];rfl⟩
 ·obtain ⟨q,hq,rfl⟩:=List.mem_map.1 hp
  exact q3 q hq
theorem ak.fY {id:Nat} {L A:List Oper} {mu:Tmp→Bool} {dst:Option Tmp} {f:Operand} {l:List Operand} {tys:Array TypeId} {ty:TypeId} {pos:String} {after:Array Edge} {K:nV→aR→Prop} {c:Nat}
  (hl:L=A++[⟨dst,.call ⟨.value f,l.toArray,tys⟩,ty,pos,after,none⟩]) (hA:A.length=c) (hc:qZ T L.toArray=some c) (h:jg T tab mu L.toArray A 0 (fun _=>0) [] st (B6 T tab one n dst f l K)):ak T tab one n (.region id L.toArray true) st K:=by
 intro E base s hs
 obtain ⟨m0,s',r1,E',st',r2,r3,r4,r5⟩:=kq (base:=base) (tr:=fun _=>⟨E,st.hp,s.hp⟩) (evs:=[]) h ⟨fun _ _=>hs.h,fun _ _ _ _=>.refl⟩ rfl rfl hs.rd (fun t=>⟨Nat.le_refl _,hs.fr t⟩) .nil
 obtain ⟨m,M,hm,q1,q2,q3⟩:=B6.after (E:=E) (base:=base) (s:=s) (st:=st) (ops:=L) (tys:=tys) (ty:=ty) (pos:=pos) (after:=after) (m0:=m0) (L0:=[s']) (K:=K) (one:=one) (tab:=tab) (n:=n) (dst:=dst) (f:=f) (l:=l) (fun _=>⟨_,rfl⟩) (fun p hp=>by
  obtain rfl:=List.mem_singleton.1 hp
  exact ⟨E',st',r2,r3,r4,r5.DN⟩)
 rw [cT] at q1
 refine ⟨m,M.map eX,?_,fun h1=>?_,fun p hp=>?_⟩
 ·rw [cr]
  simp only [cond_true]
  have:cz T (RX T tab m) (fJ T (RX T tab m) n) L.toArray s=some M:=by
   unfold cz
   rw [hc]
   simp only
   have e1:L.take c=A:=by rw [hl,←hA];simp
   have e2:L.drop c=[⟨dst,.call ⟨.value f,l.toArray,tys⟩,ty,pos,after,none⟩]:=by rw [hl,←hA];simp
   rw [e1,e2,hJ (dR hm) _ _ _ _ _ _ r1]
   simp only [cT]
   exact q1
  rw [this]
 ·obtain ⟨p,hp⟩:=q2 h1
  exact ⟨_,by rw [hp];rfl⟩
 ·obtain ⟨q,hq,rfl⟩:=List.mem_map.1 hp
  exact q3 q hq
theorem bz {Kb:aR→Prop} {K:nV→aR→Prop} {s:aR} (h:Kb s):GK Kb K (.e .normal) s:=h
theorem Ea {Kb:aR→Prop} {K:nV→aR→Prop} {s:aR} {a:AV} (h:K (.eK a) s):GK Kb K (.eK a) s:=h
end
end Go.RM
namespace Go.RM
open Go
end Go.RM
namespace Go.RM
open Go
section
variable {T : bh} {tab : List XE} {one : Bool} {n : Nat}
noncomputable def oT (T:bh):Code→Bool
 | .skip=>true
 | .label _=>true
 | .region _ _ false=>true
 | .region _ ops true=>match qZ T ops with
  | none=>true
  | some _=>false
 | .seq a b=>oT T a && oT T b
 | .cond _ a b=>oT T a && oT T b
 | .block _ c=>oT T c
 | .exit _=>true
 | .ret=>true
 | _=>false
def eP (p:Exit × St):jv × St:=(.e p.1,p.2)
theorem Iu (hT:uy T tab) {m:Nat} {recP:mS→Option (List dJ)}:∀ (c:Code),oT T c=true→∀ (s:St) (L:List (Exit × St)),aZ T (RX T tab m) c s=some L→bC T (RX T tab m) recP c s=some (L.map eP):=by
 intro c
 induction c with
 | skip=>intro _ s L h;cases h;rfl
 | label l=>intro _ s L h;cases h;rfl
 | exit id=>intro _ s L h;cases h;rfl
 | ret=>intro _ s L h;cases h;rfl
 | region id ops draw =>
  intro hf s L h
  rw [dM] at h
  rw [cr]
  cases draw with
  | false =>
   simp only [cond_false] at h ⊢
   cases hx:aH T (RX T tab m) ops.toList ops.toList s with
   | none=>rw [hx] at h;cases h
   | some R =>
    rw [hx] at h
    simp only [Option.some.injEq] at h
    subst h
    rw [tF hT _ _ _ _ hx]
    simp only [List.map_map]
    rfl
  | true =>
   simp only [cond_true] at h ⊢
   cases hx:cm T (RX T tab m) ops s with
   | none=>rw [hx] at h;cases h
   | some R =>
    rw [hx] at h
    simp only [Option.some.injEq] at h
    subst h
    have hno:qZ T ops=none:=by
     unfold oT at hf
     split at hf
     ·assumption
     ·cases hf
    unfold cz
    rw [hno]
    simp only [hx,List.map_map]
    rfl
 | seq a b iha ihb =>
  intro hf s L h
  unfold oT at hf
  rw [Bool.and_eq_true] at hf
  rw [kB] at h
  rw [iZ]
  cases hx:aZ T (RX T tab m) a s with
  | none=>rw [hx] at h;cases h
  | some R =>
   rw [hx] at h
   rw [iha hf.1 s R hx]
   simp only at h ⊢
   rw [pT]
   refine qM _ (fun p M hp=>?_) h
   unfold uE at hp
   unfold qY eP
   split at hp
   ·rename_i he
    simp only [he]
    exact ihb hf.2 _ _ hp
   ·rename_i he
    cases hp
    obtain ⟨e,s'⟩:=p
    cases e <;> first|rfl|exact absurd rfl he
 | cond c a b iha ihb =>
  intro hf s L h
  unfold oT at hf
  rw [Bool.and_eq_true] at hf
  rw [iX] at h
  rw [gX]
  split at h
  ·rename_i t hv
   cases t with
   | true=>exact iha hf.1 s L h
   | false=>exact ihb hf.2 s L h
  ·cases h
 | block id c ih =>
  intro hf s L h
  unfold oT at hf
  rw [jz] at h
  rw [iC]
  cases hx:aZ T (RX T tab m) c s with
  | none=>rw [hx] at h;cases h
  | some R =>
   rw [hx] at h
   simp only [Option.some.injEq] at h
   subst h
   rw [ih hf s R hx]
   simp only [List.map_map,Option.some.injEq]
   apply List.map_congr_left
   intro p _
   obtain ⟨e,s'⟩:=p
   cases e <;> rfl
 | _=>intro hf;cases hf
theorem ak.flat (hT:uy T tab) {c:Code} {st:aR} {K:nV→aR→Prop} (hf:oT T c=true) (h:aC T tab one c st fun e s=>K (.e e) s):ak T tab one n c st K:=by
 intro E base s hs
 obtain ⟨m,L,q1,q2,q3⟩:=h E base s hs
 refine ⟨m,L.map eP,Iu hT c hf s L q1,fun h1=>?_,fun p hp=>?_⟩
 ·obtain ⟨p,hp⟩:=q2 h1
  exact ⟨_,by rw [hp];rfl⟩
 ·obtain ⟨q,hq,rfl⟩:=List.mem_map.1 hp
  obtain ⟨E',st',k1,k0,k2,k3⟩:=q3 q hq
  exact ⟨E',st',.e q.1,k1,k0,k2,k3,rfl⟩
end
end Go.RM
namespace Go.RM
open Go
section
variable {T : bh} {tab : List XE} {one : Bool}
theorem ai.cut {F:AV} {args:List AV} {hp:List AB} {av:bw} {Q:AV→List AB→bw→Prop} (h:ai T tab one F args hp av Q) (hc:∀ a hp' amb',Q a hp' amb'→a.ig hp.length=true∧(hp'.take hp.length).all (AB.ig hp.length)=true) :
  ai T tab one F args hp av fun a hp2 amb'=>∃ hp',hp2=hp'.take hp.length∧Q a hp' amb':=by
 intro E base H u us hr hf ha
 obtain ⟨goal,hg,m,L,h1,h2,h3⟩:=h E base H u us hr hf ha
 refine ⟨goal,hg,m,L,h1,h2,fun r hm=>?_⟩
 obtain ⟨w,H',rfl,E',a,hp',amb',q1,q2,q3,q4⟩:=h3 r hm
 obtain ⟨c1,c2⟩:=hc a hp' amb' q1
 have hw:aj (⟨bM [(0,a)],hp',amb',false,hp.length⟩:aR) ⟨bM [(0,a)],hp'.take hp.length,amb',false,hp.length⟩ :=
  aj.to hp.length rfl ⟨rfl,trivial⟩ (Nat.le_refl _) (by simp [c1]) c2
 have hs:jD E' base (⟨bM [(0,a)],hp',amb',false,hp.length⟩:aR) ⟨(.leaf:Tr Value).set 0 w,H',false⟩:=by
  refine ⟨q2,rfl,fun t=>?_⟩
  show AR _ _ _ (bM [(0,a)] t) ((((.leaf:Tr Value).set 0 w).get t).getD undef)
  rw [Tr.gn]
  by_cases ht:t=0
  ·subst ht;exact q3
  ·rw [if_neg ht]
   have:bM [(0,a)] t=.bL:=by
    unfold bM
    rw [Tr.beq_eq,decide_eq_false ht]
    rfl
   rw [this]
   exact .bL
 obtain ⟨E2,k1,k2⟩:=hw.2 E' base _ hs
 have h0:=k1.fr 0
 refine ⟨w,H',rfl,E2,a,_,amb',⟨hp',rfl,q1⟩,k1.h,?_,q4.trans k2⟩
 have e:(((.leaf:Tr Value).set 0 w).get 0).getD undef=w:=by rw [Tr.gn,if_pos rfl];rfl
 have h0:AR E2.ρ H'.get (E2.O (hp'.take hp.length)) (bM [(0,a)] 0) ((((.leaf:Tr Value).set 0 w).get 0).getD undef):=h0
 rw [e] at h0
 exact h0
end
end Go.RM
namespace Go.RM
open Go
section
variable {T : bh} {tab : List XE} {one : Bool} {mu : Tmp → Bool} {base : Nat} {E : Env} {hp : List AB} {av : bw} {H : Hp} {ρ : Nat → Nat → Option Nat} {g : az} {O O' : Nat → Prop}
def Jc (j ax:Nat) (cs:List AV):List AV→List AV→Prop
 | [],[]=>True
 | a :: l,b :: m=>Gv j ax cs a b∧Jc j ax cs l m
 | _,_=>False
theorem Jc.len {j ax:Nat} {cs:List AV}:∀ {l m:List AV},Jc j ax cs l m→l.length=m.length
 | [],[],_=>rfl
 | _ :: _,_ :: _,h=>by simp only [List.length_cons];rw [Jc.len h.2]
 | [],_ :: _,h=>h.elim
 | _ :: _,[],h=>h.elim
theorem Jc.get {j ax:Nat} {cs:List AV}:∀ {l m:List AV},Jc j ax cs l m→∀ (i:Nat) (a b:AV),l[i]?=some a→m[i]?=some b→Gv j ax cs a b
 | [],[],_,i,a,b,ha,_=>by cases ha
 | x :: l,y :: m,h,i,a,b,ha,hb=>by
  cases i with
  | zero=>cases ha;cases hb;exact h.1
  | succ i=>exact Jc.get h.2 i a b (by simpa using ha) (by simpa using hb)
 | [],_ :: _,h,_,_,_,_,_=>h.elim
 | _ :: _,[],h,_,_,_,_,_=>h.elim
inductive GB (j ax:Nat) (cs:List AV):AB→AB→Prop
 | cells {l m:List AV} {es v:Nat}:Jc j ax cs l m→GB j ax cs (.cells l es v) (.cells m es v)
 | same {b:AB}:b.mO j=true→GB j ax cs b b
theorem GB.ax {j ax:Nat} {cs:List AV} {b b':AB} (h:GB j ax cs b b'):b'.ver?=b.ver?:=by
 cases h with
 | cells=>rfl
 | same=>rfl
def Jd (j ax:Nat) (cs:List AV):Nat→List AB→List AB→Prop
 | _,[],[]=>True
 | i,b :: l,b' :: m=>(if Nat.beq i j then b'=.gone else GB j ax cs b b')∧Jd j ax cs (i+1) l m
 | _,_,_=>False
theorem Jd.len {j ax:Nat} {cs:List AV}:∀ {l m:List AB} {i:Nat},Jd j ax cs i l m→l.length=m.length
 | [],[],_,_=>rfl
 | _ :: _,_ :: _,_,h=>by simp only [List.length_cons];rw [Jd.len h.2]
 | [],_ :: _,_,h=>h.elim
 | _ :: _,[],_,h=>h.elim
theorem Jd.get {j ax:Nat} {cs:List AV}:∀ {l m:List AB} {i0:Nat},Jd j ax cs i0 l m→∀ (i:Nat) (b':AB),m[i]?=some b'→(i0+i=j∧b'=.gone)∨(i0+i ≠ j∧∃ b,l[i]?=some b∧GB j ax cs b b')
 | [],[],_,_,i,b',hb=>by cases hb
 | x :: l,y :: m,i0,h,i,b',hb=>by
  cases i with
  | zero =>
   cases hb
   have h1:=h.1
   split at h1
   ·rename_i hb
    exact .inl ⟨Nat.eq_of_beq_eq_true hb,h1⟩
   ·rename_i hb
    exact .inr ⟨fun e=>hb (by subst e;exact Nat.beq_refl _),x,rfl,h1⟩
  | succ i =>
   rcases Jd.get h.2 i b' (by simpa using hb) with ⟨h1,h2⟩|⟨h1,b,h2,h3⟩
   ·exact .inl ⟨by omega,h2⟩
   ·exact .inr ⟨by omega,b,by simpa using h2,h3⟩
 | [],_ :: _,_,h,_,_,_=>h.elim
 | _ :: _,[],_,h,_,_,_=>h.elim
theorem aj.Ed {st:aR} {l:List (Nat × AV)} (j:Nat) {ax es:Nat} {cs:List AV} {hp':List AB} (hj:st.hp[j]?=some (.cells cs es ax)) (hn:st.fl≤j) (hd:de cs=true) (hs:wQ j ax cs st.fr l) (hb:Jd j ax cs 0 st.hp hp') :
  aj st ⟨bM l,hp',st.av,st.rd,st.fl⟩:=by
 have hlt:j < st.hp.length:=(List.getElem?_eq_some_iff.1 hj).1
 have hlen:=hb.len
 refine ⟨rfl,fun E base s hs'=>?_⟩
 have hr:=hs'.h
 have hget:∀ (i:Nat) (b:AB) (ax:Nat),hp'[i]?=some b→b.ver?=some ax→i ≠ j∧∃ b0,st.hp[i]?=some b0∧b0.ver?=some ax:=by
  intro i b v hi hv
  rcases hb.get i b hi with ⟨_,h2⟩|⟨h1,b0,h2,h3⟩
  ·subst h2;cases hv
  ·exact ⟨by omega,b0,h2,by rw [←h3.ax];exact hv⟩
 have hdr:∀ {i v k:Nat},aO j E.ρ i v=some k→i ≠ j∧E.ρ i v=some k:=by
  intro i v k h
  unfold aO at h
  split at h
  ·cases h
  ·rename_i hne;exact ⟨hne,h⟩
 have hown:∀ k,Own (aO j E.ρ) hp' k→Own E.ρ st.hp k:=by
  rintro k ⟨i,b,v,h1,h2,h3⟩
  obtain ⟨_,b0,g1,g2⟩:=hget i b v h1 h2
  exact ⟨i,b0,v,g1,g2,(hdr h3).2⟩
 have hOs:∀ k,({E with ρ:=aO j E.ρ}:Env).O hp' k→E.O st.hp k:=fun k h=>h.imp (hown k) id
 have hpt:∀ {o:Nat} {u:Value},AR E.ρ s.hp.get (E.O st.hp) (.ptr j ax o) u→AR (aO j E.ρ) s.hp.get (({E with ρ:=aO j E.ρ}:Env).O hp') (.pt cs o) u:=by
  intro o u h
  obtain ⟨k,hk,rfl⟩:=h.dy
  obtain ⟨cs',q1,q2⟩:=hr.cells hj hk
  have hnO:¬ ({E with ρ:=aO j E.ρ}:Env).O hp' k:=by
   rintro (⟨i,b,v,h1,h2,h3⟩|hx)
   ·have:=hdr h3
    exact this.1 (hr.inj i j v ax k this.2 hk)
   ·exact hr.iL k ⟨j,_,ax,hj,rfl,hk⟩ hx
  have:=q2.deep hd
  refine .d (?_:DR _ _ (.pt cs o) (.pointer (some ⟨k,o,none⟩)))
  have h0:DR s.hp.get (({E with ρ:=aO j E.ρ}:Env).O hp') (.pt cs o) (.pointer (some ⟨k,0+o,none⟩)) :=
   .pt q1 hnO (by rw [Nat.zero_add,this.1];exact Nat.le_refl _) (fun i a u x y=>(this.2 i a u x (by rw [Nat.zero_add] at y;exact y)).mono fun k b hk ho=>⟨hk,fun h=>ho (hOs k h)⟩)
  rw [Nat.zero_add] at h0
  exact h0
 have hrow:∀ {o n c:Nat} {els:List (List AV)} {b:Bool} {u:Value} (es:Nat),o+n * es≤cs.length→els.length=n→(∀ el ∈ els,el.length=es)→els.flatten=(cs.drop o).take (n * es)→(b=true→c=n)→AR E.ρ s.hp.get (E.O st.hp) (.cS j ax o n c) u →
   AR (aO j E.ρ) s.hp.get (({E with ρ:=aO j E.ρ}:Env).O hp') (.sl els b) u:=by
  intro o n c els b u es g1 g2 g3 g4 g5 h
  rcases h.eE with ⟨k,hk,rfl⟩|⟨rfl,rfl,rfl⟩
  ·obtain ⟨cs',q1,q2⟩:=hr.cells hj hk
   have hnO:¬ ({E with ρ:=aO j E.ρ}:Env).O hp' k:=by
    rintro (⟨i,b,v,h1,h2,h3⟩|hx)
    ·have:=hdr h3
     exact this.1 (hr.inj i j v ax k this.2 hk)
    ·exact hr.iL k ⟨j,_,ax,hj,rfl,hk⟩ hx
   have hdp:=q2.deep hd
   refine .d (.sl (es:=es) q1 hnO (by rw [←q2.1];exact g1) g2 (fun i el he=>g3 el (List.mem_of_getElem? he)) (fun i el jj a u he hx hu=>?_) g5)
   have hjj:jj < es:=by rw [←g3 el (List.mem_of_getElem? he)];exact (List.getElem?_eq_some_iff.1 hx).1
   have hat:=fj g3 i el jj he hjj
   have hi:i < n:=by rw [←g2];exact (List.getElem?_eq_some_iff.1 he).1
   rw [g4,List.getElem?_take,List.getElem?_drop] at hat
   have hlt:i * es+jj < n * es:=by
    have:(i+1) * es≤n * es:=Nat.mul_le_mul_right _ hi
    rw [Nat.add_mul,Nat.one_mul] at this
    omega
   rw [if_pos hlt,hx,←Nat.add_assoc] at hat
   exact (hdp.2 _ a u hat hu).mono fun k b hk ho=>⟨hk,fun h=>ho (hOs k h)⟩
  ·simp only [List.length_eq_zero_iff] at g2
   subst g2
   exact .d .nil
 have hgv:∀ {a b:AV} {u:Value},Gv j ax cs a b→AR E.ρ s.hp.get (E.O st.hp) a u→AR (aO j E.ρ) s.hp.get (({E with ρ:=aO j E.ρ}:Env).O hp') b u:=by
  intro a b u hg h
  cases hg with
  | same hn=>exact h.mO hOs hn
  | ptr=>exact hpt h
  | row es g1 g2 g3 g4 g5=>exact hrow es g1 g2 g3 g4 g5 h
  | bL=>exact .bL
 refine ⟨{E with ρ:=aO j E.ρ},⟨⟨hr.wf,fun i b v hi hv=>?_,fun i i' v v' k h1 h2=>hr.inj i i' v v' k (hdr h1).2 (hdr h2).2,fun i v k hk=>hr.rn i v k (hdr hk).2,fun i b v w h1 h2 h3=>?_,fun i v hi=>?_,fun k hk=>hr.sup k (hown k hk),fun k hk=>hr.iL k (hown k hk),hr.dx,hr.ds,hr.sn,hr.xn,fun k hk=>hr.qp k (hk.imp (hown k) id),hr.bn,hr.av⟩,hs'.rd,fun t=>hgv (Aj hs t) (hs'.fr t)⟩,
  ⟨Nat.le_refl _,fun i v k hi hk=>?_,fun k hk=>.inl (hown k hk),fun _ h=>.inl h,fun _ h=>.inl h,fun _ h=>h,fun _ h=>.inl h,fun _ _ _ _=>rfl,Nat.min_le_left _ _⟩⟩
 ·rcases hb.get i b hi with ⟨_,h2⟩|⟨hij,b0,hi',hG⟩
  ·subst h2;cases hv
  ·have hij:i ≠ j:=by omega
   have hv':b0.ver?=some v:=by rw [←hG.ax];exact hv
   rcases hr.gC i b0 v hi' hv' with ⟨k,b',q1,q2,q3⟩|⟨q1,q2⟩
   ·refine .inl ⟨k,b',by show aO j E.ρ i v=_;rw [aO,if_neg hij];exact q1,q2,?_⟩
    cases hG with
    | @cells l0 m0 es0 v0 hL =>
     obtain ⟨cs',rfl,h⟩:=q3
     refine ⟨cs',rfl,by rw [←hL.len];exact h.1,fun i a u ha hu=>?_⟩
     have hli:i < l0.length:=by rw [hL.len];exact (List.getElem?_eq_some_iff.1 ha).1
     exact hgv (hL.get i l0[i] a (List.getElem?_eq_getElem hli) ha) (h.2 i l0[i] u (List.getElem?_eq_getElem hli) hu)
    | same hbn =>
     cases b with
     | cells cs2 es2 ver2 =>
      obtain ⟨cs',rfl,h⟩:=q3
      exact ⟨cs',rfl,h.1,fun i a u ha hu=>(h.2 i a u ha hu).mO hOs (dg hbn i a ha)⟩
     | dD p q=>exact q3
     | map ents clock =>
      obtain ⟨es,rfl,h1,h2⟩:=q3
      refine ⟨es,rfl,h1,fun i k v born x hx hy=>?_⟩
      simp only [AB.mO,List.all_eq_true,Bool.and_eq_true] at hbn
      have:=hbn _ (List.mem_of_getElem? hx)
      exact ⟨(h2 i k v born x hx hy).1.mO hOs this.1,(h2 i k v born x hx hy).2.1.mO hOs this.2,(h2 i k v born x hx hy).2.2⟩
     | iter i2 since seen stepped =>
      obtain ⟨m,rfl,h⟩:=q3
      exact ⟨m,rfl,by show aO j E.ρ i2 0=_;rw [aO,if_neg (gw hbn)];exact h⟩
     | gone=>exact q3
   ·refine .inr ⟨by show aO j E.ρ i v=_;rw [aO,if_neg hij];exact q1,?_⟩
    cases hG with
    | @cells l0 m0 es0 v0 hL =>
     obtain ⟨es1,h1⟩:=q2
     cases h1
     have h2:=hL.len
     cases m0 with
     | nil=>exact ⟨_,rfl⟩
     | cons _ _=>cases h2
    | same _=>exact q2
 ·obtain ⟨hij,b0,h1,h2⟩:=hget i b v h1 h2
  show aO j E.ρ i w=none
  rw [aO,if_neg hij];exact hr.fresh i b0 v w h1 h2 h3
 ·show aO j E.ρ i v=none
  unfold aO
  split
  ·rfl
  ·exact hr.new i v (by rw [hlen];exact hi)
 ·show aO j E.ρ i v=some k
  rw [aO,if_neg (by omega)];exact hk
end
end Go.RM
