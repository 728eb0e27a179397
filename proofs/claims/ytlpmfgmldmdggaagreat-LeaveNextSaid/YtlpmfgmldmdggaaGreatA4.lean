/-
  A layer of contracts over the abstract machine. Lemmas alone; no condition.
-/
import Derived.Test.YtlpmfgmldmdggaaGreatA3
namespace Go.RM
open Go
section
variable {T : bf} {tab : List XE} {one : Bool} {base : Nat} {E E' : Env} {st st' : aR} {s s' : St} {n n' : Nat}
def GN (E:Env) (hp:List AB) (H:Hp):Option Value→Option AV→Prop
 | none,y=>y=none
 | some v,y=>∃ a,y=some a∧AR E.ρ H.get (E.O hp) a v
def pT (E:Env) (base:Nat) (st:aR) (s:St) (K:Exit→aR→Option AV→Prop) (p:Exit × St × Option Value):Prop :=
 ∃ E' st' y,K p.1 st' y∧st'.fl=st.fl∧jy E' base st' p.2.1∧iC st.fl base E st.hp s.hp E' st'.hp p.2.1.hp∧GN E' st'.hp p.2.1.hp p.2.2 y
def gJ (T:bf) (c:Code) (st:aR) (pv:Option AV) (K:Exit→aR→Option AV→Prop):Prop :=
 ∀ (E:Env) (base:Nat) (s:St) (v:Option Value),jy E base st s→GN E st.hp s.hp v pv→∃ p,jA T c s v=some p∧pT E base st s K p
theorem pT.from {K:Exit→aR→Option AV→Prop} {E1:Env} {vP:aR} {s1:St} {p:Exit × St × Option Value} (hfl:vP.fl=st.fl) (hf:iC st.fl base E st.hp s.hp E1 vP.hp s1.hp) (h:pT E1 base vP s1 K p):pT E base st s K p:=by
 obtain ⟨E',st',y,k1,k0,k2,k3,k4⟩:=h
 rw [hfl] at k3
 exact ⟨E',st',y,k1,k0.trans hfl,k2,hf.trans k3,k4⟩
def Fx (T:bf) (mu:Tmp→Bool) (dst:Option Tmp) (op:Op) (st:aR) (pv:Option AV) (K:aR→Option AV→Prop):Prop :=
 match op with
 | .call ⟨.builtin .recover,_,_⟩=>fY dst st.fr (match pv with|some a=>a|none=>.fl .nilIface) fun fr'=>K ⟨fr',st.hp,st.au,st.rd,st.fl⟩ none
 | op=>cm op=.plain∧wpOp T (DF mu dst) op st.fr st.hp fun v hp'=>force v fun v=>fY dst st.fr v fun fr'=>K ⟨fr',hp',st.au,st.rd,st.fl⟩ pv
def wpOpsS (T:bf) (mu:Tmp→Bool) (ops:List Oper):List Oper→aR→Option AV→(aR→Option AV→Prop)→Prop
 | [],st,pv,K=>K st pv
 | ⟨dst,op,_,_,_,gd⟩ :: l,st,pv,K=>cS ops gd st.fr (Fx T mu dst op st pv fun st' pv'=>wpOpsS T mu ops l st' pv' K) (fY dst st.fr (.tp []) fun fr'=>wpOpsS T mu ops l ⟨fr',st.hp,st.au,st.rd,st.fl⟩ pv K)
theorem GN.CN {v:Option Value} {pv:Option AV} (h:GN E st.hp s.hp v pv) (hs:jy E base st s) {hp':List AB} {H':Hp} (k:iC st.hp.length base E st.hp s.hp E' hp' H'):GN E' hp' H' v pv:=by
 cases v with
 | none=>exact h
 | some v =>
  obtain ⟨a,rfl,ha⟩:=h
  exact ⟨a,rfl,k.ar hs.h ha⟩
theorem nj {mu:Tmp→Bool} {ops:List Oper}:∀ {l:List Oper} {st:aR} {pv:Option AV} {K:aR→Option AV→Prop},wpOpsS T mu ops l st pv K→∀ {E:Env} {base:Nat} {s:St} {v:Option Value},jy E base st s→GN E st.hp s.hp v pv →
  ∃ p,fF T ops l s v=some p∧pT E base st s (fun _=>K) (.normal,p.1,p.2)
 | [],st,pv,K,h,E,base,s,v,hs,hv=>⟨(s,v),rfl,E,st,pv,h,rfl,hs,.refl,hv⟩
 | o :: l,st,pv,K,h,E,base,s,v,hs,hv=>by
  have h:cS ops o.guard st.fr (Fx T mu o.dst o.op st pv fun st' pv'=>wpOpsS T mu ops l st' pv' K) (fY o.dst st.fr (.tp []) fun fr'=>wpOpsS T mu ops l ⟨fr',st.hp,st.au,st.rd,st.fl⟩ pv K):=h
  rw [lM]
  rcases vD hs.fr h with ⟨hg,h⟩|⟨hg,h⟩
  ·rw [hg]
   simp only [cond_true]
   have rest:∀ {E':Env} {st':aR} {s':St} {pv':Option AV} {v':Option Value},st'.fl=st.fl→iC st.fl base E st.hp s.hp E' st'.hp s'.hp→jy E' base st' s'→GN E' st'.hp s'.hp v' pv'→wpOpsS T mu ops l st' pv' K→∃ p,fF T ops l s' v'=some p∧pT E base st s (fun _=>K) (.normal,p.1,p.2):=by
    intro E' st' s' pv' v' hfl hfm hs' hv' hw
    obtain ⟨p,h1,h2⟩:=nj hw hs' hv'
    exact ⟨p,h1,pT.from hfl hfm h2⟩
   have plain:cm o.op=.plain→(wpOp T (DF mu o.dst) o.op st.fr st.hp fun v hp'=>force v fun v=>fY o.dst st.fr v fun fr'=>wpOpsS T mu ops l ⟨fr',hp',st.au,st.rd,st.fl⟩ pv K)→∃ u e,jM T s.hp.n o.op (aI s.fr) s.hp.get=some (u,e)∧∃ p,fF T ops l ⟨cK s.fr o.dst u,s.hp.app e,s.rd⟩ v=some p∧pT E base st s (fun _=>K) (.normal,p.1,p.2):=by
    intro hk h
    obtain ⟨u,e,E',a,hp',r1,r2,r3,r4,r5⟩:=qh hs.h hs.fr h
    refine ⟨u,e,r1,?_⟩
    exact rest (st':=⟨sB st.fr o.dst a,hp',st.au,st.rd,st.fl⟩) rfl r4.CN ⟨r3,hs.rd,jl (r4.CN.fr hs.h hs.fr) r5 o.dst⟩ (hv.CN hs r4.CN) (gy (dw r2))
   unfold Fx at h
   split at h
   ·rename_i hop
    have hS:F6 T o.op s v=some (v.getD .nilIface,s.hp,none):=by
     unfold F6
     rw [hop]
     cases v <;> rfl
    rw [hS]
    simp only
    cases v with
    | none =>
     obtain rfl:pv=none:=hv
     exact rest (st':=⟨sB st.fr o.dst (.fl .nilIface),st.hp,st.au,st.rd,st.fl⟩) (s':=⟨cK s.fr o.dst .nilIface,s.hp,s.rd⟩) rfl .refl ⟨hs.h,hs.rd,jl hs.fr (.d (.fl rfl)) o.dst⟩ rfl (gy h)
    | some v =>
     obtain ⟨a,rfl,ha⟩:=hv
     exact rest (st':=⟨sB st.fr o.dst a,st.hp,st.au,st.rd,st.fl⟩) (s':=⟨cK s.fr o.dst v,s.hp,s.rd⟩) rfl .refl ⟨hs.h,hs.rd,jl hs.fr ha o.dst⟩ rfl (gy h)
   ·rename_i op hne
    obtain ⟨u,e,q1,q2⟩:=plain h.1 h.2
    have hS:F6 T o.op s v=some (u,s.hp.app e,v):=by
     unfold F6
     split
     ·rename_i hop
      exact absurd hop (hne _ _)
     ·simp only [h.1,q1]
    rw [hS]
    exact q2
  ·rw [hg]
   simp only [cond_false]
   obtain ⟨p,h1,h2⟩:=nj (gy h) (E:=E) (base:=base) (s:=⟨cK s.fr o.dst undef,s.hp,s.rd⟩) (v:=v) ⟨hs.h,hs.rd,jl hs.fr vC o.dst⟩ hv
   exact ⟨p,h1,h2⟩
theorem gJ.ops {id:Nat} {ops:Array Oper} {pv:Option AV} {mu:Tmp→Bool} {K:Exit→aR→Option AV→Prop} (h:wpOpsS T mu ops.toList ops.toList st pv (K .normal)):gJ T (.region id ops false) st pv K:=by
 intro E base s v hs hv
 obtain ⟨p,h1,E',st',y,k1,k2⟩:=nj h hs hv
 refine ⟨(.normal,p.1,p.2),?_,E',st',y,k1,k2⟩
 rw [lN]
 simp only [cond_false,h1]
def Je (Kb:aR→Option AV→Prop) (K:Exit→aR→Option AV→Prop) (e:Exit) (s:aR) (y:Option AV):Prop :=
 match e with
 | .normal=>Kb s y
 | e=>K e s y
theorem gJ.seq {a b:Code} {pv:Option AV} {K:Exit→aR→Option AV→Prop} (h:gJ T a st pv (Je (fun s y=>gJ T b s y K) K)):gJ T (.seq a b) st pv K:=by
 intro E base s v hs hv
 obtain ⟨⟨e,s1,v1⟩,h1,E1,vP,y1,k1,k0,k2,k3,k4⟩:=h E base s v hs hv
 rw [qa,h1]
 have other:(∀ x,e ≠ x→True)→K e vP y1→pT E base st s K (e,s1,v1):=fun _ k=>⟨E1,vP,y1,k,k0,k2,k3,k4⟩
 cases e with
 | normal =>
  obtain ⟨p,r1,r2⟩:=k1 E1 base s1 v1 k2 k4
  exact ⟨p,r1,pT.from k0 k3 r2⟩
 | _=>exact ⟨_,rfl,other (fun _ _=>trivial) k1⟩
theorem gJ.cond {c:Operand} {a b:Code} {pv:Option AV} {K:Exit→aR→Option AV→Prop} {t:Bool} (hc:aQ st.fr c=.fl (.bool t)) (h1:t=true→gJ T a st pv K) (h2:t=false→gJ T b st pv K):gJ T (.cond c a b) st pv K:=by
 intro E base s v hs hv
 have:=gG hs.fr c
 rw [hc] at this
 have hv':=this.eJ.1
 rw [nU,hv']
 cases t with
 | true=>exact h1 rfl E base s v hs hv
 | false=>exact h2 rfl E base s v hs hv
theorem gJ.skip {pv:Option AV} {K:Exit→aR→Option AV→Prop} (h:K .normal st pv):gJ T .skip st pv K:=fun E _ s v hs hv=>⟨(.normal,s,v),rfl,E,st,pv,h,rfl,hs,.refl,hv⟩
theorem gJ.ret {pv:Option AV} {K:Exit→aR→Option AV→Prop} (h:K .ret st pv):gJ T .ret st pv K:=fun E _ s v hs hv=>⟨(.ret,s,v),rfl,E,st,pv,h,rfl,hs,.refl,hv⟩
def we (E:Env) (base:Nat) (st:aR) (s:St) (K:nF→aR→AV→Prop) (p:jq × St × Value):Prop :=
 ∃ E' st' y F,K y st' F∧st'.fl=st.fl∧jy E' base st' p.2.1∧iC st.fl base E st.hp s.hp E' st'.hp p.2.1.hp∧Jc E' st'.hp p.2.1.hp p.1 y∧AR E'.ρ p.2.1.hp.get (E'.O st'.hp) F p.2.2
def Bb (T:bf) (tab:List XE) (one:Bool) (c:Code) (st:aR) (K:nF→aR→AV→Prop):Prop :=
 ∀ (E:Env) (base:Nat) (s:St),jy E base st s→∃ m L,nt T (RX T tab m) c s=some L∧kT one L (we E base st s K)
theorem we.from {K:nF→aR→AV→Prop} {E1:Env} {vP:aR} {s1:St} {p:jq × St × Value} (hfl:vP.fl=st.fl) (hf:iC st.fl base E st.hp s.hp E1 vP.hp s1.hp) (h:we E1 base vP s1 K p):we E base st s K p:=by
 obtain ⟨E',st',y,F,k1,k0,k2,k3,k4⟩:=h
 rw [hfl] at k3
 exact ⟨E',st',y,F,k1,k0.trans hfl,k2,hf.trans k3,k4⟩
theorem Bb.JK {a b:Code} {K:nF→aR→AV→Prop} (ha:oH a=none) (h:aL T tab one a st (fun e s=>e=.normal∧Bb T tab one b s K)):Bb T tab one (.seq a b) st K:=by
 intro E base s hs
 obtain ⟨m0,L0,h1,h2,h3⟩:=h E base s hs
 obtain ⟨m,M,hm,q1,q2⟩:=cy (one:=one) (L:=L0) (f:=fun m (p:Exit × St)=>(match p.1 with
   | .normal=>nt T (RX T tab m) b p.2
   | _=>none:Option (List (jq × St × Value)))) (P:=we E base st s K) (fun i j x M hij hx=>by
   obtain ⟨z,s2⟩:=x
   cases z with
   | normal=>exact vl (dI hij) _ _ _ hx
   | _=>cases hx) m0 h2 (fun p hp=>by
  obtain ⟨E',st',⟨k1,k1'⟩,k0,k2,k3⟩:=h3 p hp
  obtain ⟨z,s'⟩:=p
  obtain rfl:z=.normal:=k1
  obtain ⟨m,M,r1,r2,r3⟩:=k1' E' base s' k2
  exact ⟨m,M,r1,r2,fun q hq=>we.from k0 k3 (r3 q hq)⟩)
 refine ⟨m,M,?_,q2⟩
 rw [l6,ha]
 simp only
 rw [dO (dI hm) _ _ _ h1]
 exact q1
theorem Bb.defer {a b:Code} {l:List Oper} {x:Operand} {mu:Tmp→Bool} {K:nF→aR→AV→Prop} (ha:oH a=some (l,x)) (h:wpOps T tab one mu (Bz a) l st (fun st'=>∃ F,aQ st'.fr x=F∧ak T tab one 1000 b ⟨st'.fr,st'.hp,st'.au,st'.rd,st'.hp.length⟩ fun y s=>K y ⟨s.fr,s.hp,s.au,s.rd,st.fl⟩ F)):Bb T tab one (.seq a b) st K:=by
 intro E base s hs
 obtain ⟨m0,L0,h1,h2,h3⟩:=fN h hs
 obtain ⟨m,M,hm,q1,q2⟩:=cy (one:=one) (L:=L0) (f:=fun m (s:St)=>(bw T (RX T tab m) (fq T (RX T tab m) 1000) b s).map fun M=>M.map fun p=>(p.1,p.2,aI s.fr x)) (P:=we E base st s K) (fun i j y M hij hx=>by
   cases hq:bw T (RX T tab i) (fq T (RX T tab i) 1000) b y with
   | none=>rw [hq] at hx;cases hx
   | some N =>
    rw [hq] at hx
    rw [jz hij hq]
    exact hx) m0 h2 (fun s' hp=>by
  obtain ⟨E',st',⟨F,hF,k1⟩,k0,k2,k3⟩:=h3 s' hp
  obtain ⟨m,M,r1,r2,r3⟩:=k1 E' base s' ⟨k2.h,k2.rd,k2.fr⟩
  refine ⟨m,M.map fun p=>(p.1,p.2,aI s'.fr x),by rw [r1];rfl,fun h1=>?_,fun q hq=>?_⟩
  ·obtain ⟨p,hp⟩:=r2 h1
   exact ⟨_,by rw [hp];rfl⟩
  ·obtain ⟨p,hp,rfl⟩:=List.mem_map.1 hq
   obtain ⟨E2,st2,y,j1,j0,j2,j3,j4⟩:=r3 p hp
   have hfr:AR E'.ρ s'.hp.get (E'.O st'.hp) F (aI s'.fr x):=by rw [←hF];exact gG k2.fr x
   exact ⟨E2,⟨st2.fr,st2.hp,st2.au,st2.rd,st.fl⟩,y,F,j1,rfl,⟨j2.h,j2.rd,j2.fr⟩,k3.trans (j3.low k2.h _),j4,j3.ar k2.h hfr⟩)
 refine ⟨m,M,?_,q2⟩
 rw [l6,ha]
 simp only
 rw [fK (dI hm) _ _ _ _ h1]
 exact q1
def zx (T:bf) (F:AV) (pv:Option AV) (hp:List AB) (au:bF) (Q:List AB→bF→Prop):Prop :=
 ∃ g fn c fs cs,F=.fn g fs cs∧T.Bv.get g=some fn∧fn.body=some c∧fn.results.toList=[]∧gJ T c ⟨tv (fs++cs),hp,au,false,hp.length⟩ pv fun e s y=>(e=.normal∨e=.ret)∧y=none∧Q s.hp s.au
def GO (T:bf) (rs:List ResultVar) (Q:AV→List AB→bF→Prop) (y:nF) (st:aR) (F:AV):Prop :=
 match y with
 | .e .normal=>zx T F none st.hp st.au fun hp' amb'=>gW T ⟨st.fr,hp',amb',st.rd,st.fl⟩ rs fun as=>Q (lQ as) hp' amb'
 | .e .ret=>zx T F none st.hp st.au fun hp' amb'=>gW T ⟨st.fr,hp',amb',st.rd,st.fl⟩ rs fun as=>Q (lQ as) hp' amb'
 | .eD a=>zx T F (some a) st.hp st.au fun hp' amb'=>gW T ⟨st.fr,hp',amb',st.rd,st.fl⟩ rs fun as=>Q (lQ as) hp' amb'
 | _=>False
theorem DW {rs:List ResultVar} {F:AV} {pv:Option AV} {Q:AV→List AB→bF→Prop} {clo:Value} {v:Option Value} (hs:jy E base st s) (hF:AR E.ρ s.hp.get (E.O st.hp) F clo) (hv:GN E st.hp s.hp v pv)
  (hd:zx T F pv st.hp st.au fun hp' amb'=>gW T ⟨st.fr,hp',amb',st.rd,st.fl⟩ rs fun as=>Q (lQ as) hp' amb') :
  ∃ H' vs,jB T clo s.hp v=some (H',none)∧eV T s.fr H' rs=some vs∧∃ E' a hp' amb',Q a hp' amb'∧aH E' base hp' amb' H'∧AR E'.ρ H'.get (E'.O hp') a (aV vs)∧iC st.hp.length base E st.hp s.hp E' hp' H':=by
 obtain ⟨g,fn,c,fs,cs,rfl,q1,q2,q3,q4⟩:=hd
 obtain ⟨fs',cs',rfl,h1,h2⟩:∃ fs' cs',clo=.func (.func g) fs' cs'∧eY E.ρ s.hp.get (E.O st.hp) fs fs'.toList∧eY E.ρ s.hp.get (E.O st.hp) cs cs'.toList:=by
  cases hF with
  | d h=>cases h with
   | fn ha hb h1 h2=>exact ⟨_,_,rfl,⟨ha,fun i x u hx hu=>.d (h1 i x u hx hu)⟩,⟨hb,fun i x u hx hu=>.d (h2 i x u hx hu)⟩⟩
  | fn ha hb h1 h2=>exact ⟨_,_,rfl,⟨ha,h1⟩,⟨hb,h2⟩⟩
 obtain ⟨⟨e,s1,v1⟩,r1,E1,vP,y1,⟨k1,k2,k3⟩,k4,k5,k6,k7⟩:=q4 E base ⟨setArgs .leaf 0 (fs'.toList++cs'.toList),s.hp,false⟩ v ⟨hs.h,rfl,mj (h1.append h2)⟩ hv
 obtain rfl:v1=none:=by
  cases v1 with
  | none=>rfl
  | some w =>
   obtain ⟨a,ha,_⟩:=k7
   rw [k2] at ha
   cases ha
 have hrun:jB T (.func (.func g) fs' cs') s.hp v=some (s1.hp,none):=by
  unfold jB
  rw [show bK (.func (.func g) fs' cs') []=some (.fn g (fs'.toList++[]++cs'.toList)) from rfl]
  simp only [q1,q2,q3,List.append_nil]
  rw [r1]
  rcases k1 with k1|k1
  ·simp only at k1;subst k1;rfl
  ·simp only at k1;subst k1;rfl
 obtain ⟨us,as,j1,j2,j3⟩:=gX (E:=E1) (base:=base) (st:=⟨st.fr,vP.hp,vP.au,st.rd,st.fl⟩) (s:=⟨s.fr,s1.hp,s.rd⟩) ⟨k5.h,hs.rd,k6.fr hs.h hs.fr⟩ k3
 exact ⟨s1.hp,us,hrun,j1,E1,lQ as,vP.hp,vP.au,j2,k5.h,zl j3,k6⟩
theorem ah.Jf {hp:List AB} {au:bF} {f:FuncId} {fn:Func} {c:Code} {first caps args:List AV} {Q:AV→List AB→bF→Prop} (hf:T.fn.get f=none) (hd:T.Bv.get f=some fn) (hb:fn.body=some c) (hn:noEntry tab f=true)
  (hw:Bb T tab one c ⟨tv (first++args++caps),hp,au,false,hp.length⟩ (GO T fn.results.toList Q)):ah T tab one (.fn f first caps) args hp au Q:=by
 intro E base H u us hr hF ha
 obtain ⟨fs,cs,rfl,h1,h2⟩:∃ fs cs,u=.func (.func f) fs cs∧eY E.ρ H.get (E.O hp) first fs.toList∧eY E.ρ H.get (E.O hp) caps cs.toList:=by
  cases hF with
  | d h=>cases h with
   | fn ha hb h1 h2=>exact ⟨_,_,rfl,⟨ha,fun i x u hx hu=>.d (h1 i x u hx hu)⟩,⟨hb,fun i x u hx hu=>.d (h2 i x u hx hu)⟩⟩
  | fn ha hb h1 h2=>exact ⟨_,_,rfl,⟨ha,h1⟩,⟨hb,h2⟩⟩
 refine ⟨.fn f (fs.toList++us++cs.toList),rfl,?_⟩
 have hargs:=(h1.append ha).append h2
 obtain ⟨m,L,h1,h2,h3⟩:=hw E base ⟨setArgs .leaf 0 (fs.toList++us++cs.toList),H,false⟩ ⟨hr,rfl,mj hargs⟩
 obtain ⟨m',M,hm,q1,q2,q3⟩:=cy (one:=one) (L:=L) (f:=fun _ (p:jq × St × Value)=>kG T fn.results.toList p)
  (P:=fun r=>∃ w H',r=.ret w H'∧∃ E' a hp' amb',Q a hp' amb'∧aH E' base hp' amb' H'∧AR E'.ρ H'.get (E'.O hp') a w∧iC hp.length base E hp H E' hp' H')
  (fun _ _ _ _ _ h=>h) m h2 (fun p hp'=>by
   obtain ⟨E',st',y,F,k1,k0,k2,k3,k4,k5⟩:=h3 p hp'
   obtain ⟨x,s',clo⟩:=p
   have fin:∀ {v:Option Value} {pv:Option AV},GN E' st'.hp s'.hp v pv→(∀ H' vs,jB T clo s'.hp v=some (H',none)→eV T s'.fr H' fn.results.toList=some vs→kG T fn.results.toList (x,s',clo)=some [.ret (aV vs) H'])→(zx T F pv st'.hp st'.au fun hp' amb'=>gW T ⟨st'.fr,hp',amb',st'.rd,st'.fl⟩ fn.results.toList fun as=>Q (lQ as) hp' amb') →
     ∃ (_:Nat) (M:List eM),kG T fn.results.toList (x,s',clo)=some M∧kT one M fun r=>∃ w H',r=.ret w H'∧∃ E' a hp' amb',Q a hp' amb'∧aH E' base hp' amb' H'∧AR E'.ρ H'.get (E'.O hp') a w∧iC hp.length base E hp H E' hp' H':=by
    intro v pv hpv hx hd
    obtain ⟨H',vs,r1,r2,E2,a,hp2,amb2,r3,r4,r5,r6⟩:=DW k2 k5 hpv hd
    exact ⟨0,[.ret (aV vs) H'],hx H' vs r1 r2,.single ⟨_,_,rfl,E2,a,hp2,amb2,r3,r4,r5,k3.trans (r6.low k2.h _)⟩⟩
   cases x with
   | eD v =>
    obtain ⟨a,rfl,hav⟩:=k4
    exact fin (v:=some v) (pv:=some a) ⟨a,rfl,hav⟩ (fun H' vs h1 h2=>by unfold kG;simp only [h1,h2,Option.map_some]) k1
   | e e =>
    obtain rfl:y=.e e:=k4
    cases e with
    | normal=>exact fin (v:=none) (pv:=none) rfl (fun H' vs h1 h2=>by unfold kG;simp only [h1,h2,Option.map_some]) k1
    | ret=>exact fin (v:=none) (pv:=none) rfl (fun H' vs h1 h2=>by unfold kG;simp only [h1,h2,Option.map_some]) k1
    | _=>exact k1.elim)
 refine ⟨m'+1,M,?_,q2,q3⟩
 show RX T tab (m'+1) (.call f _ H)=_
 rw [rm,iZ _ _ hn]
 simp only
 rw [gF,hf]
 simp only
 unfold nu
 simp only [hd,hb]
 rw [vl (dI hm) _ _ _ h1]
 exact q1
end
end Go.RM
namespace Go.RM
open Go
section
variable {T : bf} {tab : List XE} {one : Bool} {base : Nat} {E E' : Env} {st st' : aR} {s s' : St} {n n' : Nat}
theorem cX.fuel {F:AV} {args:List AV} {hp:List AB} {au:bF} {Q:v9→List AB→bF→Prop} (hn:n≤n') (h:cX T tab one n F args hp au Q):cX T tab one n' F args hp au Q:=by
 intro E base H u us hr hF ha
 obtain ⟨g,as,fn,h1,h2,m,L,h3,h4⟩:=h E base H u us hr hF ha
 exact ⟨g,as,fn,h1,h2,m,L,sL hn _ _ h3,h4⟩
theorem cX.mono {F:AV} {args:List AV} {hp:List AB} {au:bF} {Q Q':v9→List AB→bF→Prop} (h:cX T tab one n F args hp au Q) (hq:∀ y hp' amb',Q y hp' amb'→Q' y hp' amb'):cX T tab one n F args hp au Q':=by
 intro E base H u us hr hF ha
 obtain ⟨g,as,fn,h1,h2,m,L,h3,h4,h5⟩:=h E base H u us hr hF ha
 refine ⟨g,as,fn,h1,h2,m,L,h3,h4,fun r hr=>?_⟩
 obtain ⟨E',y,hp',amb',k1,k2⟩:=h5 r hr
 exact ⟨E',y,hp',amb',hq _ _ _ k1,k2⟩
theorem ak.mono {c:Code} {K K':nF→aR→Prop} (h:ak T tab one n c st K) (hk:∀ y s,K y s→K' y s):ak T tab one n c st K':=by
 intro E base s hs
 obtain ⟨m,L,h1,h2,h3⟩:=h E base s hs
 refine ⟨m,L,h1,h2,fun p hp=>?_⟩
 obtain ⟨E',st',y,k1,k2⟩:=h3 p hp
 exact ⟨E',st',y,hk _ _ k1,k2⟩
def Bc (T:bf) (tab:List XE) (one:Bool) (n:Nat) (dst:Option Tmp) (f:Operand) (l:List Operand) (K:nF→aR→Prop) (st:aR):Prop :=
 ∃ Q,cX T tab one n (aQ st.fr f) (l.map (aQ st.fr)) st.hp st.au Q∧(∀ a hp' amb',Q (.ret a) hp' amb'→K (.e .normal) ⟨sB st.fr dst a,hp',amb',st.rd,st.fl⟩)∧∀ a hp' amb',Q (.eD a) hp' amb'→K (.eD a) ⟨st.fr,hp',amb',st.rd,st.fl⟩
theorem Bc.run {ops:List Oper} {dst:Option Tmp} {f:Operand} {l:List Operand} {tys:Array TypeId} {ty:TypeId} {pos:String} {after:Array Edge} {K:nF→aR→Prop} (h:Bc T tab one n dst f l K st) (hs:jy E base st s) :
  ∃ m M,aF T (RX T tab m) (fq T (RX T tab m) n) ops [⟨dst,.call ⟨.value f,l.toArray,tys⟩,ty,pos,after,none⟩] s=some M∧kT one M fun p=>jS E base st s K (eN p):=by
 obtain ⟨Q,h,hret,hpan⟩:=h
 obtain ⟨g,gas,fn,hgo,hg,m,L,q1,q2,q3⟩:=h E base s.hp _ _ hs.h (gG hs.fr f) (iw hs.fr l)
 have hpc:mG T (.call ⟨.value f,l.toArray,tys⟩) s=some (g,gas):=by
  unfold mG
  show (match bK (aI s.fr f) (l.map (aI s.fr)) with
   | some (.fn g as)=>match T.Bs.get g with
    | some _=>some (g,as)
    | none=>none
   | _=>none)=_
  rw [hgo]
  simp only [hg]
 obtain ⟨m',M,hm,r1,r2⟩:=cy (one:=one) (L:=L) (f:=fun _ (r:dz)=>IF dst s (fun st=>some [(none,st)]) r) (P:=fun p:Option Value × St=>jS E base st s K (eN p)) (fun _ _ _ _ _ h=>h) m q2 (fun r hr=>by
  obtain ⟨E',y,hp',amb',k1,k2,k3,k4⟩:=q3 r hr
  cases r with
  | ret v H' =>
   obtain ⟨a,rfl,hav⟩:=k3
   exact ⟨0,[(none,⟨cK s.fr dst v,H',s.rd⟩)],rfl,.single ⟨E',⟨sB st.fr dst a,hp',amb',st.rd,st.fl⟩,.e .normal,hret a hp' amb' k1,rfl,⟨k2,hs.rd,jl (k4.fr hs.h hs.fr) hav dst⟩,k4.low hs.h _,rfl⟩⟩
  | eD v H' =>
   obtain ⟨a,rfl,hav⟩:=k3
   exact ⟨0,[(some v,⟨s.fr,H',s.rd⟩)],rfl,.single ⟨E',⟨st.fr,hp',amb',st.rd,st.fl⟩,.eD a,hpan a hp' amb' k1,rfl,⟨k2,hs.rd,k4.fr hs.h hs.fr⟩,k4.low hs.h _,a,rfl,hav⟩⟩
  | out x z=>exact k3.elim)
 refine ⟨m',M,?_,r2⟩
 have hany:eE T (RX T tab m') (fq T (RX T tab m') n) (.call ⟨.value f,l.toArray,tys⟩) s=some L:=by
  unfold eE
  rw [show kX (.call ⟨.value f,l.toArray,tys⟩)=none from rfl]
  simp only [hpc]
  exact mZ (dI hm) _ _ _ q1
 rw [bX]
 show _root_.cond true _ _=_
 simp only [cond_true,hany]
 exact r1
theorem Bc.after {ops:List Oper} {dst:Option Tmp} {f:Operand} {l:List Operand} {tys:Array TypeId} {ty:TypeId} {pos:String} {after:Array Edge} {K:nF→aR→Prop} {m0:Nat} {L0:List St}
  (h1:one=true→∃ p,L0=[p]) (h2:∀ p ∈ L0,qi E base st s (Bc T tab one n dst f l K) p) :
  ∃ m M,m0≤m∧aK L0 (fun s=>aF T (RX T tab m) (fq T (RX T tab m) n) ops [⟨dst,.call ⟨.value f,l.toArray,tys⟩,ty,pos,after,none⟩] s)=some M∧kT one M fun p=>jS E base st s K (eN p) :=
 cy (one:=one) (L:=L0) (f:=fun m s=>aF T (RX T tab m) (fq T (RX T tab m) n) ops [⟨dst,.call ⟨.value f,l.toArray,tys⟩,ty,pos,after,none⟩] s) (P:=fun p=>jS E base st s K (eN p)) (fun i j x M hij hx=>oc (dI hij) (mZ (dI hij) n) _ _ _ _ hx) m0 h1 (fun p hp=>by
  obtain ⟨E',st',k1,k0,k2,k3⟩:=h2 p hp
  obtain ⟨m,M,r1,r2,r3⟩:=k1.run (ops:=ops) (tys:=tys) (ty:=ty) (pos:=pos) (after:=after) k2
  exact ⟨m,M,r1,r2,fun q hq=>jS.from k0 k3 (r3 q hq)⟩)
theorem ak.j9 (hT:tF T tab) {id:Nat} {L A:List Oper} {mu:Tmp→Bool} {dst:Option Tmp} {f:Operand} {l:List Operand} {tys:Array TypeId} {ty:TypeId} {pos:String} {after:Array Edge} {K:nF→aR→Prop}
  (hl:L=A++[⟨dst,.call ⟨.value f,l.toArray,tys⟩,ty,pos,after,none⟩]) (h:wpOps T tab one mu L A st (Bc T tab one n dst f l K)):ak T tab one n (.region id L.toArray false) st K:=by
 intro E base s hs
 obtain ⟨m0,L0,h1,h2,h3⟩:=fN h hs
 obtain ⟨m,M,hm,q1,q2,q3⟩:=Bc.after (ops:=L) (tys:=tys) (ty:=ty) (pos:=pos) (after:=after) (m0:=m0) h2 h3
 refine ⟨m,M.map eN,?_,fun h1=>?_,fun p hp=>?_⟩
 ·rw [bY]
  simp only [cond_false]
  have:aF T (RX T tab m) (fq T (RX T tab m) n) L L s=some M:=by
   have e:=sM (recP:=fq T (RX T tab m) n) hT L A s _ (fK (dI hm) _ _ _ _ h1)
   have:=j8 (T:=T) (rec:=RX T tab m) (recP:=fq T (RX T tab m) n) (ops:=L) A [⟨dst,.call ⟨.value f,l.toArray,tys⟩,ty,pos,after,none⟩] s (M:=M) e (by rw [oZ];exact q1)
   rw [hl] at this ⊢
   exact this
  rw [this]
 ·obtain ⟨p,hp⟩:=q2 h1
  exact ⟨_,by rw [hp];rfl⟩
 ·obtain ⟨q,hq,rfl⟩:=List.mem_map.1 hp
  exact q3 q hq
theorem ak.fO {id:Nat} {L A:List Oper} {mu:Tmp→Bool} {dst:Option Tmp} {f:Operand} {l:List Operand} {tys:Array TypeId} {ty:TypeId} {pos:String} {after:Array Edge} {K:nF→aR→Prop} {c:Nat}
  (hl:L=A++[⟨dst,.call ⟨.value f,l.toArray,tys⟩,ty,pos,after,none⟩]) (hA:A.length=c) (hc:qx T L.toArray=some c) (h:i5 T tab mu L.toArray A 0 (fun _=>0) [] st (Bc T tab one n dst f l K)):ak T tab one n (.region id L.toArray true) st K:=by
 intro E base s hs
 obtain ⟨m0,s',r1,E',st',r2,r3,r4,r5⟩:=j7 (base:=base) (tr:=fun _=>⟨E,st.hp,s.hp⟩) (evs:=[]) h ⟨fun _ _=>hs.h,fun _ _ _ _=>.refl⟩ rfl rfl hs.rd (fun t=>⟨Nat.le_refl _,hs.fr t⟩) .nil
 obtain ⟨m,M,hm,q1,q2,q3⟩:=Bc.after (E:=E) (base:=base) (s:=s) (st:=st) (ops:=L) (tys:=tys) (ty:=ty) (pos:=pos) (after:=after) (m0:=m0) (L0:=[s']) (K:=K) (one:=one) (tab:=tab) (n:=n) (dst:=dst) (f:=f) (l:=l) (fun _=>⟨_,rfl⟩) (fun p hp=>by
  obtain rfl:=List.mem_singleton.1 hp
  exact ⟨E',st',r2,r3,r4,r5.CN⟩)
 rw [cN] at q1
 refine ⟨m,M.map eN,?_,fun h1=>?_,fun p hp=>?_⟩
 ·rw [bY]
  simp only [cond_true]
  have:cw T (RX T tab m) (fq T (RX T tab m) n) L.toArray s=some M:=by
   unfold cw
   rw [hc]
   simp only
   have e1:L.take c=A:=by rw [hl,←hA];simp
   have e2:L.drop c=[⟨dst,.call ⟨.value f,l.toArray,tys⟩,ty,pos,after,none⟩]:=by rw [hl,←hA];simp
   rw [e1,e2,gT (dI hm) _ _ _ _ _ _ r1]
   simp only [cN]
   exact q1
  rw [this]
 ·obtain ⟨p,hp⟩:=q2 h1
  exact ⟨_,by rw [hp];rfl⟩
 ·obtain ⟨q,hq,rfl⟩:=List.mem_map.1 hp
  exact q3 q hq
theorem bq {Kb:aR→Prop} {K:nF→aR→Prop} {s:aR} (h:Kb s):Fv Kb K (.e .normal) s:=h
theorem C5 {Kb:aR→Prop} {K:nF→aR→Prop} {s:aR} {a:AV} (h:K (.eD a) s):Fv Kb K (.eD a) s:=h
end
end Go.RM
namespace Go.RM
open Go
end Go.RM
namespace Go.RM
open Go
section
variable {T : bf} {tab : List XE} {one : Bool} {n : Nat}
noncomputable def oB (T:bf):Code→Bool
 | .skip=>true
 | .label _=>true
 | .region _ _ false=>true
 | .region _ ops true=>match qx T ops with
  | none=>true
  | some _=>false
 | .seq a b=>oB T a && oB T b
 | .cond _ a b=>oB T a && oB T b
 | .block _ c=>oB T c
 | .exit _=>true
 | .ret=>true
 | _=>false
def eP (p:Exit × St):jq × St:=(.e p.1,p.2)
theorem GV (hT:tF T tab) {m:Nat} {recP:mF→Option (List dz)}:∀ (c:Code),oB T c=true→∀ (s:St) (L:List (Exit × St)),aY T (RX T tab m) c s=some L→bw T (RX T tab m) recP c s=some (L.map eP):=by
 intro c
 induction c with
 | skip=>intro _ s L h;cases h;rfl
 | label l=>intro _ s L h;cases h;rfl
 | exit id=>intro _ s L h;cases h;rfl
 | ret=>intro _ s L h;cases h;rfl
 | region id ops draw =>
  intro hf s L h
  rw [dD] at h
  rw [bY]
  cases draw with
  | false =>
   simp only [cond_false] at h ⊢
   cases hx:aE T (RX T tab m) ops.toList ops.toList s with
   | none=>rw [hx] at h;cases h
   | some R =>
    rw [hx] at h
    simp only [Option.some.injEq] at h
    subst h
    rw [sM hT _ _ _ _ hx]
    simp only [List.map_map]
    rfl
  | true =>
   simp only [cond_true] at h ⊢
   cases hx:bW T (RX T tab m) ops s with
   | none=>rw [hx] at h;cases h
   | some R =>
    rw [hx] at h
    simp only [Option.some.injEq] at h
    subst h
    have hno:qx T ops=none:=by
     unfold oB at hf
     split at hf
     ·assumption
     ·cases hf
    unfold cw
    rw [hno]
    simp only [hx,List.map_map]
    rfl
 | seq a b iha ihb =>
  intro hf s L h
  unfold oB at hf
  rw [Bool.and_eq_true] at hf
  rw [kj] at h
  rw [iQ]
  cases hx:aY T (RX T tab m) a s with
  | none=>rw [hx] at h;cases h
  | some R =>
   rw [hx] at h
   rw [iha hf.1 s R hx]
   simp only at h ⊢
   rw [oZ]
   refine ql _ (fun p M hp=>?_) h
   unfold tK at hp
   unfold qw eP
   split at hp
   ·rename_i he
    simp only [he]
    exact ihb hf.2 _ _ hp
   ·rename_i he
    cases hp
    obtain ⟨e,s'⟩:=p
    cases e <;> first|rfl|exact absurd rfl he
 | cond c a b iha ihb =>
  intro hf s L h
  unfold oB at hf
  rw [Bool.and_eq_true] at hf
  rw [iN] at h
  rw [gP]
  split at h
  ·rename_i t hv
   cases t with
   | true=>exact iha hf.1 s L h
   | false=>exact ihb hf.2 s L h
  ·cases h
 | block id c ih =>
  intro hf s L h
  unfold oB at hf
  rw [ju] at h
  rw [iq]
  cases hx:aY T (RX T tab m) c s with
  | none=>rw [hx] at h;cases h
  | some R =>
   rw [hx] at h
   simp only [Option.some.injEq] at h
   subst h
   rw [ih hf s R hx]
   simp only [List.map_map,Option.some.injEq]
   apply List.map_congr_left
   intro p _
   obtain ⟨e,s'⟩:=p
   cases e <;> rfl
 | _=>intro hf;cases hf
theorem ak.flat (hT:tF T tab) {c:Code} {st:aR} {K:nF→aR→Prop} (hf:oB T c=true) (h:aL T tab one c st fun e s=>K (.e e) s):ak T tab one n c st K:=by
 intro E base s hs
 obtain ⟨m,L,q1,q2,q3⟩:=h E base s hs
 refine ⟨m,L.map eP,GV hT c hf s L q1,fun h1=>?_,fun p hp=>?_⟩
 ·obtain ⟨p,hp⟩:=q2 h1
  exact ⟨_,by rw [hp];rfl⟩
 ·obtain ⟨q,hq,rfl⟩:=List.mem_map.1 hp
  obtain ⟨E',st',k1,k0,k2,k3⟩:=q3 q hq
  exact ⟨E',st',.e q.1,k1,k0,k2,k3,rfl⟩
end
end Go.RM
namespace Go.RM
open Go
section
variable {T : bf} {tab : List XE} {one : Bool}
theorem ah.cut {F:AV} {args:List AV} {hp:List AB} {au:bF} {Q:AV→List AB→bF→Prop} (h:ah T tab one F args hp au Q) (hc:∀ a hp' amb',Q a hp' amb'→a.iE hp.length=true∧(hp'.take hp.length).all (AB.iE hp.length)=true) :
  ah T tab one F args hp au fun a hp2 amb'=>∃ hp',hp2=hp'.take hp.length∧Q a hp' amb':=by
 intro E base H u us hr hf ha
 obtain ⟨goal,hg,m,L,h1,h2,h3⟩:=h E base H u us hr hf ha
 refine ⟨goal,hg,m,L,h1,h2,fun r hm=>?_⟩
 obtain ⟨w,H',rfl,E',a,hp',amb',q1,q2,q3,q4⟩:=h3 r hm
 obtain ⟨c1,c2⟩:=hc a hp' amb' q1
 have hw:ai (⟨cz [(0,a)],hp',amb',false,hp.length⟩:aR) ⟨cz [(0,a)],hp'.take hp.length,amb',false,hp.length⟩ :=
  ai.to hp.length rfl ⟨rfl,trivial⟩ (Nat.le_refl _) (by simp [c1]) c2
 have hs:jy E' base (⟨cz [(0,a)],hp',amb',false,hp.length⟩:aR) ⟨(.leaf:Tr Value).set 0 w,H',false⟩:=by
  refine ⟨q2,rfl,fun t=>?_⟩
  show AR _ _ _ (cz [(0,a)] t) ((((.leaf:Tr Value).set 0 w).get t).getD undef)
  rw [Tr.fU]
  by_cases ht:t=0
  ·subst ht;exact q3
  ·rw [if_neg ht]
   have:cz [(0,a)] t=.bE:=by
    unfold cz
    rw [Tr.beq_eq,decide_eq_false ht]
    rfl
   rw [this]
   exact .bE
 obtain ⟨E2,k1,k2⟩:=hw.2 E' base _ hs
 have h0:=k1.fr 0
 refine ⟨w,H',rfl,E2,a,_,amb',⟨hp',rfl,q1⟩,k1.h,?_,q4.trans k2⟩
 have e:(((.leaf:Tr Value).set 0 w).get 0).getD undef=w:=by rw [Tr.fU,if_pos rfl];rfl
 have h0:AR E2.ρ H'.get (E2.O (hp'.take hp.length)) (cz [(0,a)] 0) ((((.leaf:Tr Value).set 0 w).get 0).getD undef):=h0
 rw [e] at h0
 exact h0
end
end Go.RM
namespace Go.RM
open Go
section
variable {T : bf} {tab : List XE} {one : Bool} {mu : Tmp → Bool} {base : Nat} {E : Env} {hp : List AB} {au : bF} {H : Hp} {ρ : Nat → Nat → Option Nat} {g : ax} {O O' : Nat → Prop}
def Hw (j av:Nat) (cs:List AV):List AV→List AV→Prop
 | [],[]=>True
 | a :: l,b :: m=>Gv j av cs a b∧Hw j av cs l m
 | _,_=>False
theorem Hw.len {j av:Nat} {cs:List AV}:∀ {l m:List AV},Hw j av cs l m→l.length=m.length
 | [],[],_=>rfl
 | _ :: _,_ :: _,h=>by simp only [List.length_cons];rw [Hw.len h.2]
 | [],_ :: _,h=>h.elim
 | _ :: _,[],h=>h.elim
theorem Hw.get {j av:Nat} {cs:List AV}:∀ {l m:List AV},Hw j av cs l m→∀ (i:Nat) (a b:AV),l[i]?=some a→m[i]?=some b→Gv j av cs a b
 | [],[],_,i,a,b,ha,_=>by cases ha
 | x :: l,y :: m,h,i,a,b,ha,hb=>by
  cases i with
  | zero=>cases ha;cases hb;exact h.1
  | succ i=>exact Hw.get h.2 i a b (by simpa using ha) (by simpa using hb)
 | [],_ :: _,h,_,_,_,_,_=>h.elim
 | _ :: _,[],h,_,_,_,_,_=>h.elim
inductive GB (j av:Nat) (cs:List AV):AB→AB→Prop
 | cells {l m:List AV} {es v:Nat}:Hw j av cs l m→GB j av cs (.cells l es v) (.cells m es v)
 | same {b:AB}:b.mB j=true→GB j av cs b b
theorem GB.av {j av:Nat} {cs:List AV} {b b':AB} (h:GB j av cs b b'):b'.ver?=b.ver?:=by
 cases h with
 | cells=>rfl
 | same=>rfl
def Hx (j av:Nat) (cs:List AV):Nat→List AB→List AB→Prop
 | _,[],[]=>True
 | i,b :: l,b' :: m=>(if Nat.beq i j then b'=.gone else GB j av cs b b')∧Hx j av cs (i+1) l m
 | _,_,_=>False
theorem Hx.len {j av:Nat} {cs:List AV}:∀ {l m:List AB} {i:Nat},Hx j av cs i l m→l.length=m.length
 | [],[],_,_=>rfl
 | _ :: _,_ :: _,_,h=>by simp only [List.length_cons];rw [Hx.len h.2]
 | [],_ :: _,_,h=>h.elim
 | _ :: _,[],_,h=>h.elim
theorem Hx.get {j av:Nat} {cs:List AV}:∀ {l m:List AB} {i0:Nat},Hx j av cs i0 l m→∀ (i:Nat) (b':AB),m[i]?=some b'→(i0+i=j∧b'=.gone)∨(i0+i ≠ j∧∃ b,l[i]?=some b∧GB j av cs b b')
 | [],[],_,_,i,b',hb=>by cases hb
 | x :: l,y :: m,i0,h,i,b',hb=>by
  cases i with
  | zero =>
   cases hb
   have h1:=h.1
   split at h1
   ·rename_i hb
    exact .inl ⟨Nat.eq_of_beq_eq_true hb,h1⟩
   ·rename_i hb
    exact .inr ⟨fun e=>hb (by subst e;exact Nat.beq_refl _),x,rfl,h1⟩
  | succ i =>
   rcases Hx.get h.2 i b' (by simpa using hb) with ⟨h1,h2⟩|⟨h1,b,h2,h3⟩
   ·exact .inl ⟨by omega,h2⟩
   ·exact .inr ⟨by omega,b,by simpa using h2,h3⟩
 | [],_ :: _,_,h,_,_,_=>h.elim
 | _ :: _,[],_,h,_,_,_=>h.elim
theorem ai.Jh {st:aR} {l:List (Nat × AV)} (j:Nat) {av es:Nat} {cs:List AV} {hp':List AB} (hj:st.hp[j]?=some (.cells cs es av)) (hn:st.fl≤j) (hd:dJ cs=true) (hs:vL j av cs st.fr l) (hb:Hx j av cs 0 st.hp hp') :
  ai st ⟨cz l,hp',st.au,st.rd,st.fl⟩:=by
 have hlt:j < st.hp.length:=(List.getElem?_eq_some_iff.1 hj).1
 have hlen:=hb.len
 refine ⟨rfl,fun E base s hs'=>?_⟩
 have hr:=hs'.h
 have hget:∀ (i:Nat) (b:AB) (av:Nat),hp'[i]?=some b→b.ver?=some av→i ≠ j∧∃ b0,st.hp[i]?=some b0∧b0.ver?=some av:=by
  intro i b v hi hv
  rcases hb.get i b hi with ⟨_,h2⟩|⟨h1,b0,h2,h3⟩
  ·subst h2;cases hv
  ·exact ⟨by omega,b0,h2,by rw [←h3.av];exact hv⟩
 have hdr:∀ {i v k:Nat},aM j E.ρ i v=some k→i ≠ j∧E.ρ i v=some k:=by
  intro i v k h
  unfold aM at h
  split at h
  ·cases h
  ·rename_i hne;exact ⟨hne,h⟩
 have hown:∀ k,Own (aM j E.ρ) hp' k→Own E.ρ st.hp k:=by
  rintro k ⟨i,b,v,h1,h2,h3⟩
  obtain ⟨_,b0,g1,g2⟩:=hget i b v h1 h2
  exact ⟨i,b0,v,g1,g2,(hdr h3).2⟩
 have hOs:∀ k,({E with ρ:=aM j E.ρ}:Env).O hp' k→E.O st.hp k:=fun k h=>h.imp (hown k) id
 have hpt:∀ {o:Nat} {u:Value},AR E.ρ s.hp.get (E.O st.hp) (.ptr j av o) u→AR (aM j E.ρ) s.hp.get (({E with ρ:=aM j E.ρ}:Env).O hp') (.pt cs o) u:=by
  intro o u h
  obtain ⟨k,hk,rfl⟩:=h.de
  obtain ⟨cs',q1,q2⟩:=hr.cells hj hk
  have hnO:¬ ({E with ρ:=aM j E.ρ}:Env).O hp' k:=by
   rintro (⟨i,b,v,h1,h2,h3⟩|hx)
   ·have:=hdr h3
    exact this.1 (hr.inj i j v av k this.2 hk)
   ·exact hr.iD k ⟨j,_,av,hj,rfl,hk⟩ hx
  have:=q2.deep hd
  refine .d (?_:DR _ _ (.pt cs o) (.pointer (some ⟨k,o,none⟩)))
  have h0:DR s.hp.get (({E with ρ:=aM j E.ρ}:Env).O hp') (.pt cs o) (.pointer (some ⟨k,0+o,none⟩)) :=
   .pt q1 hnO (by rw [Nat.zero_add,this.1];exact Nat.le_refl _) (fun i a u x y=>(this.2 i a u x (by rw [Nat.zero_add] at y;exact y)).mono fun k b hk ho=>⟨hk,fun h=>ho (hOs k h)⟩)
  rw [Nat.zero_add] at h0
  exact h0
 have hrow:∀ {o n c:Nat} {els:List (List AV)} {b:Bool} {u:Value} (es:Nat),o+n * es≤cs.length→els.length=n→(∀ el ∈ els,el.length=es)→els.flatten=(cs.drop o).take (n * es)→(b=true→c=n)→AR E.ρ s.hp.get (E.O st.hp) (.dY j av o n c) u →
   AR (aM j E.ρ) s.hp.get (({E with ρ:=aM j E.ρ}:Env).O hp') (.sl els b) u:=by
  intro o n c els b u es g1 g2 g3 g4 g5 h
  rcases h.eu with ⟨k,hk,rfl⟩|⟨rfl,rfl,rfl⟩
  ·obtain ⟨cs',q1,q2⟩:=hr.cells hj hk
   have hnO:¬ ({E with ρ:=aM j E.ρ}:Env).O hp' k:=by
    rintro (⟨i,b,v,h1,h2,h3⟩|hx)
    ·have:=hdr h3
     exact this.1 (hr.inj i j v av k this.2 hk)
    ·exact hr.iD k ⟨j,_,av,hj,rfl,hk⟩ hx
   have hdp:=q2.deep hd
   refine .d (.sl (es:=es) q1 hnO (by rw [←q2.1];exact g1) g2 (fun i el he=>g3 el (List.mem_of_getElem? he)) (fun i el jj a u he hx hu=>?_) g5)
   have hjj:jj < es:=by rw [←g3 el (List.mem_of_getElem? he)];exact (List.getElem?_eq_some_iff.1 hx).1
   have hat:=eZ g3 i el jj he hjj
   have hi:i < n:=by rw [←g2];exact (List.getElem?_eq_some_iff.1 he).1
   rw [g4,List.getElem?_take,List.getElem?_drop] at hat
   have hlt:i * es+jj < n * es:=by
    have:(i+1) * es≤n * es:=Nat.mul_le_mul_right _ hi
    rw [Nat.add_mul,Nat.one_mul] at this
    omega
   rw [if_pos hlt,hx,←Nat.add_assoc] at hat
   exact (hdp.2 _ a u hat hu).mono fun k b hk ho=>⟨hk,fun h=>ho (hOs k h)⟩
  ·simp only [List.length_eq_zero_iff] at g2
   subst g2
   exact .d .nil
 have hgv:∀ {a b:AV} {u:Value},Gv j av cs a b→AR E.ρ s.hp.get (E.O st.hp) a u→AR (aM j E.ρ) s.hp.get (({E with ρ:=aM j E.ρ}:Env).O hp') b u:=by
  intro a b u hg h
  cases hg with
  | same hn=>exact h.mB hOs hn
  | ptr=>exact hpt h
  | row es g1 g2 g3 g4 g5=>exact hrow es g1 g2 g3 g4 g5 h
  | bE=>exact .bE
 refine ⟨{E with ρ:=aM j E.ρ},⟨⟨hr.wf,fun i b v hi hv=>?_,fun i i' v v' k h1 h2=>hr.inj i i' v v' k (hdr h1).2 (hdr h2).2,fun i v k hk=>hr.rn i v k (hdr hk).2,fun i b v w h1 h2 h3=>?_,fun i v hi=>?_,fun k hk=>hr.sup k (hown k hk),fun k hk=>hr.iD k (hown k hk),hr.dx,hr.ds,hr.sn,hr.xn,fun k hk=>hr.pR k (hk.imp (hown k) id),hr.bn,hr.au⟩,hs'.rd,fun t=>hgv (zj hs t) (hs'.fr t)⟩,
  ⟨Nat.le_refl _,fun i v k hi hk=>?_,fun k hk=>.inl (hown k hk),fun _ h=>.inl h,fun _ h=>.inl h,fun _ h=>h,fun _ h=>.inl h,fun _ _ _ _=>rfl,Nat.min_le_left _ _⟩⟩
 ·rcases hb.get i b hi with ⟨_,h2⟩|⟨hij,b0,hi',hG⟩
  ·subst h2;cases hv
  ·have hij:i ≠ j:=by omega
   have hv':b0.ver?=some v:=by rw [←hG.av];exact hv
   rcases hr.gn i b0 v hi' hv' with ⟨k,b',q1,q2,q3⟩|⟨q1,q2⟩
   ·refine .inl ⟨k,b',by show aM j E.ρ i v=_;rw [aM,if_neg hij];exact q1,q2,?_⟩
    cases hG with
    | @cells l0 m0 es0 v0 hL =>
     obtain ⟨cs',rfl,h⟩:=q3
     refine ⟨cs',rfl,by rw [←hL.len];exact h.1,fun i a u ha hu=>?_⟩
     have hli:i < l0.length:=by rw [hL.len];exact (List.getElem?_eq_some_iff.1 ha).1
     exact hgv (hL.get i l0[i] a (List.getElem?_eq_getElem hli) ha) (h.2 i l0[i] u (List.getElem?_eq_getElem hli) hu)
    | same hbn =>
     cases b with
     | cells cs2 es2 ver2 =>
      obtain ⟨cs',rfl,h⟩:=q3
      exact ⟨cs',rfl,h.1,fun i a u ha hu=>(h.2 i a u ha hu).mB hOs (cV hbn i a ha)⟩
     | dj p q=>exact q3
     | map ents clock =>
      obtain ⟨es,rfl,h1,h2⟩:=q3
      refine ⟨es,rfl,h1,fun i k v born x hx hy=>?_⟩
      simp only [AB.mB,List.all_eq_true,Bool.and_eq_true] at hbn
      have:=hbn _ (List.mem_of_getElem? hx)
      exact ⟨(h2 i k v born x hx hy).1.mB hOs this.1,(h2 i k v born x hx hy).2.1.mB hOs this.2,(h2 i k v born x hx hy).2.2⟩
     | iter i2 since seen stepped =>
      obtain ⟨m,rfl,h⟩:=q3
      exact ⟨m,rfl,by show aM j E.ρ i2 0=_;rw [aM,if_neg (fZ hbn)];exact h⟩
     | gone=>exact q3
   ·refine .inr ⟨by show aM j E.ρ i v=_;rw [aM,if_neg hij];exact q1,?_⟩
    cases hG with
    | @cells l0 m0 es0 v0 hL =>
     obtain ⟨es1,h1⟩:=q2
     cases h1
     have h2:=hL.len
     cases m0 with
     | nil=>exact ⟨_,rfl⟩
     | cons _ _=>cases h2
    | same _=>exact q2
 ·obtain ⟨hij,b0,h1,h2⟩:=hget i b v h1 h2
  show aM j E.ρ i w=none
  rw [aM,if_neg hij];exact hr.fresh i b0 v w h1 h2 h3
 ·show aM j E.ρ i v=none
  unfold aM
  split
  ·rfl
  ·exact hr.new i v (by rw [hlen];exact hi)
 ·show aM j E.ρ i v=some k
  rw [aM,if_neg (by omega)];exact hk
end
end Go.RM
