/-
  Contracts of the program's functions and of the document's. Lemmas alone; their conditions stand in them.
-/
import Derived.Test.YtichbhmnhkegiaaGreatK2
import Derived.Test.YtichbhmnhkegiaaGreatK11
import Derived.Test.YtichbhmnhkegiaaGreatK14
import Derived.Test.YtichbhmnhkegiaaGreatK15
import Derived.Test.YtichbhmnhkegiaaGreatK18
import Derived.Test.YtichbhmnhkegiaaGreatK20
open Go Go.RM Go.AirLaw
namespace Go.Proofs.YtichbhmnhkegiaaGreat
set_option maxRecDepth 100000
set_option maxHeartbeats 4000000
theorem w9 {s:Span} (n:Int) (h:s.lo≤s.hi):s.lo≤oX s n∧oX s n≤s.hi:=by
 unfold oX
 have h1:=Int.emod_nonneg n (b:=s.hi - s.lo+1) (by omega)
 have h2:=Int.emod_lt_of_pos n (b:=s.hi - s.lo+1) (by omega)
 omega
theorem Ei {s:au} {n:aA} {rs:List av} (ho:jW s n rs) (x:iA):l7 s n x ∈ oa s n false:=by
 have g1:=ho.gU.cand _ ho.mem
 have g2:=ho.gU.clear
 show _ ∈ dH s n
 unfold dH
 rw [pT]
 exact ⟨_,jm.2 (w9 x.a (by omega)),_,jm.2 (w9 x.b (by omega)),rfl⟩
theorem GA {s:au} {n:aA} {rs:List av} (ho:jW s n rs) (x:iA):oY s n x ∈ oa s n true:=by
 have g3:=ho.gU.aN
 have g5:=ho.bX
 have h1:=Int.emod_nonneg x.d (b:=n.bX) (by omega)
 have h2:=Int.emod_lt_of_pos x.d (b:=n.bX) (by omega)
 show _ ∈ fc s n
 unfold fc
 rw [pT]
 exact ⟨_,jm.2 (w9 x.c (by omega)),n.dc+x.d % n.bX,jm.2 (by dsimp only;omega),rfl⟩
theorem xb (p:Pt) (x y:Int):(-30000≤(mX p x y).x∧(mX p x y).x≤30000)∧-30000≤(mX p x y).y∧(mX p x y).y≤30000:=by
 unfold mX
 dsimp only
 omega
def qV (s:au) (n:aA) (x:iA) (aB:Bool):Int × Int:=if aB=true then oY s n x else l7 s n x
def A7 (x:iA) (i:Nat):Bool:=decide (x.taken.getD (i+2) 0 % 2=1)
def IY (n:aA) (x:iA) (i:Nat):Pt:=mX n.pos (x.taken.getD i 0) (x.taken.getD (i+1) 0)
def C6 (s:au) (n:aA) (x:iA) (i:Nat):av:=⟨IY n x i,A7 x i,jn n (IY n x i) (qV s n x (A7 x i)) (A7 x i)⟩
def zm (x:iA):Nat:=min 8 (x.taken.length / 3)
def C7 (s:au) (n:aA) (x:iA):List av:=(List.range (zm x)).map fun j=>C6 s n x (3 * j)
def gp (s:au) (n:aA) (x:iA) (k:Nat):List av:=(List.range k).map fun j=>C6 s n x (3 * j)
theorem xd (s:au) (n:aA) (x:iA) (k:Nat):(gp s n x k).length=k:=by unfold gp;simp
theorem C8 (s:au) (n:aA) (x:iA) (k:Nat):gp s n x (k+1)=gp s n x k++[C6 s n x (3 * k)]:=by
 unfold gp
 rw [List.range_succ,List.map_append];rfl
theorem xe {s:au} {n:aA} {rs:List av} (ho:jW s n rs) (x:iA) (aB:Bool):qV s n x aB ∈ oa s n aB:=by
 cases aB with
 | true=>exact GA ho x
 | false=>exact Ei ho x
theorem xg {x:iA} {i:Nat} (h:i < x.taken.length):(x.taken.map eU)[((i:Nat):Int).toNat]?=some (eU (x.taken.getD i 0)):=by
 rw [Int.toNat_natCast,List.getElem?_map,List.getElem?_eq_getElem h,List.getD_eq_getElem?_getD,List.getElem?_eq_getElem h];rfl
theorem ua {x:iA} (hx:x.Ok) (i:Nat):0≤x.taken.getD i 0∧x.taken.getD i 0≤65535:=by
 rw [List.getD_eq_getElem?_getD]
 cases h:x.taken[i]? with
 | none=>exact ⟨by decide,by decide⟩
 | some y=>exact hx.t y (List.mem_of_getElem? h)
theorem LD (one:Bool) {s:au} {n:aA} (ho:jW s n []) (x:iA) (hx:x.Ok) (f:Bool):Pu one 47 [.ag (ay s),.ag (aC n),.ag (nZ x f)] (.sl ((C7 s n x).map aj) false):=by
 have c1:=C5 one ho x hx f
 have c2:=Fs one ho x hx f
 have hlen:=hx.len
 unfold maxLen at hlen
 have et:((x.taken.map eU).length:Int)=x.taken.length:=by simp
 have hN:C7 s n x=gp s n x (zm x):=rfl
 rw [hN]
 have hNd:zm x=min 8 (x.taken.length / 3):=rfl
 generalize zm x=N at *
 refine af.body (fn:=Tryz.f47) rfl rfl rfl rfl ?_
 refine aa (mu:=fun _=>false) ?_
 repeat' (first |refine u1 ?_ |refine u2 ?_ |fail)
 refine ax.aK (ah.trans (ah.jw 4) (ah.GI (l:=[(3,.pt (ay s) 0),(4,.pt (aC n) 0),(5,.pt (nZ x f) 0),(7,.bg 0 0 0 0 0),(8,ai (0 * 3:Nat))]) (hp:=[.cells (eV (gp s n x 0)) 4 0]) 1 rfl ⟨bG.refl _,bG.refl _,bG.refl _,bG.jv,bG.refl _,trivial⟩ (Nat.zero_le _) rfl (nO _ _))) ?_
 refine ax.loop (fun y:Nat × Nat × Nat=>y.1≤N∧(y.2.2=y.1∨y.2.2=y.1+1)) (fun y=>⟨aF [(3,.pt (ay s) 0),(4,.pt (aC n) 0),(5,.pt (nZ x f) 0),(7,.bg 0 y.2.1 0 y.1 y.2.2),(8,ai (y.1 * 3:Nat))],[.cells (eV (gp s n x y.1)) 4 y.2.1],aV.none,false,0⟩) (fun y=>N - y.1) ?_ (0,0,0) ⟨Nat.zero_le _,.inl rfl⟩
 rintro ⟨k,v,c⟩ ⟨hk,hcap⟩
 dsimp only at hk hcap
 show ax _ _ _ _ ⟨aF [(3,.pt (ay s) 0),(4,.pt (aC n) 0),(5,.pt (nZ x f) 0),(7,.bg 0 v 0 k c),(8,ai (k * 3:Nat))],[.cells (eV (gp s n x k)) 4 v],aV.none,false,0⟩ _
 have hWl:=xd s n x k
 have hsuc:=C8 s n x k
 have hWf:=iU (gp s n x k)
 rw [hWl] at hWf
 refine aa (mu:=fun t=>Nat.beq t 68) ?_
 by_cases hlt:k < N
 ·have d1:decide (((k * 3:Nat):Int)+2 < ((x.taken.map eU).length:Int))=true:=decide_eq_true (by omega)
  have d2:decide ((k:Int) < 8)=true:=decide_eq_true (by omega)
  have hA:=xg (x:=x) (i:=k * 3) (by omega)
  have hB:=xg (x:=x) (i:=k * 3+1) (by omega)
  have hC:=xg (x:=x) (i:=k * 3+2) (by omega)
  have bA:=ua hx (k * 3)
  have bB:=ua hx (k * 3+1)
  have bC:=ua hx (k * 3+2)
  rw [show ((k * 3+1:Nat):Int)=((k * 3:Nat):Int)+1 by omega] at hB
  rw [show ((k * 3+2:Nat):Int)=((k * 3:Nat):Int)+2 by omega] at hC
  have hr:C6 s n x (3 * k)=⟨mX n.pos (x.taken.getD (k * 3) 0) (x.taken.getD (k * 3+1) 0),decide (x.taken.getD (k * 3+2) 0 % 2=1),jn n (mX n.pos (x.taken.getD (k * 3) 0) (x.taken.getD (k * 3+1) 0)) (qV s n x (decide (x.taken.getD (k * 3+2) 0 % 2=1))) (decide (x.taken.getD (k * 3+2) 0 % 2=1))⟩:=by
   rw [Nat.mul_comm 3 k];rfl
  rw [hr] at hsuc
  generalize x.taken.getD (k * 3) 0=A at *
  generalize x.taken.getD (k * 3+1) 0=B at *
  generalize x.taken.getD (k * 3+2) 0=C at *
  have hnx:=ho.x
  have hny:=ho.y
  have s1:=IW true n.pos A B (by omega) (by omega) bA bB
  have hsb:=xb n.pos A B
  generalize mX n.pos A B=p at *
  have hm:=fun aB=>AQ one n p (qV s n x aB) aB (by omega) (by omega) (ho.LL (xe ho x _))
  generalize gp s n x k=W at *
  cases hh:decide (C % 2=1) with
  | true =>
   have hm':Pu one 93 [.ag (aC n),.ag (oG p),.ag (eP (oY s n x)),BB (decide (C % 2=1))] (BB (jn n p (oY s n x) true)):=by rw [hh];exact hm true
   have hsuc':gp s n x (k+1)=W++[⟨p,decide (C % 2=1),jn n p (oY s n x) true⟩]:=by rw [hh] at hsuc ⊢;exact hsuc
   clear hm hsuc hr
   generalize jn n p (oY s n x) true=m at *
   repeat' (first |((with_reducible show RM.wpOp _ _ (.indexAddr _ _ _) _ _ _);refine RM.Kx rfl rfl rfl hA (by omega) rfl ?_) |((with_reducible show RM.wpOp _ _ (.indexAddr _ _ _) _ _ _);refine RM.Kx rfl rfl rfl hB (by omega) rfl ?_) |((with_reducible show RM.wpOp _ _ (.indexAddr _ _ _) _ _ _);refine RM.Kx rfl rfl rfl hC (by omega) rfl ?_) |(refine IU rfl rfl (by omega) ?_) |(refine KI rfl rfl ?_) |((with_reducible show RM.wpOp _ _ (.call _) _ _ _);refine RM.qJ (cs:=eV W) (n:=k) (els:=[aj ⟨p,decide (C % 2=1),m⟩]) rfl rfl rfl rfl rfl (fun el hel=>by rw [List.mem_singleton.1 hel];rfl) rfl rfl hWf hcap (by simp only [List.length_singleton];omega) (fun v' c' hc'=>?_)) |refine u1 ?_ |refine u2 ?_ |fail)
   refine ⟨(k+1,v',c'),⟨hlt,hc'⟩,(by dsimp only;omega),?_⟩
   show ah _ ⟨aF [(3,.pt (ay s) 0),(4,.pt (aC n) 0),(5,.pt (nZ x f) 0),(7,.bg 0 v' 0 (k+1) c'),(8,ai ((k+1) * 3:Nat))],[.cells (eV (gp s n x (k+1))) 4 v'],aV.none,false,0⟩
   rw [hsuc']
   exact ah.to 1 (by rw [kU];rfl) ⟨rfl,rfl,rfl,rfl,aR (by omega),trivial⟩ (Nat.zero_le _) rfl (nO _ _)
  | false =>
   have hm':Pu one 93 [.ag (aC n),.ag (oG p),.ag (eP (l7 s n x)),BB (decide (C % 2=1))] (BB (jn n p (l7 s n x) false)):=by rw [hh];exact hm false
   have hsuc':gp s n x (k+1)=W++[⟨p,decide (C % 2=1),jn n p (l7 s n x) false⟩]:=by rw [hh] at hsuc ⊢;exact hsuc
   clear hm hsuc hr
   generalize jn n p (l7 s n x) false=m at *
   repeat' (first |((with_reducible show RM.wpOp _ _ (.indexAddr _ _ _) _ _ _);refine RM.Kx rfl rfl rfl hA (by omega) rfl ?_) |((with_reducible show RM.wpOp _ _ (.indexAddr _ _ _) _ _ _);refine RM.Kx rfl rfl rfl hB (by omega) rfl ?_) |((with_reducible show RM.wpOp _ _ (.indexAddr _ _ _) _ _ _);refine RM.Kx rfl rfl rfl hC (by omega) rfl ?_) |(refine IU rfl rfl (by omega) ?_) |(refine KI rfl rfl ?_) |((with_reducible show RM.wpOp _ _ (.call _) _ _ _);refine RM.qJ (cs:=eV W) (n:=k) (els:=[aj ⟨p,decide (C % 2=1),m⟩]) rfl rfl rfl rfl rfl (fun el hel=>by rw [List.mem_singleton.1 hel];rfl) rfl rfl hWf hcap (by simp only [List.length_singleton];omega) (fun v' c' hc'=>?_)) |refine u1 ?_ |refine u2 ?_ |fail)
   refine ⟨(k+1,v',c'),⟨hlt,hc'⟩,(by dsimp only;omega),?_⟩
   show ah _ ⟨aF [(3,.pt (ay s) 0),(4,.pt (aC n) 0),(5,.pt (nZ x f) 0),(7,.bg 0 v' 0 (k+1) c'),(8,ai ((k+1) * 3:Nat))],[.cells (eV (gp s n x (k+1))) 4 v'],aV.none,false,0⟩
   rw [hsuc']
   exact ah.to 1 (by rw [kU];rfl) ⟨rfl,rfl,rfl,rfl,aR (by omega),trivial⟩ (Nat.zero_le _) rfl (nO _ _)
 ·have hkN:k=N:=by omega
  subst hkN
  by_cases h8:k=8
  ·by_cases h3:((k * 3:Nat):Int)+2 < ((x.taken.map eU).length:Int)
   ·have d1:decide (((k * 3:Nat):Int)+2 < ((x.taken.map eU).length:Int))=true:=decide_eq_true h3
    have d2:decide ((k:Int) < 8)=false:=decide_eq_false (by omega)
    repeat' (first |refine u1 ?_ |refine u2 ?_ |fail)
    exact ⟨[_],⟨sV rfl hWl,trivial⟩,rfl⟩
   ·have d1:decide (((k * 3:Nat):Int)+2 < ((x.taken.map eU).length:Int))=false:=decide_eq_false h3
    repeat' (first |refine u1 ?_ |refine u2 ?_ |fail)
    exact ⟨[_],⟨sV rfl hWl,trivial⟩,rfl⟩
  ·have d1:decide (((k * 3:Nat):Int)+2 < ((x.taken.map eU).length:Int))=false:=decide_eq_false (by omega)
   repeat' (first |refine u1 ?_ |refine u2 ?_ |fail)
   exact ⟨[_],⟨sV rfl hWl,trivial⟩,rfl⟩
end Go.Proofs.YtichbhmnhkegiaaGreat
open Go Go.RM
namespace Go.Proofs.YtichbhmnhkegiaaGreat
abbrev C9:Sh:=.int .u16
theorem sZ {l:List AV} (h:TV C9 l):∃ n,(0≤n∧n≤65535)∧l=[ob n]:=by
 obtain ⟨n,hn,rfl⟩:=MD h
 refine ⟨n,?_,rfl⟩
 have h1:IntKind.u16.min=0:=rfl
 have h2:IntKind.u16.max=65535:=rfl
 simp [Lit.wf] at hn
 omega
theorem Np {l:List AV} (h:TV (.int .u8) l):∃ n,(0≤n∧n≤255)∧l=[U8 n]:=by
 obtain ⟨n,hn,rfl⟩:=MD h
 refine ⟨n,?_,rfl⟩
 have h1:IntKind.u8.min=0:=rfl
 have h2:IntKind.u8.max=255:=rfl
 simp [Lit.wf] at hn
 omega
theorem KK {l:List AV} (h:TV (.int .i16) l):∃ n,(-32768≤n∧n≤32767)∧l=[LM n]:=by
 obtain ⟨n,hn,rfl⟩:=MD h
 refine ⟨n,?_,rfl⟩
 have h1:IntKind.i16.min=-32768:=rfl
 have h2:IntKind.i16.max=32767:=rfl
 simp [Lit.wf] at hn
 omega
theorem MJ {l:List AV} (h:TV (.arr 2 (.int .i16)) l):∃ a b,((-32768≤a∧a≤32767)∧-32768≤b∧b≤32767)∧l=[LM a,LM b]:=by
 obtain ⟨els,hl,he,rfl⟩:=Mc h
 match els,hl with
 | [x,y],_ =>
  obtain ⟨a,ha,rfl⟩:=KK (he x (by simp))
  obtain ⟨b,hb,rfl⟩:=KK (he y (by simp))
  exact ⟨a,b,⟨ha,hb⟩,rfl⟩
theorem MK {l:List AV} (h:TV (.arr 3 C9) l):∃ a b c,((0≤a∧a≤65535)∧(0≤b∧b≤65535)∧0≤c∧c≤65535)∧l=[ob a,ob b,ob c]:=by
 obtain ⟨els,hl,he,rfl⟩:=Mc h
 match els,hl with
 | [x,y,z],_ =>
  obtain ⟨a,ha,rfl⟩:=sZ (he x (by simp))
  obtain ⟨b,hb,rfl⟩:=sZ (he y (by simp))
  obtain ⟨c,hc,rfl⟩:=sZ (he z (by simp))
  exact ⟨a,b,c,⟨ha,hb,hc⟩,rfl⟩
theorem ML {l:List AV} (h:TV (.arr 4 C9) l):∃ a b c d,((0≤a∧a≤65535)∧(0≤b∧b≤65535)∧(0≤c∧c≤65535)∧0≤d∧d≤65535)∧l=[ob a,ob b,ob c,ob d]:=by
 obtain ⟨els,hl,he,rfl⟩:=Mc h
 match els,hl with
 | [x,y,z,w],_ =>
  obtain ⟨a,ha,rfl⟩:=sZ (he x (by simp))
  obtain ⟨b,hb,rfl⟩:=sZ (he y (by simp))
  obtain ⟨c,hc,rfl⟩:=sZ (he z (by simp))
  obtain ⟨d,hd,rfl⟩:=sZ (he w (by simp))
  exact ⟨a,b,c,d,⟨ha,hb,hc,hd⟩,rfl⟩
theorem MM {l:List AV} (h:TV (.arr 6 C9) l):∃ a b c d e f,((0≤a∧a≤65535)∧(0≤b∧b≤65535)∧(0≤c∧c≤65535)∧(0≤d∧d≤65535)∧(0≤e∧e≤65535)∧0≤f∧f≤65535)∧l=[ob a,ob b,ob c,ob d,ob e,ob f]:=by
 obtain ⟨els,hl,he,rfl⟩:=Mc h
 match els,hl with
 | [x,y,z,w,u,v],_ =>
  obtain ⟨a,ha,rfl⟩:=sZ (he x (by simp))
  obtain ⟨b,hb,rfl⟩:=sZ (he y (by simp))
  obtain ⟨c,hc,rfl⟩:=sZ (he z (by simp))
  obtain ⟨d,hd,rfl⟩:=sZ (he w (by simp))
  obtain ⟨e,hee,rfl⟩:=sZ (he u (by simp))
  obtain ⟨f,hf,rfl⟩:=sZ (he v (by simp))
  exact ⟨a,b,c,d,e,f,⟨ha,hb,hc,hd,hee,hf⟩,rfl⟩
abbrev IZ:Sh:=.cons (.arr 4 C9) (.cons (.slice C9) .nil)
theorem LF {l:List AV} (h:TV IZ l):∃ x:iA,x.Ok∧l=nZ x false:=by
 obtain ⟨_,_,h1,k1,rfl⟩:=xw h
 obtain ⟨_,_,h2,k2,rfl⟩:=xw k1
 obtain ⟨a,b,c,d,⟨ha,hb,hc,hd⟩,rfl⟩:=ML h1
 obtain ⟨t,ht,ht',rfl⟩:=MF h2
 obtain ⟨t,hn,rfl⟩:=Fo (e:=eU) fun el hel=>sZ (ht' el hel)
 obtain rfl:=KG k2
 exact ⟨⟨a,b,c,d,t⟩,⟨ha,hb,hc,hd,hn,by simpa using ht⟩,rfl⟩
end Go.Proofs.YtichbhmnhkegiaaGreat
open Go Go.RM Go.AirLaw
namespace Go.Proofs.YtichbhmnhkegiaaGreat
set_option maxRecDepth 100000
set_option maxHeartbeats 4000000
theorem xh (s:au) (n:aA) (rs:List av):(fy s n rs).2.1.length≤maxLen:=by
 unfold fy
 split
 ·exact Nat.zero_le _
 ·split
  ·exact Nat.zero_le _
  ·exact Nat.le_trans (pU _ _) (by decide)
theorem I2 (s:au) (h:s.Ok) (n:aA) (rs:List av) (f:Bool) (hr:rs.length≤maxLen):Pu false 4 [.ag (ay s),.ag (aC n),.sl (rs.map aj) f] (BB true):=by
 have c1:=Az false s h
 have c2:=sP false s h
 have c3:=EY false s h n rs f hr
 have c4:=iu false s h n rs f hr
 have c5:=AE false s h n rs f hr
 have c6:=Im false s h n rs f hr
 have c7:=AG false s h n rs f hr
 have c8:=Ir false s h n rs f hr
 have c9:=w4 false (fy s n rs).2.1 (fy s n rs).2.1 false false (xh s n rs) (xh s n rs)
 have aw:=CR
 rw [decide_eq_true rfl] at c9
 generalize jV s=z1 at *
 generalize aD s n rs=z2 at *
 generalize iR s n rs=z3 at *
 generalize fy s n rs=z4 at *
 obtain ⟨z1,z5,e1⟩:=z1
 obtain ⟨z2,e2⟩:=z2
 obtain ⟨⟨z3,z6⟩,⟨z7,z8⟩,e3⟩:=z3
 obtain ⟨⟨z4,z9⟩,l,e4⟩:=z4
 have q1:(!decide (e1=e1))=false:=by simp
 have q2:(!decide (z1=z1))=false:=by simp
 have q3:(!decide (z5=z5))=false:=by simp
 have q4:(!decide (z2=z2))=false:=by simp
 have q5:(!decide (e2=e2))=false:=by simp
 have q6:(!decide (e3=e3))=false:=by simp
 have q7:(!(decide (z3=z3) && decide (z6=z6)))=false:=by simp
 have q8:(!(decide (z7=z7) && decide (z8=z8)))=false:=by simp
 have q9:(decide (z4=z4) && decide (z9=z9))=true:=by simp
 have qa:decide (e4=e4)=true:=by simp
 refine af.body (fn:=Tryz.f4) rfl rfl rfl rfl ?_
 refine aa (mu:=fun _=>false) ?_
 repeat' (first |((with_reducible show cI _ _ _ _ _ _ _ _ _);first|refine MR rfl rfl ?_|refine MC rfl rfl ?_) |refine u1 ?_ |fail)
 exact ⟨[_],⟨Fz.deep rfl,trivial⟩,rfl⟩
end Go.Proofs.YtichbhmnhkegiaaGreat
open Go Go.RM Go.AirLaw
namespace Go.Proofs.YtichbhmnhkegiaaGreat
set_option maxRecDepth 100000
set_option maxHeartbeats 4000000
theorem I3 (s:au) (h:s.Ok) (n:aA) (rs:List av) (f:Bool) (hr:rs.length≤maxLen) (p:Pt) (b:Bool) (far:Int) :
  Pu false 5 [.ag (ay s),.ag (aC n++[.sl (rs.map aj) f]),.ag (oG p++[BB b,ai far])] (BB true):=by
 have c1:=vj false s h n rs f hr p b
 have c2:=It false s h n rs f hr p b
 have c3:=Fh false s h n rs f hr
 have c4:=Ll false s h n rs f hr
 have c5:=A2 false s h n rs f hr far
 have c6:=Iu false s h n rs f hr far
 have aw:=CR
 generalize iy s n rs p b=z1 at *
 generalize qR s n rs=z2 at *
 generalize nJ s n rs far=z3 at *
 obtain ⟨z1,e1⟩:=z1
 obtain ⟨z2,z4,e2⟩:=z2
 obtain ⟨z3,e3⟩:=z3
 have q1:(!decide (e1=e1))=false:=by simp
 have q2:(!decide (z1=z1))=false:=by simp
 have q3:(!decide (z2=z2))=false:=by simp
 have q4:(!decide (z4=z4))=false:=by simp
 have q5:(!decide (e2=e2))=false:=by simp
 have q6:decide (z3=z3)=true:=by simp
 have q7:decide (e3=e3)=true:=by simp
 dsimp only [aC,oG,List.cons_append,List.nil_append]
 refine af.body (fn:=Tryz.f5) rfl rfl rfl rfl ?_
 refine aa (mu:=fun _=>false) ?_
 repeat' (first |refine u1 ?_ |fail)
 exact ⟨[_],⟨Fz.deep rfl,trivial⟩,rfl⟩
end Go.Proofs.YtichbhmnhkegiaaGreat
open Go Go.RM Go.AirLaw
namespace Go.Proofs.YtichbhmnhkegiaaGreat
set_option maxRecDepth 100000
set_option maxHeartbeats 4000000
theorem I4 {s:au} (g m:Int) (h:(jV s).2.2 ≠ 0):uW s g m=(0,(jV s).2.2):=by
 unfold uW
 rw [if_pos h]
theorem Kk {s:au} (g m:Int) (h:(jV s).2.2=0) (hg:0≤g∧g < s.ak.length) (hm:0≤m∧m≤1440):uW s g m=(((s.ak.map eT.fE).getD g.toNat 0 * m+59) / 60,0):=by
 unfold uW
 rw [if_neg (by omega),if_neg,if_neg]
 ·simp [aX];omega
 ·simp [aX];omega
theorem Kl (O x y:Int) :
  (O * (x+y)+59) / 60≤(O * x+59) / 60+(O * y+59) / 60∧(O * x+59) / 60+(O * y+59) / 60≤(O * (x+y)+59) / 60+1∧O * (x+y)≤(O * (x+y)+59) / 60 * 60∧((O * (x+y)+59) / 60 - 1) * 60 < O * (x+y):=by
 rw [Int.mul_add]
 generalize O * x=p
 generalize O * y=q
 omega
theorem LG (s:au) (h:s.Ok) (a b c:Int) (ha:0≤a∧a≤65535) (hb:0≤b∧b≤65535) (hc:0≤c∧c≤65535):Pu false 15 [.ag (ay s),.ag [ob a,ob b,ob c]] (BB true):=by
 have c1:=sP false s h
 have aw:=CR
 by_cases he:(jV s).2.2=0
 ·have hf:=sI he
  have hn:1≤((s.ak.map aL).length:Int)∧((s.ak.map aL).length:Int)≤4:=by have:=hf.len;rw [List.length_map];omega
  have hm:=Int.emod_nonneg a (b:=((s.ak.map aL).length:Int)) (by omega)
  have hm2:=Int.emod_lt_of_pos a (b:=((s.ak.map aL).length:Int)) (by omega)
  have o1:=yQ false s h (a % ((s.ak.map aL).length:Int)) (b % 1441)
  have o2:=yQ false s h (a % ((s.ak.map aL).length:Int)) (c % (1440 - b % 1441+1))
  have o3:=yQ false s h (a % ((s.ak.map aL).length:Int)) (b % 1441+c % (1440 - b % 1441+1))
  have hy:=Int.emod_nonneg c (b:=1440 - b % 1441+1) (by omega)
  have hy2:=Int.emod_lt_of_pos c (b:=1440 - b % 1441+1) (by omega)
  have hlen:((s.ak.map aL).length:Int)=s.ak.length:=by rw [List.length_map]
  rw [Kk _ _ he (by omega) (by omega)] at o1 o2 o3
  have hg:(a % ((s.ak.map aL).length:Int)).toNat < s.ak.length:=by omega
  have hat:(s.ak.map aL)[(a % ((s.ak.map aL).length:Int)).toNat]?=some (aL s.ak[(a % ((s.ak.map aL).length:Int)).toNat]):=bO hg
  have ho:(s.ak.map eT.fE).getD (a % ((s.ak.map aL).length:Int)).toNat 0=s.ak[(a % ((s.ak.map aL).length:Int)).toNat].fE:=by
   rw [List.getD_eq_getElem?_getD,List.getElem?_map,List.getElem?_eq_getElem hg];rfl
  rw [ho] at o1 o2 o3
  have hO:=hf.fE _ (List.getElem_mem hg)
  generalize s.ak[(a % ((s.ak.map aL).length:Int)).toNat]=g at *
  have hs:=Kl g.fE (b % 1441) (c % (1440 - b % 1441+1))
  have b1:0≤g.fE * (b % 1441+c % (1440 - b % 1441+1)):=Int.mul_nonneg hO.1 (by omega)
  have b2:g.fE * (b % 1441+c % (1440 - b % 1441+1))≤1000 * 1440:=Int.mul_le_mul hO.2 (by omega) (by omega) (by omega)
  have d1:=decide_eq_true hs.1
  have d2:=decide_eq_true hs.2.1
  have d3:=decide_eq_true hs.2.2.1
  have d4:=decide_eq_true hs.2.2.2
  have d0:decide ((0:Int)=0)=true:=rfl
  have e0:decide ((jV s).2.2=0)=true:=decide_eq_true he
  have e1:(!decide ((jV s).2.2=0))=false:=by rw [e0];rfl
  generalize (jV s).2.2=z at *
  refine af.body (fn:=Tryz.f15) rfl rfl rfl rfl ?_
  refine aa (mu:=fun _=>false) ?_
  repeat' (first |((with_reducible show RM.wpOp _ _ (.convert _ _ _) _ _ _);first|refine qc rfl ha ?_|refine qc rfl hb ?_|refine qc rfl hc ?_) |refine u1 ?_ |refine u2 ?_ |fail)
  exact ⟨[_],⟨Fz.deep rfl,trivial⟩,rfl⟩
 ·have o1:=yQ false s h 0 0
  rw [I4 _ _ he] at o1
  have e1:(!decide ((jV s).2.2=0))=true:=by rw [decide_eq_false he];rfl
  have e2:decide ((jV s).2.2=(jV s).2.2)=true:=decide_eq_true rfl
  generalize (jV s).2.2=z at *
  refine af.body (fn:=Tryz.f15) rfl rfl rfl rfl ?_
  refine aa (mu:=fun _=>false) ?_
  repeat' (first |refine u1 ?_ |fail)
  exact ⟨[_],⟨Fz.deep rfl,trivial⟩,rfl⟩
end Go.Proofs.YtichbhmnhkegiaaGreat
namespace Go.AirLaw
theorem xj (p:Nat) (x y k:Int):ig p (x * k) (y * k)=ig p x y * k:=by
 unfold ig
 rw [Int.sub_mul,Int.mul_assoc,Int.mul_assoc]
theorem xl {a k:Int} (hk:1≤k):(a * k≤0 ↔ a≤0)∧(0 < a * k ↔ 0 < a):=by
 have h1:0 < a→0 < a * k:=fun h=>Int.mul_pos h (by omega)
 have h2:a≤0→a * k≤0:=fun h=>Int.mul_nonpos_of_nonpos_of_nonneg h (by omega)
 refine ⟨⟨fun h=>?_,h2⟩,⟨fun h=>?_,h1⟩⟩
 ·by_cases ha:0 < a
  ·have:=h1 ha;omega
  ·omega
 ·by_cases ha:0 < a
  ·exact ha
  ·have:=h2 (by omega);omega
theorem A8 {k:Int} (hk:1≤k) (x y:Int):di (x * k) (y * k)=di x y:=by
 have:fM (x * k) (y * k)=fM x y:=by
  funext p
  unfold fM
  rw [xj,xj,decide_eq_decide.2 (xl hk).1,decide_eq_decide.2 (xl hk).2]
 unfold di
 rw [this]
theorem sq_nonneg (x y:Int):0≤sq x y:=by
 have sn:∀ z:Int,0≤z * z:=fun z=>by
  rcases Int.le_total 0 z with h|h
  ·exact Int.mul_nonneg h h
  ·exact Int.mul_nonneg_of_nonpos_of_nonpos h h
 have h1:=sn x
 have h2:=sn y
 unfold sq
 omega
theorem Da {k:Int} (hk:1≤k) (x y:Int):sq x y≤sq (x * k) (y * k):=by
 have h:sq (x * k) (y * k)=sq x y * (k * k):=by
  unfold sq
  rw [Int.add_mul]
  congr 1 <;> simp only [Int.mul_assoc,Int.mul_left_comm]
 have h1:=sq_nonneg x y
 have h2:1≤k * k:=ep (a:=1) (by omega) hk
 rw [h]
 have:=Int.mul_le_mul_of_nonneg_left h2 h1
 omega
theorem GB {k:Int} (hk:1≤k) {x y c r:Int} (hc:0≤c) (hr:0≤r) (h:bz (x * k) (y * k) c r=true):bz x y c r=true :=
 i6 hc (Int.le_refl _) hr (Int.le_refl _) (Da hk x y) h
theorem GC {x y c r c' r':Int} (hc:0≤c) (hr:0≤r) (h1:c≤c') (h2:r≤r') (h:bz x y c r=true):bz x y c' r'=true :=
 i6 hc h1 hr h2 (Int.le_refl _) h
theorem Ej {k:Int} (hk:1≤k) (x y:Int):(x * k=0∧y * k=0) ↔ (x=0∧y=0):=by
 rw [Int.mul_eq_zero,Int.mul_eq_zero]
 omega
theorem Ek {k:Int} (hk:1≤k) {x y l w:Int} (h:aY (x * k) (y * k) l w=true):aY x y l w=true:=by
 unfold aY at *
 rw [Bool.or_eq_true,decide_eq_true_eq,decide_eq_true_eq] at *
 rw [Ej hk,A8 hk] at h
 rcases h with h|h
 ·exact .inl h
 ·exact .inr (Int.le_trans (Da hk x y) h)
theorem El {p w:Int}:dj p w≤16:=by
 unfold dj
 split <;> omega
theorem Em {x y l l' w:Int} (h0:0≤l) (hl:l≤l') (h:aY x y l w=true):aY x y l' w=true:=by
 unfold aY at *
 rw [Bool.or_eq_true,decide_eq_true_eq,decide_eq_true_eq] at *
 rcases h with h|h
 ·exact .inl h
 ·by_cases hz:x=0∧y=0
  ·exact .inl hz
  ·refine .inr (Int.le_trans h ?_)
   have hb:=El (p:=di x y) (w:=w)
   unfold nE
   generalize dj (di x y) w=b at *
   have h1:0≤l * (1400 - 50 * b):=Int.mul_nonneg h0 (by omega)
   have h2:l * (1400 - 50 * b)≤l' * (1400 - 50 * b):=Int.mul_le_mul_of_nonneg_right hl (by omega)
   exact ep (by omega) (by omega)
theorem Db {v b:Int} (hv:-32768≤v∧v≤32767):(-32768≤v.tdiv b∧v.tdiv b≤32768)∧-32768≤v.tdiv b * b∧v.tdiv b * b≤32768:=by
 have h1:(v.tdiv b).natAbs=v.natAbs / b.natAbs:=Int.natAbs_tdiv v b
 have h2:(v.tdiv b * b).natAbs=v.natAbs / b.natAbs * b.natAbs:=by rw [Int.natAbs_mul,h1]
 have h3:=Nat.div_mul_le_self v.natAbs b.natAbs
 have h4:=Nat.div_le_self v.natAbs b.natAbs
 omega
end Go.AirLaw
