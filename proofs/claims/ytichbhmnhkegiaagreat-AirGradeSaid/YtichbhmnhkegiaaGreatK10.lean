/-
  Contracts of the program's functions and of the document's. Lemmas alone; their conditions stand in them.
-/
import Derived.Test.YtichbhmnhkegiaaGreatK3
open Go Go.RM Go.AirLaw
namespace Go.Proofs.YtichbhmnhkegiaaGreat
set_option maxRecDepth 100000
set_option maxHeartbeats 4000000
def fN (p:Pt) (n:Int):Bool:=kN p.x (-n) n && kN p.y (-n) n
theorem sN (one:Bool) (p:Pt) (n:Int) (hn:0≤n∧n≤1000000):Pu one 78 [.ag (oG p),ai n] (BB (fN p n)):=by
 have i1:=vb one p.x (-n) n
 have i2:=vb one p.y (-n) n
 unfold fN
 cases e1:kN p.x (-n) n with
 | true =>
  rw [e1] at i1
  refine af.body (fn:=Tryz.f78) rfl rfl rfl rfl ?_
  refine aa (mu:=fun _=>false) ?_
  repeat' (first |refine af.call i1 rfl rfl ?_ |refine af.call i2 rfl rfl ?_ |refine JI rfl (by omega) ?_ |refine u1 ?_ |refine u2 ?_ |fail)
  exact ⟨[_],⟨Fz.deep rfl,trivial⟩,rfl⟩
 | false =>
  rw [e1] at i1
  refine af.body (fn:=Tryz.f78) rfl rfl rfl rfl ?_
  refine aa (mu:=fun _=>false) ?_
  repeat' (first |refine af.call i1 rfl rfl ?_ |refine JI rfl (by omega) ?_ |refine u1 ?_ |refine u2 ?_ |fail)
  exact ⟨[_],⟨Fz.deep rfl,trivial⟩,rfl⟩
theorem Ia (one:Bool) (p:Pt):Pu one 63 [.ag (oG p)] (BB (fN p 60000)):=by
 have h:=sN one p 60000 (by decide)
 refine af.body (fn:=Tryz.f63) rfl rfl rfl rfl ?_
 refine aa (mu:=fun _=>false) ?_
 repeat' (first |refine u1 ?_ |refine u2 ?_ |refine af.call h rfl rfl ?_ |fail)
 exact ⟨[_],⟨Fz.deep rfl,trivial⟩,rfl⟩
theorem CE (one:Bool) (p:Pt) (hx:-60000≤p.x∧p.x≤60000) (hy:-60000≤p.y∧p.y≤60000):Pu one 111 [.ag (oG p)] (ai (sq p.x p.y)):=by
 have hxx:=kP hx
 have hyy:=kP hy
 unfold sq
 refine af.body (fn:=Tryz.f111) rfl rfl rfl rfl ?_
 refine aa (mu:=fun _=>false) ?_
 repeat' (first |refine u1 ?_ |refine u2 ?_ |fail)
 exact ⟨[_],⟨Fz.deep rfl,trivial⟩,rfl⟩
theorem L5 (n r:Int):n * r * 100 * (n * r * 100)=n * n * r * r * 10000:=by
 have h:n * r * 100 * (n * r * 100)=n * n * r * r * (100 * 100):=by ac_rfl
 exact h
theorem AK (one:Bool) (p:Pt) (c r:Int) (hx:-60000≤p.x∧p.x≤60000) (hy:-60000≤p.y∧p.y≤60000) (hc:0≤c∧c≤5000) (hr:0≤r∧r≤300):Pu one 65 [.ag (oG p),ai c,ai r] (BB (bz p.x p.y c r)):=by
 have hs:=CE one p hx hy
 have hb:0≤sq p.x p.y∧sq p.x p.y≤7200000000:=by
  have hxx:=kP hx
  have hyy:=kP hy
  unfold sq
  omega
 unfold bz kO AirLaw.leftOf
 generalize sq p.x p.y=far at *
 obtain ⟨x,y⟩:=p
 generalize hR:iC 13 (r * 100) (r * 100) c far=R
 refine af.body (fn:=Tryz.f65) rfl rfl rfl rfl ?_
 refine aa (mu:=fun _=>false) ?_
 repeat' (first |refine u1 ?_ |refine u2 ?_ |refine af.call hs rfl rfl ?_ |fail)
 clear hs hx hy
 refine ax.aK (ah.to (l:=[(1,ai (c)),(2,ai r),(7,ai far),(8,ai (1))]) (hp:=[]) 0 rfl ⟨rfl,rfl,rfl,rfl,trivial⟩ (Nat.zero_le _) rfl rfl) ?_
 refine ax.loop (fun z:Nat × Int × Int=>(z.2.2 < 2 ^ z.1∧iC z.1 (z.2.1 * r * 100) (r * 100) z.2.2 far=R)∧(0≤z.2.2∧z.2.2≤5000)∧(1≤z.2.1∧z.1+z.2.1≤14)) (fun z=>⟨aF [(1,ai (z.2.2)),(2,ai r),(7,ai far),(8,ai (z.2.1))],[],aV.none,false,0⟩) (fun z=>z.1) ?_ (13,1,c) ⟨⟨by dsimp only;omega,by rw [←hR,Int.one_mul]⟩,hc,by dsimp only;omega⟩
 rintro ⟨m,n,l⟩ ⟨⟨hl2,hh⟩,hl,hn⟩
 dsimp only at hl2 hh hl hn
 have b1:=fZ (x:=n) (y:=n) (a:=14) (b:=14) (by omega) (by omega)
 have b2:=fZ (x:=n * n) (y:=r) (a:=14 * 14) (b:=300) (by omega) (by omega)
 have b3:=fZ (x:=n * n * r) (y:=r) (a:=14 * 14 * 300) (b:=300) (by omega) (by omega)
 have hnn:=L5 n r
 show ax _ _ _ _ ⟨aF [(1,ai (l)),(2,ai r),(7,ai far),(8,ai (n))],[],aV.none,false,0⟩ _
 refine aa (mu:=fun _=>false) ?_
 by_cases h0:0 < l
 ·have d1:decide ((0:Int) < l)=true:=decide_eq_true h0
  by_cases hwf:n * n * r * r * 10000≤far
  ·have d2:decide (n * n * r * r * 10000≤far)=true:=decide_eq_true hwf
   rw [←hnn] at hwf
   obtain ⟨k,rfl,h1,h2⟩:=Cr hl2 h0 hwf
   rw [h2] at hh
   repeat' (first |refine u1 ?_ |fail)
   refine ⟨(k,n+1,l / 2),⟨⟨h1,by dsimp only;rw [←hh,Int.add_mul,Int.add_mul,Int.one_mul]⟩,by dsimp only;omega,by dsimp only;omega⟩,(by dsimp only;omega),?_⟩
   exact ah.to 0 rfl ⟨rfl,rfl,rfl,rfl,trivial⟩ (Nat.zero_le _) rfl rfl
  ·have d2:decide (n * n * r * r * 10000≤far)=false:=decide_eq_false hwf
   have hs:=nC (n:=m) (w:=n * r * 100) (len:=r * 100) (l:=l) (far:=far) (fun h=>hwf (by rw [←hnn];exact h.2))
   rw [hs] at hh
   subst hh
   repeat' (first |refine u1 ?_ |fail)
   exact ⟨[_],⟨Fz.deep rfl,trivial⟩,rfl⟩
 ·have d1:decide ((0:Int) < l)=false:=decide_eq_false h0
  have hs:=nC (n:=m) (w:=n * r * 100) (len:=r * 100) (l:=l) (far:=far) (fun h=>h0 h.1)
  rw [hs] at hh
  subst hh
  repeat' (first |refine u1 ?_ |fail)
  exact ⟨[_],⟨Fz.deep rfl,trivial⟩,rfl⟩
theorem CF (p:Pt):fN p 60000=!aX (-60000) 60000 [p.x,p.y]:=by
 rw [F8,cQ]
 unfold fN
 cases kN p.x (-60000) 60000 <;> simp
theorem JR (one:Bool) (v:Pt) (c r:Int):Pu one 18 [.ag (oG v),ai c,ai r] (.tp [BB (oJ v c r).1,ai (oJ v c r).2]):=by
 have o1:=Ia one v
 have o2:=jy one c 1 5000
 have o3:=jy one r 1 300
 rw [CF] at o1
 have e2':=cQ c 1 5000
 have e3':=cQ r 1 300
 unfold oJ vg
 cases e1:aX (-60000) 60000 [v.x,v.y] with
 | true =>
  rw [e1] at o1
  refine af.body (fn:=Tryz.f18) rfl rfl rfl rfl ?_
  refine aa (mu:=fun _=>false) ?_
  repeat' (first |refine u1 ?_ |refine u2 ?_ |refine af.call o1 rfl rfl ?_ |fail)
  exact ⟨[_,_],⟨Fz.deep rfl,Fz.deep rfl,trivial⟩,rfl⟩
 | false =>
  rw [e1] at o1
  cases e2:kN c 1 5000 with
  | false =>
   rw [e2] at o2 e2'
   rw [e2']
   refine af.body (fn:=Tryz.f18) rfl rfl rfl rfl ?_
   refine aa (mu:=fun _=>false) ?_
   repeat' (first |refine u1 ?_ |refine u2 ?_ |refine af.call o1 rfl rfl ?_ |refine af.call o2 rfl rfl ?_ |fail)
   exact ⟨[_,_],⟨Fz.deep rfl,Fz.deep rfl,trivial⟩,rfl⟩
  | true =>
   rw [e2] at o2 e2'
   rw [e2']
   cases e3:kN r 1 300 with
   | false =>
    rw [e3] at o3 e3'
    rw [e3']
    refine af.body (fn:=Tryz.f18) rfl rfl rfl rfl ?_
    refine aa (mu:=fun _=>false) ?_
    repeat' (first |refine u1 ?_ |refine u2 ?_ |refine af.call o1 rfl rfl ?_ |refine af.call o2 rfl rfl ?_ |refine af.call o3 rfl rfl ?_ |fail)
    exact ⟨[_,_],⟨Fz.deep rfl,Fz.deep rfl,trivial⟩,rfl⟩
   | true =>
    rw [e3] at o3 e3'
    rw [e3']
    rw [aZ] at e1
    rw [fF] at e2 e3
    have a1:=e1 v.x (by simp)
    have a2:=e1 v.y (by simp)
    have hm:=AK one v c r a1 a2 (by omega) (by omega)
    refine af.body (fn:=Tryz.f18) rfl rfl rfl rfl ?_
    refine aa (mu:=fun _=>false) ?_
    repeat' (first |refine u1 ?_ |refine u2 ?_ |refine af.call o1 rfl rfl ?_ |refine af.call o2 rfl rfl ?_ |refine af.call o3 rfl rfl ?_ |refine af.call hm rfl rfl ?_ |fail)
    exact ⟨[_,_],⟨Fz.deep rfl,Fz.deep rfl,trivial⟩,rfl⟩
end Go.Proofs.YtichbhmnhkegiaaGreat
open Go Go.RM Go.AirLaw
namespace Go.Proofs.YtichbhmnhkegiaaGreat
set_option maxRecDepth 100000
set_option maxHeartbeats 4000000
theorem Ib (one:Bool) (x y:Int) (hx:-60000≤x∧x≤60000):Pu one 159 [.ag [ai x,ai y]] (.ag [ai y,ai (-x)]):=by
 refine af.body (fn:=Tryz.f159) rfl rfl rfl rfl ?_
 refine aa (mu:=fun _=>false) ?_
 repeat' (first |refine JI rfl (by omega) ?_ |refine u1 ?_ |refine u2 ?_ |fail)
 exact ⟨[_],⟨Fz.deep rfl,trivial⟩,rfl⟩
theorem yW (one:Bool) (m:Nat) (hm:m < 8):∀ k,k≤3→Pu one 142 [ai ((8 * k+m:Nat):Int)] (.ag [ai (tn k (cF.getD m (0,0))).1,ai (tn k (cF.getD m (0,0))).2])
 | 0,_=>by
  have d:decide ((8:Int)≤((8 * 0+m:Nat):Int))=false:=decide_eq_false (by omega)
  have hat:([[ai 0,ai 1000],[ai 195,ai 981],[ai 383,ai 924],[ai 556,ai 831],[ai 707,ai 707],[ai 831,ai 556],[ai 924,ai 383],[ai 981,ai 195]]:List (List AV))[((8 * 0+m:Nat):Int).toNat]?=some [ai (cF.getD m (0,0)).1,ai (cF.getD m (0,0)).2]:=by
   match m,hm with
   | 0,_|1,_|2,_|3,_|4,_|5,_|6,_|7,_=>rfl
  refine af.body (fn:=Tryz.f142) rfl rfl rfl rfl ?_
  refine aa (mu:=fun _=>false) ?_
  repeat' (first |refine u1 ?_ |refine u2 ?_ |refine ⟨_,⟨by omega,hat⟩,rfl,?_⟩ |fail)
  exact ⟨[_],⟨Fz.deep rfl,trivial⟩,rfl⟩
 | k+1,hk=>by
  have ih:=yW one m hm k (by omega)
  have d:decide ((8:Int)≤((8 * (k+1)+m:Nat):Int))=true:=decide_eq_true (by omega)
  rw [show ((8 * k+m:Nat):Int)=((8 * (k+1)+m:Nat):Int) - 8 by omega] at ih
  have b:=Aw (oI hm) k
  show Pu one 142 _ (.ag [ai (tn k (cF.getD m (0,0))).2,ai (-(tn k (cF.getD m (0,0))).1)])
  generalize tn k (cF.getD m (0,0))=v at *
  have ht:=Ib one v.1 v.2 (by omega)
  refine af.body (fn:=Tryz.f142) rfl rfl rfl rfl ?_
  refine aa (mu:=fun _=>false) ?_
  repeat' (first |refine u1 ?_ |refine u2 ?_ |refine af.call ih rfl rfl ?_ |refine af.call ht rfl rfl ?_ |fail)
  exact ⟨[_],⟨Fz.deep rfl,trivial⟩,rfl⟩
theorem yX (one:Bool) (p:Nat) (hp:p < 32):Pu one 142 [ai (p:Nat)] (.ag [ai (jN p).1,ai (jN p).2]):=by
 have h:=yW one (p % 8) (Nat.mod_lt _ (by decide)) (p / 8) (by omega)
 rw [Nat.div_add_mod,←DW hp] at h
 exact h
theorem Ic (one:Bool) (a b x y:Int) (ha:-1000≤a∧a≤1000) (hb:-1000≤b∧b≤1000) (hx:-60000≤x∧x≤60000) (hy:-60000≤y∧y≤60000):Pu one 141 [.ag [ai a,ai b],.ag [ai x,ai y]] (ai (a * y - b * x)):=by
 have m1:=fZ ha hy
 have m2:=fZ hb hx
 refine af.body (fn:=Tryz.f141) rfl rfl rfl rfl ?_
 refine aa (mu:=fun _=>false) ?_
 repeat' (first |refine u1 ?_ |refine u2 ?_ |fail)
 exact ⟨[_],⟨Fz.deep rfl,trivial⟩,rfl⟩
theorem Ie (one:Bool) (x y:Int) (hx:-60000≤x∧x≤60000) (hy:-60000≤y∧y≤60000) (h0:¬ (x=0∧y=0)):Pu one 114 [.ag [ai x,ai y]] (ai (di x y:Nat)):=by
 obtain ⟨hs1,hs2,hs3⟩:=nD h0
 generalize di x y=q at *
 refine af.body (fn:=Tryz.f114) rfl rfl rfl rfl ?_
 refine aa (mu:=fun _=>false) ?_
 repeat' (first |refine u1 ?_ |refine u2 ?_ |fail)
 refine ax.aK (ah.to (l:=[(1,.pt [ai x,ai y] 0),(3,ai (0:Nat))]) (hp:=[]) 0 rfl ⟨rfl,rfl,trivial⟩ (Nat.zero_le _) rfl rfl) ?_
 refine ax.loop (fun p:Nat=>p≤q) (fun p=>⟨aF [(1,.pt [ai x,ai y] 0),(3,ai (p:Nat))],[],aV.none,false,0⟩) (fun p=>q - p) ?_ 0 (Nat.zero_le _)
 intro p hp
 have hp32:p < 32:=by omega
 have hv1:=yX true p hp32
 have hv2:=yX true ((p+1) % 32) (Nat.mod_lt _ (by decide))
 rw [show (((p+1) % 32:Nat):Int)=((p:Int)+1) % 32 by omega] at hv2
 have b1:=ve hp32
 have b2:=ve (p:=(p+1) % 32) (Nat.mod_lt _ (by decide))
 have hin:fM x y p=(decide ((jN p).1 * y - (jN p).2 * x≤0) && decide (0 < (jN ((p+1) % 32)).1 * y - (jN ((p+1) % 32)).2 * x)):=rfl
 generalize jN p=c at *
 generalize jN ((p+1) % 32)=d at *
 have l1:=Ic true c.1 c.2 x y b1.1 b1.2 hx hy
 have l2:=Ic true d.1 d.2 x y b2.1 b2.2 hx hy
 refine aa (mu:=fun _=>false) ?_
 by_cases hpq:p < q
 ·have hf:=hs3 p hpq
  rw [hin,Bool.and_eq_false_iff] at hf
  by_cases hc:0 < c.1 * y - c.2 * x
  ·have d3:decide (0 < c.1 * y - c.2 * x)=true:=decide_eq_true hc
   repeat' (first |refine ⟨_,_,.inl ⟨rfl,rfl⟩,hv1,?_⟩ |refine ⟨_,_,.inl ⟨rfl,rfl⟩,l1,?_⟩ |refine u1 ?_ |refine u2 ?_ |refine ⟨fun h=>absurd (d3.symm.trans h) (by decide),fun _=>?_⟩ |refine ⟨fun _=>?_,fun h=>absurd h (by decide)⟩ |fail)
   exact ⟨p+1,hpq,(by dsimp only;omega),ah.to 0 rfl ⟨rfl,aR (by simp),trivial⟩ (Nat.zero_le _) rfl rfl⟩
  ·have d3:decide (0 < c.1 * y - c.2 * x)=false:=decide_eq_false hc
   have d4:decide (d.1 * y - d.2 * x≤0)=true:=by
    rcases hf with hf|hf
    ·rw [decide_eq_false_iff_not] at hf;omega
    ·rw [decide_eq_false_iff_not] at hf;exact decide_eq_true (by omega)
   repeat' (first |refine ⟨_,_,.inl ⟨rfl,rfl⟩,hv1,?_⟩ |refine ⟨_,hv2,?_⟩ |refine ⟨_,_,.inl ⟨rfl,rfl⟩,l1,?_⟩ |refine ⟨_,l2,?_⟩ |refine u1 ?_ |refine u2 ?_ |refine ⟨fun _=>?_,fun h=>absurd (d3.symm.trans h) (by decide)⟩ |refine ⟨fun _=>?_,fun h=>absurd (d4.symm.trans h) (by decide)⟩ |fail)
   exact ⟨p+1,hpq,(by dsimp only;omega),ah.to 0 rfl ⟨rfl,aR (by simp),trivial⟩ (Nat.zero_le _) rfl rfl⟩
 ·have hpe:p=q:=by omega
  subst hpe
  rw [hin,Bool.and_eq_true,decide_eq_true_eq,decide_eq_true_eq] at hs2
  have d3:decide (0 < c.1 * y - c.2 * x)=false:=decide_eq_false (by omega)
  have d4:decide (d.1 * y - d.2 * x≤0)=false:=decide_eq_false (by omega)
  repeat' (first |refine ⟨_,_,.inl ⟨rfl,rfl⟩,hv1,?_⟩ |refine ⟨_,hv2,?_⟩ |refine ⟨_,_,.inl ⟨rfl,rfl⟩,l1,?_⟩ |refine ⟨_,l2,?_⟩ |refine u1 ?_ |refine u2 ?_ |refine ⟨fun _=>?_,fun h=>absurd (d3.symm.trans h) (by decide)⟩ |refine ⟨fun h=>absurd (d4.symm.trans h) (by decide),fun _=>?_⟩ |fail)
  exact ⟨[_],⟨Fz.deep rfl,trivial⟩,rfl⟩
theorem Gk (one:Bool) (a b:Nat) (ha:a < 32) (hb:b < 32):Pu one 113 [ai (a:Nat),ai (b:Nat)] (ai (dj (a:Nat) (b:Nat))):=by
 obtain ⟨h1,h2,h3,h4⟩:=Cs ha hb
 rw [h1]
 generalize Au a b=q at *
 refine af.body (fn:=Tryz.f113) rfl rfl rfl rfl ?_
 refine aa (mu:=fun _=>false) ?_
 repeat' (first |refine u1 ?_ |fail)
 refine ax.aK (ah.to (l:=[(0,ai (a:Nat)),(1,ai (b:Nat)),(5,ai (0:Nat))]) (hp:=[]) 0 rfl ⟨rfl,rfl,rfl,trivial⟩ (Nat.zero_le _) rfl rfl) ?_
 refine ax.loop (fun n:Nat=>n≤q) (fun n=>⟨aF [(0,ai (a:Nat)),(1,ai (b:Nat)),(5,ai (n:Nat))],[],aV.none,false,0⟩) (fun n=>q - n) ?_ 0 (Nat.zero_le _)
 intro n hn
 refine aa (mu:=fun _=>false) ?_
 by_cases hnq:n < q
 ·have hf:=h3 n hnq
  unfold DV at hf
  rw [Bool.or_eq_false_iff,decide_eq_false_iff_not,decide_eq_false_iff_not] at hf
  have d1:(!decide (((a:Int)+(n:Nat)) % 32=(b:Nat)))=true:=by rw [decide_eq_false (by omega)];rfl
  have d2:(!decide (((b:Int)+(n:Nat)) % 32=(a:Nat)))=true:=by rw [decide_eq_false (by omega)];rfl
  repeat' (first |refine u1 ?_ |fail)
  exact ⟨n+1,hnq,(by dsimp only;omega),ah.to 0 rfl ⟨rfl,rfl,aR (by simp),trivial⟩ (Nat.zero_le _) rfl rfl⟩
 ·have hnq:n=q:=by omega
  subst hnq
  unfold DV at h2
  rw [Bool.or_eq_true,decide_eq_true_eq,decide_eq_true_eq] at h2
  by_cases h5:((a:Int)+(n:Nat)) % 32=(b:Nat)
  ·have d1:(!decide (((a:Int)+(n:Nat)) % 32=(b:Nat)))=false:=by rw [decide_eq_true h5];rfl
   repeat' (first |refine u1 ?_ |fail)
   exact ⟨[_],⟨Fz.deep rfl,trivial⟩,rfl⟩
  ·have d1:(!decide (((a:Int)+(n:Nat)) % 32=(b:Nat)))=true:=by rw [decide_eq_false h5];rfl
   have d2:(!decide (((b:Int)+(n:Nat)) % 32=(a:Nat)))=false:=by rw [decide_eq_true (by omega)];rfl
   repeat' (first |refine u1 ?_ |fail)
   exact ⟨[_],⟨Fz.deep rfl,trivial⟩,rfl⟩
theorem Fc (one:Bool) (p:Pt) (aN w:Int) (hl:0≤aN∧aN≤300) (hw:0≤w∧w≤31) (hx:-60000≤p.x∧p.x≤60000) (hy:-60000≤p.y∧p.y≤60000):Pu one 67 [.ag (oG p),ai aN,ai w] (BB (aY p.x p.y aN w)):=by
 have hsq:=CE one p hx hy
 by_cases h0:p.x=0∧p.y=0
 ·have d1:(decide (p.x=0) && decide (p.y=0))=true:=by rw [decide_eq_true h0.1,decide_eq_true h0.2];rfl
  have hv:aY p.x p.y aN w=true:=by unfold aY;rw [decide_eq_true h0];rfl
  rw [hv]
  refine af.body (fn:=Tryz.f67) rfl rfl rfl rfl ?_
  refine aa (mu:=fun _=>false) ?_
  repeat' (first |refine Mi rfl rfl ?_ |refine u1 ?_ |refine u2 ?_ |fail)
  exact ⟨[_],⟨Fz.deep rfl,trivial⟩,rfl⟩
 ·have d1:(decide (p.x=0) && decide (p.y=0))=false:=by
   rw [Bool.and_eq_false_iff]
   by_cases hx0:p.x=0
   ·exact .inr (decide_eq_false fun hy0=>h0 ⟨hx0,hy0⟩)
   ·exact .inl (decide_eq_false hx0)
  have hto:=Ie one p.x p.y hx hy h0
  have hs1:=(nD h0).1
  have hv:aY p.x p.y aN w=decide (sq p.x p.y≤nE aN (di p.x p.y) w * nE aN (di p.x p.y) w):=by
   unfold aY
   rw [decide_eq_false h0,Bool.false_or]
  rw [hv]
  generalize di p.x p.y=q at *
  generalize sq p.x p.y=far at *
  obtain ⟨v,rfl⟩:∃ v:Nat,w=v:=⟨w.toNat,by omega⟩
  have hb:=Gk one q v hs1 (by omega)
  have hB:=(Cs hs1 (b:=v) (by omega))
  have hB16:0≤dj (q:Int) (v:Int)∧dj (q:Int) (v:Int)≤16:=by omega
  unfold nE
  clear hB
  generalize dj (q:Int) (v:Int)=B at *
  have mB:=fZ (x:=aN) (y:=1400 - 50 * B) (a:=300) (b:=1400) (by omega) (by omega)
  have pB:0≤aN * (1400 - 50 * B):=Int.mul_nonneg hl.1 (by omega)
  have mR:=kP (x:=aN * (1400 - 50 * B) / 10) (b:=42000) (by omega)
  refine af.body (fn:=Tryz.f67) rfl rfl rfl rfl ?_
  refine aa (mu:=fun _=>false) ?_
  repeat' (first |refine Mi rfl rfl ?_ |refine u1 ?_ |refine u2 ?_ |refine af.call hsq rfl rfl ?_ |refine af.call hto rfl rfl ?_ |refine af.call hb rfl rfl ?_ |fail)
  exact ⟨[_],⟨Fz.deep rfl,trivial⟩,rfl⟩
theorem Ig (one:Bool) (v:Pt) (c r:Int):Pu one 20 [.ag (oG v),ai c,ai r] (.tp [BB (lZ v c r).1,ai (lZ v c r).2]):=by
 have o1:=Ia one v
 have o2:=jy one c 1 200
 have o3:=jy one r 0 31
 rw [CF] at o1
 have e2':=cQ c 1 200
 have e3':=cQ r 0 31
 unfold lZ sH
 cases e1:aX (-60000) 60000 [v.x,v.y] with
 | true =>
  rw [e1] at o1
  refine af.body (fn:=Tryz.f20) rfl rfl rfl rfl ?_
  refine aa (mu:=fun _=>false) ?_
  repeat' (first |refine u1 ?_ |refine u2 ?_ |refine af.call o1 rfl rfl ?_ |fail)
  exact ⟨[_,_],⟨Fz.deep rfl,Fz.deep rfl,trivial⟩,rfl⟩
 | false =>
  rw [e1] at o1
  cases e2:kN c 1 200 with
  | false =>
   rw [e2] at o2 e2'
   rw [e2']
   refine af.body (fn:=Tryz.f20) rfl rfl rfl rfl ?_
   refine aa (mu:=fun _=>false) ?_
   repeat' (first |refine u1 ?_ |refine u2 ?_ |refine af.call o1 rfl rfl ?_ |refine af.call o2 rfl rfl ?_ |fail)
   exact ⟨[_,_],⟨Fz.deep rfl,Fz.deep rfl,trivial⟩,rfl⟩
  | true =>
   rw [e2] at o2 e2'
   rw [e2']
   cases e3:kN r 0 31 with
   | false =>
    rw [e3] at o3 e3'
    rw [e3']
    refine af.body (fn:=Tryz.f20) rfl rfl rfl rfl ?_
    refine aa (mu:=fun _=>false) ?_
    repeat' (first |refine u1 ?_ |refine u2 ?_ |refine af.call o1 rfl rfl ?_ |refine af.call o2 rfl rfl ?_ |refine af.call o3 rfl rfl ?_ |fail)
    exact ⟨[_,_],⟨Fz.deep rfl,Fz.deep rfl,trivial⟩,rfl⟩
   | true =>
    rw [e3] at o3 e3'
    rw [e3']
    rw [aZ] at e1
    rw [fF] at e2 e3
    have a1:=e1 v.x (by simp)
    have a2:=e1 v.y (by simp)
    have hm:=Fc one v c r (by omega) (by omega) a1 a2
    refine af.body (fn:=Tryz.f20) rfl rfl rfl rfl ?_
    refine aa (mu:=fun _=>false) ?_
    repeat' (first |refine u1 ?_ |refine u2 ?_ |refine af.call o1 rfl rfl ?_ |refine af.call o2 rfl rfl ?_ |refine af.call o3 rfl rfl ?_ |refine af.call hm rfl rfl ?_ |fail)
    exact ⟨[_,_],⟨Fz.deep rfl,Fz.deep rfl,trivial⟩,rfl⟩
end Go.Proofs.YtichbhmnhkegiaaGreat
