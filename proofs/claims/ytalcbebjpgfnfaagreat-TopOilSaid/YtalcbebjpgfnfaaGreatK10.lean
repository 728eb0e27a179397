/-
  Contracts of the program's functions and of the document's. Lemmas alone; their conditions stand in them.
-/
import Derived.Test.YtalcbebjpgfnfaaGreatA2
import Derived.Test.YtalcbebjpgfnfaaGreatA3
import Derived.Test.YtalcbebjpgfnfaaGreatK9
open Go Go.RM
namespace Go.Proofs.YtalcbebjpgfnfaaGreat.St
set_option maxRecDepth 100000
theorem oe (au:List Int) (k:Kind) (row:List Int) (t:aE) (down:Int):∀ i:Nat,bD au k row t down i=au.length∨(0≤bD au k row t down i∧bD au k row t down i < i)
 | 0=>.inl rfl
 | i+1=>by
  have ih:=oe au k row t down i
  unfold bD
  split
  ·by_cases h:bD au k row t down i≤i
   ·rw [Int.min_eq_left h]
    omega
   ·rw [Int.min_eq_right (by omega)]
    omega
  ·omega
theorem Iw (one:Bool) (s:aB) (hg:Good s) (i:Nat) (hi:i < s.kinds.length) (t:aE) (down:Int) (h:eK s.au s.kinds[i] (ak i s.aj) t) :
  Pu one 13 [.ag (aO s),ah i,.ag (aV t),ah down] (.tp [.sl ((List.range (s.au.length+1)).map fun j=>eI (aW s.au s.kinds[i] (ak i s.aj) t down j)) false,ah (bD s.au s.kinds[i] (ak i s.aj) t down s.au.length)]):=by
 have em:((s.au.map eI).length:Int)=s.au.length:=by simp
 have hday:=fun d hd hv hh=>MW true s hg i hi t down h d hd hv hh
 have hhave:=h.zE down
 have h8:=fo hg.sizes
 generalize s.kinds[i]=k at h hday hhave ⊢
 generalize ak i s.aj=row at h hday hhave ⊢
 refine af.body (fn:=Tryz.f13) rfl rfl rfl rfl ?_
 refine aa (mu:=fun t=>Nat.beq t 19 || Nat.beq t 59) ?_
 repeat' (first |with_reducible (first|refine bg ?_|refine aT ?_|refine aU ?_) |refine u2 ?_ |fail)
 refine az.aK (ai.to (l:=[(1,ah i),(3,ah down),(4,.pt (aO s) 0),(6,.pt (aV t) 0),(10,.bX 0 0 0 1 1),(11,ah s.au.length),(12,ah ((0:Nat):Int))]) (hp:=[vu s.au k row t down 0]) 1 rfl ⟨rfl,rfl,rfl,rfl,rfl,aH em,rfl,trivial⟩ (Nat.zero_le _) rfl rfl) ?_
 refine az.loop (fun j:Nat=>j≤s.au.length) (fun j=>⟨aX [(1,ah i),(3,ah down),(4,.pt (aO s) 0),(6,.pt (aV t) 0),(10,.bX 0 j 0 (j+1) (A5 j)),(11,ah (bD s.au k row t down j)),(12,ah (j:Int))],[vu s.au k row t down j],bN.none,false,0⟩) (fun j=>s.au.length - j) ?_ 0 (Nat.zero_le _)
 intro j hj
 refine aa (mu:=fun t=>Nat.beq t 19 || Nat.beq t 59) ?_
 repeat' (first |with_reducible (first|refine bg ?_|refine aT ?_) |refine u2 ?_ |fail)
 refine ⟨fun h2=>?_,fun h2=>?_⟩
 ·have hlt:j < s.au.length:=by simpa only [em,decide_eq_true_eq,Int.ofNat_lt] using h2
  have b4:=hhave j hj
  have hdj:=hday j hlt _ b4
  have hhv:aW s.au k row t down (j+1)=max 0 (iT s.au k row t down j (aW s.au k row t down j)):=rfl
  have hsh:bD s.au k row t down (j+1)=if iT s.au k row t down j (aW s.au k row t down j) < 0 then min (bD s.au k row t down j) j else bD s.au k row t down j:=rfl
  have hor:=oe s.au k row t down j
  have hg:((List.range (j+1)).map fun i=>ah (aW s.au k row t down i))[0+(j:Int).toNat * 1]?=some (ah (aW s.au k row t down j)):=by
   rw [show 0+(j:Int).toNat * 1=j from by omega,List.getElem?_map,List.getElem?_range (by omega)]
   rfl
  generalize aW s.au k row t down j=hv at hdj hhv hsh hg b4
  repeat' (first |with_reducible (first|refine bO ?_|refine bg ?_|refine fK ?_|refine w4 ?_|refine aU ?_) |(refine ⟨_,rfl,?_⟩) |(refine EE rfl rfl ?_) |(refine And.intro (Nat.le_of_ble_eq_true rfl) ?_) |(refine And.intro (by omega) ?_) |(refine ⟨_,_,rfl,_,hg,?_⟩) |fail)
  refine ⟨_,hdj,?_⟩
  generalize iT s.au k row t down j hv=raw at hhv hsh ⊢
  repeat' (first |with_reducible (first|refine bO ?_|refine bg ?_|refine aT ?_|refine aU ?_) |(refine ⟨_,rfl,?_⟩) |(refine bC (by assumption) ?_) |(refine bS rfl ?_) |(refine bS (by assumption) ?_) |(refine ⟨_,_,rfl,by decide,?_⟩) |(refine ⟨rfl,rfl,rfl,?_⟩) |(refine And.intro (by kernel_rfl) ?_) |(refine ⟨fun h=>?_,fun h=>?_⟩) |fail)
  all_goals refine ⟨[eI _],⟨fun el hel=>by rw [List.mem_singleton.1 hel];rfl,rfl⟩,rfl,_,rfl,by simp,jd j,And.intro (by dsimp only [List.length];have:=h8.1;omega) (by dsimp only [List.length];have:=h8.1;omega),fun hn=>absurd hn (by simp),fun _=>?_⟩
  ·repeat' (first |refine u2 ?_ |fail)
   have h1:raw < 0:=by simpa using ‹decide (raw < 0)=true›
   have h2:bD s.au k row t down j=s.au.length:=by simp_all
   rw [if_pos h1,h2,Int.min_eq_right (by omega)] at hsh
   refine ⟨j+1,hlt,(by dsimp only;omega),ai.to 1 (ew hhv) ⟨rfl,rfl,rfl,rfl,rfl,aH hsh.symm,aH (by simp),trivial⟩ (Nat.zero_le _) rfl (eH _ _ _ _ _ _)⟩
  ·repeat' (first |refine u2 ?_ |fail)
   have h1:raw < 0:=by simpa using ‹decide (raw < 0)=true›
   have h2:¬ bD s.au k row t down j=s.au.length:=by simp_all
   rw [if_pos h1,Int.min_eq_left (by omega)] at hsh
   refine ⟨j+1,hlt,(by dsimp only;omega),ai.to 1 (ew hhv) ⟨rfl,rfl,rfl,rfl,rfl,aH hsh.symm,aH (by simp),trivial⟩ (Nat.zero_le _) rfl (eH _ _ _ _ _ _)⟩
  ·repeat' (first |refine u2 ?_ |fail)
   have h1:¬ raw < 0:=by simpa using h
   rw [if_neg h1] at hsh
   refine ⟨j+1,hlt,(by dsimp only;omega),ai.to 1 (ew hhv) ⟨rfl,rfl,rfl,rfl,rfl,aH hsh.symm,aH (by simp),trivial⟩ (Nat.zero_le _) rfl (eH _ _ _ _ _ _)⟩
 ·have hi:j=s.au.length:=by rw [em,decide_eq_false_iff_not] at h2;omega
  subst hi
  skip
  exact ⟨[_,_],⟨D4 _ _ _ _ _ _,Fz.deep rfl,trivial⟩,rfl⟩
end Go.Proofs.YtalcbebjpgfnfaaGreat.St
open Go Go.RM
namespace Go.Proofs.YtalcbebjpgfnfaaGreat.St
set_option maxRecDepth 100000
set_option maxHeartbeats 4000000
theorem Kj (one:Bool):Pu one 7 [] (BB true):=af.closed (fun _=>rfl) rfl
end Go.Proofs.YtalcbebjpgfnfaaGreat.St
open Go Go.RM Go.AirLaw
namespace Go.Proofs.YtalcbebjpgfnfaaGreat
set_option maxRecDepth 100000
set_option maxHeartbeats 4000000
theorem OQ {n:Int} (h:0≤n∧n≤9223372036854775807):cE (aA TT.P (convert 3 180 (.int .i64 n)))=some (.int .u64 n,.none):=by
 have:cE (aA TT.P (convert 3 180 (.int .i64 n)))=some (.int .u64 (IntKind.u64.wrap n),.none):=rfl
 rw [this,IntWalk.u64_in n (by omega)]
theorem OR {n:Int} (h:0≤n∧n≤9223372036854775807):cE (aA TT.P (convert 180 3 (.int .u64 n)))=some (.int .i64 n,.none):=by
 have:cE (aA TT.P (convert 180 3 (.int .u64 n)))=some (.int .i64 (IntKind.i64.wrap n),.none):=rfl
 rw [this,IntWalk.i64_in n (by omega)]
def bs (p:Nat→Bool) (i j:Nat):Nat :=
 if i < j then (if p ((i+j) / 2) then bs p i ((i+j) / 2) else bs p ((i+j) / 2+1) j) else i
termination_by j - i
decreasing_by all_goals omega
theorem pq (p:Nat→Bool) (i j:Nat) (h:i≤j):i≤bs p i j∧bs p i j≤j:=by
 rw [bs]
 split
 ·split
  ·have:=pq p i ((i+j) / 2) (by omega);omega
  ·have:=pq p ((i+j) / 2+1) j (by omega);omega
 ·omega
termination_by j - i
decreasing_by all_goals omega
theorem nF (p:Nat→Bool) (i j:Nat) (h:i≤j) (hm:∀ a b,i≤a→a≤b→b < j→p a=true→p b=true):(∀ a,i≤a→a < bs p i j→p a=false)∧(bs p i j < j→p (bs p i j)=true):=by
 rw [bs]
 split
 ·rename_i hlt
  split
  ·rename_i hp
   have hh:=pq p i ((i+j) / 2) (by omega)
   have:=nF p i ((i+j) / 2) (by omega) fun a b h1 h2 h3=>hm a b h1 h2 (by omega)
   refine ⟨this.1,fun hl=>?_⟩
   by_cases he:bs p i ((i+j) / 2)=(i+j) / 2
   ·rw [he];exact hp
   ·exact this.2 (by omega)
  ·rename_i hp
   have:=nF p ((i+j) / 2+1) j (by omega) fun a b h1 h2 h3=>hm a b (by omega) h2 h3
   refine ⟨fun a h1 h2=>?_,this.2⟩
   by_cases ha:(i+j) / 2+1≤a
   ·exact this.1 a ha h2
   ·cases hpa:p a with
    | false=>rfl
    | true=>exact absurd (hm a ((i+j) / 2) h1 (by omega) (by omega) hpa) hp
 ·exact ⟨fun a h1 h2=>by omega,fun hl=>by omega⟩
termination_by j - i
decreasing_by all_goals omega
theorem CR (one:Bool) (g:FuncId) (fs cs:List AV) (hF:(AV.fn g fs cs).deep=true) (p:Nat→Bool) (n:Nat) (hn:n≤1000000000) (hp:∀ i,i < n→af TT TB one (.fn g fs cs) [ah i] (BB (p i))):Pu one 101 [ah n,.fn g fs cs] (ah (bs p 0 n)):=by
 refine af.body (fn:=Tryz.f101) rfl rfl rfl rfl ?_
 refine aa (mu:=fun _=>false) ?_
 repeat' (first |refine u1 ?_ |fail)
 refine az.aK (ai.to (l:=[(1,.fn g fs cs),(5,ah ((0:Nat):Int)),(6,ah n)]) 0 rfl ⟨rfl,rfl,rfl,trivial⟩ (Nat.le_refl _) (by simp [dg,bV 0 _ hF]) rfl) ?_
 refine az.loop (fun x:Nat × Nat=>x.1≤x.2∧x.2≤n∧bs p x.1 x.2=bs p 0 n) (fun x=>⟨aX [(1,.fn g fs cs),(5,ah (x.1:Int)),(6,ah (x.2:Int))],[],bN.none,false,0⟩) (fun x=>x.2 - x.1) ?_ (0,n) ⟨Nat.zero_le _,Nat.le_refl _,rfl⟩
 rintro ⟨i,j⟩ ⟨h1,h2,h3⟩
 dsimp only at h1 h2 h3
 change az TT TB one _ ⟨aX [(1,.fn g fs cs),(5,ah (i:Int)),(6,ah (j:Int))],[],bN.none,false,0⟩ _
 refine aa (mu:=fun _=>false) ?_
 repeat' (first |refine u1 ?_ |fail)
 refine RM.e1 rfl ⟨fun hc=>?_,fun hc=>?_⟩
 ·have hlt:i < j:=by simpa using hc
  rw [bs,if_pos hlt] at h3
  have hm:(((i:Int)+j) / 2)=(((i+j) / 2:Nat):Int):=by omega
  repeat' (first |refine ⟨_,OQ (by omega),rfl,?_⟩ |refine ⟨_,_,rfl,rfl,_,HV,rfl,?_⟩ |refine ⟨_,OR (by omega),rfl,?_⟩ |refine u1 ?_ |refine u2 ?_ |fail)
  rw [hm]
  repeat' (first |refine u1 ?_ |refine af.call (hp ((i+j) / 2) (by omega)) hF rfl ?_ |fail)
  cases hb:p ((i+j) / 2) with
  | true =>
   rw [if_pos hb] at h3
   repeat' (first |refine u1 ?_ |fail)
   exact ⟨(i,(i+j) / 2),⟨by dsimp only;omega,by dsimp only;omega,h3⟩,(by dsimp only;omega),ai.to 0 rfl ⟨rfl,rfl,rfl,trivial⟩ (Nat.le_refl _) (by simp [dg,bV 0 _ hF]) rfl⟩
  | false =>
   rw [if_neg (by simp [hb])] at h3
   repeat' (first |refine u1 ?_ |fail)
   exact ⟨((i+j) / 2+1,j),⟨by dsimp only;omega,by dsimp only;omega,h3⟩,(by dsimp only;omega),ai.to 0 rfl ⟨rfl,aH (by simp),rfl,trivial⟩ (Nat.le_refl _) (by simp [dg,bV 0 _ hF]) rfl⟩
 ·rw [bs,if_neg (by simpa using hc)] at h3
  repeat' (first |refine u1 ?_ |fail)
  exact ⟨[_],⟨Fz.deep rfl,trivial⟩,by rw [←h3];rfl⟩
def td (c r:Int) (i:Nat):Bool:=!dB ((i:Int)+1) 0 c r
theorem Iy (one:Bool) (c r:Int) (hc:0≤c∧c≤5000) (hr:0≤r∧r≤300) (i:Nat) (hi:i < 60000):af TT TB one (.fn 116 [] [.pt [ah c,ah r] 0]) [ah i] (BB (td c r i)):=by
 have h:=xj one c r ((i:Int)+1) 0 hc hr (by omega) (by omega)
 unfold td
 refine af.body (fn:=Tryz.f116) rfl rfl rfl rfl ?_
 refine aa (mu:=fun _=>false) ?_
 repeat' (first |refine u1 ?_ |refine u2 ?_ |refine af.call h rfl rfl ?_ |fail)
 exact ⟨[_],⟨Fz.deep rfl,trivial⟩,rfl⟩
theorem pz (c r:Int) (i:Nat):td c r i=!dQ c r (i+1):=by
 unfold td dQ
 rw [Int.natCast_add]
 rfl
theorem Kk {c r:Int} (hc:0≤c) (hr:0≤r):bs (td c r) 0 60000=most (dQ c r) 60000:=by
 have hin:=pq (td c r) 0 60000 (Nat.zero_le _)
 have hl:=nF (td c r) 0 60000 (Nat.zero_le _) (fun a b _ hab _ hp=>by
  rw [pz,Bool.not_eq_true'] at hp ⊢
  cases hb:dQ c r (b+1) with
  | false=>rfl
  | true =>
   rw [lJ hc (Int.le_refl c) hr (Int.le_refl r) (show a+1≤b+1 by omega) hb] at hp
   cases hp)
 generalize bs (td c r) 0 60000=k at *
 symm
 refine Ge hin.2 ?_ (fun e h1 h2=>?_) (lI hc)
 ·cases k with
  | zero=>exact lI hc
  | succ k =>
   have:=hl.1 k (Nat.zero_le _) (by omega)
   rw [pz,Bool.not_eq_false'] at this
   exact this
 ·have:=hl.2 (by omega)
  rw [pz,Bool.not_eq_true'] at this
  cases he:dQ c r e with
  | false=>rfl
  | true =>
   rw [lJ hc (Int.le_refl c) hr (Int.le_refl r) (show k+1≤e by omega) he] at this
   cases this
def lQ (c r:Int):Int:=(most (dQ c r) 60000:Nat)
theorem A7 (one:Bool) (c r:Int) (hc:0≤c∧c≤5000) (hr:0≤r∧r≤300):Pu one 78 [.ag [ah c,ah r]] (ah (lQ c r)):=by
 have h:=CR one 116 [] [.pt [ah c,ah r] 0] rfl (td c r) 60000 (by decide) (fun i hi=>Iy one c r hc hr i hi)
 rw [Kk hc.1 hr.1] at h
 unfold lQ
 generalize most (dQ c r) 60000=k at *
 refine af.body (fn:=Tryz.f78) rfl rfl rfl rfl ?_
 refine aa (mu:=fun _=>false) ?_
 repeat' (first |refine u1 ?_ |refine u2 ?_ |refine af.call h rfl rfl ?_ |fail)
 exact ⟨[_],⟨Fz.deep rfl,trivial⟩,rfl⟩
theorem LZ (one:Bool) (a b:Int):af TT TB one (.fn 69 [] []) [.ag [ah a,ah b]] (ah a):=by
 refine af.body (fn:=Tryz.f69) rfl rfl rfl rfl ?_
 refine aa (mu:=fun _=>false) ?_
 repeat' (first |refine u1 ?_ |refine u2 ?_ |fail)
 exact ⟨[_],⟨Fz.deep rfl,trivial⟩,rfl⟩
theorem L3 (one:Bool) (a b:Int):af TT TB one (.fn 70 [] []) [.ag [ah a,ah b]] (ah b):=by
 refine af.body (fn:=Tryz.f70) rfl rfl rfl rfl ?_
 refine aa (mu:=fun _=>false) ?_
 repeat' (first |refine u1 ?_ |refine u2 ?_ |fail)
 exact ⟨[_],⟨Fz.deep rfl,trivial⟩,rfl⟩
theorem L4 (one:Bool) (a b:Int):af TT TB one (.fn 74 [] []) [.ag [ah a,ah b]] (ah a):=by
 refine af.body (fn:=Tryz.f74) rfl rfl rfl rfl ?_
 refine aa (mu:=fun _=>false) ?_
 repeat' (first |refine u1 ?_ |refine u2 ?_ |fail)
 exact ⟨[_],⟨Fz.deep rfl,trivial⟩,rfl⟩
theorem L5 (one:Bool) (a b:Int):af TT TB one (.fn 79 [] []) [.ag [ah a,ah b]] (ah b):=by
 refine af.body (fn:=Tryz.f79) rfl rfl rfl rfl ?_
 refine aa (mu:=fun _=>false) ?_
 repeat' (first |refine u1 ?_ |refine u2 ?_ |fail)
 exact ⟨[_],⟨Fz.deep rfl,trivial⟩,rfl⟩
theorem Iz (one:Bool) (a b x y:Int) (ha:0≤a∧a≤5000) (hb:0≤b∧b≤300) (hx:-60000≤x∧x≤60000) (hy:-60000≤y∧y≤60000):af TT TB one (.fn 115 [] [.pt [ah x,ah y] 0]) [.ag [ah a,ah b]] (ah (if dB x y a b=true then 1 else 0)):=by
 have hm:=qh (a:=[.ag [ah a,ah b]]) (l:=[.ag [ah x,ah y]]) (xj one a b x y ha hb hx hy)
 cases e:dB x y a b with
 | true =>
  rw [e] at hm
  refine af.body (fn:=Tryz.f115) rfl rfl rfl rfl ?_
  refine aa (mu:=fun _=>false) ?_
  repeat' (first |refine af.call hm rfl rfl ?_ |refine u1 ?_ |refine u2 ?_ |fail)
  exact ⟨[_],⟨Fz.deep rfl,trivial⟩,rfl⟩
 | false =>
  rw [e] at hm
  refine af.body (fn:=Tryz.f115) rfl rfl rfl rfl ?_
  refine aa (mu:=fun _=>false) ?_
  repeat' (first |refine af.call hm rfl rfl ?_ |refine u1 ?_ |refine u2 ?_ |fail)
  exact ⟨[_],⟨Fz.deep rfl,trivial⟩,rfl⟩
theorem IA (one:Bool) (a b x y:Int) (ha:0≤a∧a≤300) (hb:0≤b∧b≤31) (hx:-60000≤x∧x≤60000) (hy:-60000≤y∧y≤60000):af TT TB one (.fn 114 [] [.pt [ah x,ah y] 0]) [.ag [ah a,ah b]] (ah (if cF x y a b=true then 1 else 0)):=by
 have hm:=qh (a:=[.ag [ah a,ah b]]) (l:=[.ag [ah x,ah y]]) (AY one a b x y ha hb hx hy)
 cases e:cF x y a b with
 | true =>
  rw [e] at hm
  refine af.body (fn:=Tryz.f114) rfl rfl rfl rfl ?_
  refine aa (mu:=fun _=>false) ?_
  repeat' (first |refine af.call hm rfl rfl ?_ |refine u1 ?_ |refine u2 ?_ |fail)
  exact ⟨[_],⟨Fz.deep rfl,trivial⟩,rfl⟩
 | false =>
  rw [e] at hm
  refine af.body (fn:=Tryz.f114) rfl rfl rfl rfl ?_
  refine aa (mu:=fun _=>false) ?_
  repeat' (first |refine af.call hm rfl rfl ?_ |refine u1 ?_ |refine u2 ?_ |fail)
  exact ⟨[_],⟨Fz.deep rfl,trivial⟩,rfl⟩
end Go.Proofs.YtalcbebjpgfnfaaGreat
