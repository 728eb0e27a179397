/-
  Contracts of the program's functions and of the document's. Lemmas alone; their conditions stand in them.
-/
import Derived.Test.YtichbhmnhkegiaaGreatVA3
import Derived.Test.YtichbhmnhkegiaaGreatVK5
open Go Go.RM Go.AirLaw
namespace Go.Proofs.YtichbhmnhkegiaaGreat
set_option maxRecDepth 100000
set_option maxHeartbeats 4000000
def fU (v:Int × Int→Int) (z:Span × Bool) (x:Int × Int):Span × Bool :=
 (⟨min (if z.2=true then z.1.lo else v x) (v x),max (if z.2=true then z.1.hi else v x) (v x)⟩,true)
def aG (v:Int × Int→Int) (L:List (Int × Int)):Span × Bool:=L.foldl (fU v) (⟨0,0⟩,false)
theorem tj {L:List (Int × Int)} {i:Nat} {x:List AV} (h:(L.map iu)[i]?=some x):∃ y,L[i]?=some y∧x=iu y:=by
 rw [List.getElem?_map,Option.map_eq_some_iff] at h
 obtain ⟨y,h1,h2⟩:=h
 exact ⟨y,h1,h2.symm⟩
theorem u6 {α β:Type} {g:β→α→β} {b:β} {L:List α} {i:Nat} {y:α} (h:L[i]?=some y):(L.take (i+1)).foldl g b=g ((L.take i).foldl g b) y:=by
 rw [List.take_add_one,h,List.foldl_append]
 rfl
theorem mD (one:Bool) (g:FuncId) (fs cs:List AV) (hF:(AV.fn g fs cs).deep=true) (gf:FuncId) (ga gb:List AV) (v:Int × Int→Int) (L:List (Int × Int)) (hg:jQ TT TB one (.fn gf ga gb) (L.map iu)) (hp:∀ x ∈ L,af TT TB one (.fn g fs cs) (iu x) (ah (v x))) :
  Pu one 82 [.fn gf ga gb,.fn g fs cs] (.tp [.ag (bw (aG v L).1),BB (aG v L).2]):=by
 refine af.body (fn:=Tryz.f82) rfl rfl rfl rfl ?_
 have hdF:cA [.fn g fs cs]=true:=by simp only [cA,Bool.and_true];exact hF
 refine RM.dA (mu:=fun _=>false) ?_
 repeat' (first |refine ⟨rfl,rfl,hdF,?_⟩ |refine u1 ?_ |fail)
 refine av.seq ?_
 refine RM.dA (mu:=fun _=>false) ?_
 repeat' (first |refine u1 ?_ |fail)
 refine av.block ?_
 refine av.range (fun i=>[.cells (bw (aG v (L.take i)).1) 0 0,.cells [BB (aG v (L.take i)).2] 0 0]) (fun _=>bq.none) (fun _=>True) rfl hg rfl rfl trivial (fun i x hx _=>?_) (fun _=>?_)
 ·obtain ⟨x,hxi,rfl⟩:=tj hx
  have hpx:=hp x (List.mem_of_getElem? hxi)
  have hst:aG v (L.take (i+1))=fU v (aG v (L.take i)) x:=u6 hxi
  rw [hst]
  generalize aG v (L.take i)=z at *
  obtain ⟨z1,z2⟩:=z
  refine ⟨rfl,?_⟩
  refine aa (mu:=fun _=>false) ?_
  repeat' (first |refine u1 ?_ |refine u2 ?_ |fail)
  cases z2 with
  | false =>
   refine aa (mu:=fun _=>false) ?_
   repeat' (first |refine u1 ?_ |refine u2 ?_ |refine af.call hpx hF rfl ?_ |fail)
   exact ⟨_,ai.to (l:=[]) 2 rfl trivial (Nat.le_refl _) rfl rfl⟩
  | true =>
   refine aa (mu:=fun _=>false) ?_
   repeat' (first |refine u1 ?_ |refine u2 ?_ |refine af.call hpx hF rfl ?_ |fail)
   exact ⟨_,ai.to (l:=[]) 2 rfl trivial (Nat.le_refl _) rfl rfl⟩
 ·refine aa (mu:=fun _=>false) ?_
  repeat' (first |refine u1 ?_ |refine u2 ?_ |fail)
  refine ⟨[_,_],⟨Fz.deep rfl,Fz.deep rfl,trivial⟩,?_⟩
  rw [List.length_map,List.take_length]
  rfl
theorem Al (one:Bool) (g:FuncId) (fs cs:List AV) (hF:(AV.fn g fs cs).deep=true) (gf:FuncId) (ga gb:List AV) (v:Int × Int→Int) (L:List (Int × Int)) (hg:jQ TT TB one (.fn gf ga gb) (L.map iu)) (hp:∀ x ∈ L,af TT TB one (.fn g fs cs) (iu x) (ah (v x))) :
  Pu one 88 [.fn gf ga gb,.fn g fs cs] (.tp [.ag (bw (aG v L).1),BB (aG v L).2]):=by
 refine af.body (fn:=Tryz.f88) rfl rfl rfl rfl ?_
 have hdF:cA [.fn g fs cs]=true:=by simp only [cA,Bool.and_true];exact hF
 refine RM.dA (mu:=fun _=>false) ?_
 repeat' (first |refine ⟨rfl,rfl,hdF,?_⟩ |refine u1 ?_ |fail)
 refine av.seq ?_
 refine RM.dA (mu:=fun _=>false) ?_
 repeat' (first |refine u1 ?_ |fail)
 refine av.block ?_
 refine av.range (fun i=>[.cells (bw (aG v (L.take i)).1) 0 0,.cells [BB (aG v (L.take i)).2] 0 0]) (fun _=>bq.none) (fun _=>True) rfl hg rfl rfl trivial (fun i x hx _=>?_) (fun _=>?_)
 ·obtain ⟨x,hxi,rfl⟩:=tj hx
  have hpx:=hp x (List.mem_of_getElem? hxi)
  have hst:aG v (L.take (i+1))=fU v (aG v (L.take i)) x:=u6 hxi
  rw [hst]
  generalize aG v (L.take i)=z at *
  obtain ⟨z1,z2⟩:=z
  refine ⟨rfl,?_⟩
  refine aa (mu:=fun _=>false) ?_
  repeat' (first |refine u1 ?_ |refine u2 ?_ |fail)
  cases z2 with
  | false =>
   refine aa (mu:=fun _=>false) ?_
   repeat' (first |refine u1 ?_ |refine u2 ?_ |refine af.call hpx hF rfl ?_ |fail)
   exact ⟨_,ai.to (l:=[]) 2 rfl trivial (Nat.le_refl _) rfl rfl⟩
  | true =>
   refine aa (mu:=fun _=>false) ?_
   repeat' (first |refine u1 ?_ |refine u2 ?_ |refine af.call hpx hF rfl ?_ |fail)
   exact ⟨_,ai.to (l:=[]) 2 rfl trivial (Nat.le_refl _) rfl rfl⟩
 ·refine aa (mu:=fun _=>false) ?_
  repeat' (first |refine u1 ?_ |refine u2 ?_ |fail)
  refine ⟨[_,_],⟨Fz.deep rfl,Fz.deep rfl,trivial⟩,?_⟩
  rw [List.length_map,List.take_length]
  rfl
end Go.Proofs.YtichbhmnhkegiaaGreat
open Go Go.RM Go.AirLaw
namespace Go.Proofs.YtichbhmnhkegiaaGreat
set_option maxRecDepth 100000
set_option maxHeartbeats 4000000
theorem GC {n:Int} (h:0≤n∧n≤9223372036854775807):cr (ak TT.P (convert 3 171 (.int .i64 n)))=some (.int .u64 n,.none):=by
 have:cr (ak TT.P (convert 3 171 (.int .i64 n)))=some (.int .u64 (IntKind.u64.wrap n),.none):=rfl
 rw [this,IntWalk.u64_in n (by omega)]
theorem GD {n:Int} (h:0≤n∧n≤9223372036854775807):cr (ak TT.P (convert 171 3 (.int .u64 n)))=some (.int .i64 n,.none):=by
 have:cr (ak TT.P (convert 171 3 (.int .u64 n)))=some (.int .i64 (IntKind.i64.wrap n),.none):=rfl
 rw [this,IntWalk.i64_in n (by omega)]
def bs (p:Nat→Bool) (i j:Nat):Nat :=
 if i < j then (if p ((i+j) / 2) then bs p i ((i+j) / 2) else bs p ((i+j) / 2+1) j) else i
termination_by j - i
decreasing_by all_goals omega
theorem Am (p:Nat→Bool) (i j:Nat) (h:i≤j):i≤bs p i j∧bs p i j≤j:=by
 rw [bs]
 split
 ·split
  ·have:=Am p i ((i+j) / 2) (by omega);omega
  ·have:=Am p ((i+j) / 2+1) j (by omega);omega
 ·omega
termination_by j - i
decreasing_by all_goals omega
theorem tq (p:Nat→Bool) (i j:Nat) (h:i≤j) (hm:∀ a b,i≤a→a≤b→b < j→p a=true→p b=true):(∀ a,i≤a→a < bs p i j→p a=false)∧(bs p i j < j→p (bs p i j)=true):=by
 rw [bs]
 split
 ·rename_i hlt
  split
  ·rename_i hp
   have hh:=Am p i ((i+j) / 2) (by omega)
   have:=tq p i ((i+j) / 2) (by omega) fun a b h1 h2 h3=>hm a b h1 h2 (by omega)
   refine ⟨this.1,fun hl=>?_⟩
   by_cases he:bs p i ((i+j) / 2)=(i+j) / 2
   ·rw [he];exact hp
   ·exact this.2 (by omega)
  ·rename_i hp
   have:=tq p ((i+j) / 2+1) j (by omega) fun a b h1 h2 h3=>hm a b (by omega) h2 h3
   refine ⟨fun a h1 h2=>?_,this.2⟩
   by_cases ha:(i+j) / 2+1≤a
   ·exact this.1 a ha h2
   ·cases hpa:p a with
    | false=>rfl
    | true=>exact absurd (hm a ((i+j) / 2) h1 (by omega) (by omega) hpa) hp
 ·exact ⟨fun a h1 h2=>by omega,fun hl=>by omega⟩
termination_by j - i
decreasing_by all_goals omega
theorem Cz (one:Bool) (g:FuncId) (fs cs:List AV) (hF:(AV.fn g fs cs).deep=true) (p:Nat→Bool) (n:Nat) (hn:n≤1000000000) (hp:∀ i,i < n→af TT TB one (.fn g fs cs) [ah i] (BB (p i))):Pu one 128 [ah n,.fn g fs cs] (ah (bs p 0 n)):=by
 refine af.body (fn:=Tryz.f128) rfl rfl rfl rfl ?_
 refine aa (mu:=fun _=>false) ?_
 repeat' (first |refine u1 ?_ |fail)
 refine av.aY (ai.to (l:=[(1,.fn g fs cs),(5,ah ((0:Nat):Int)),(6,ah n)]) 0 rfl ⟨rfl,rfl,rfl,trivial⟩ (Nat.le_refl _) (by simp [eX,fR 0 _ hF]) rfl) ?_
 refine av.loop (fun x:Nat × Nat=>x.1≤x.2∧x.2≤n∧bs p x.1 x.2=bs p 0 n) (fun x=>⟨aP [(1,.fn g fs cs),(5,ah (x.1:Int)),(6,ah (x.2:Int))],[],bq.none,false,0⟩) (fun x=>x.2 - x.1) ?_ (0,n) ⟨Nat.zero_le _,Nat.le_refl _,rfl⟩
 rintro ⟨i,j⟩ ⟨h1,h2,h3⟩
 dsimp only at h1 h2 h3
 change av TT TB one _ ⟨aP [(1,.fn g fs cs),(5,ah (i:Int)),(6,ah (j:Int))],[],bq.none,false,0⟩ _
 refine aa (mu:=fun _=>false) ?_
 repeat' (first |refine u1 ?_ |fail)
 refine RM.e1 rfl ⟨fun hc=>?_,fun hc=>?_⟩
 ·have hlt:i < j:=by simpa using hc
  rw [bs,if_pos hlt] at h3
  have hm:(((i:Int)+j) / 2)=(((i+j) / 2:Nat):Int):=by omega
  repeat' (first |refine ⟨_,GC (by omega),rfl,?_⟩ |refine ⟨_,_,rfl,rfl,_,Cj,rfl,?_⟩ |refine ⟨_,GD (by omega),rfl,?_⟩ |refine u1 ?_ |refine u2 ?_ |fail)
  rw [hm]
  repeat' (first |refine u1 ?_ |refine af.call (hp ((i+j) / 2) (by omega)) hF rfl ?_ |fail)
  cases hb:p ((i+j) / 2) with
  | true =>
   rw [if_pos hb] at h3
   repeat' (first |refine u1 ?_ |fail)
   exact ⟨(i,(i+j) / 2),⟨by dsimp only;omega,by dsimp only;omega,h3⟩,(by dsimp only;omega),ai.to 0 rfl ⟨rfl,rfl,rfl,trivial⟩ (Nat.le_refl _) (by simp [eX,fR 0 _ hF]) rfl⟩
  | false =>
   rw [if_neg (by simp [hb])] at h3
   repeat' (first |refine u1 ?_ |fail)
   exact ⟨((i+j) / 2+1,j),⟨by dsimp only;omega,by dsimp only;omega,h3⟩,(by dsimp only;omega),ai.to 0 rfl ⟨rfl,cG (by simp),rfl,trivial⟩ (Nat.le_refl _) (by simp [eX,fR 0 _ hF]) rfl⟩
 ·rw [bs,if_neg (by simpa using hc)] at h3
  repeat' (first |refine u1 ?_ |fail)
  exact ⟨[_],⟨Fz.deep rfl,trivial⟩,by rw [←h3];rfl⟩
def oU (c r:Int) (i:Nat):Bool:=!ct ((i:Int)+1) 0 c r
theorem CA (one:Bool) (c r:Int) (hc:0≤c∧c≤5000) (hr:0≤r∧r≤300) (i:Nat) (hi:i < 60000):af TT TB one (.fn 129 [] [.pt [ah c,ah r] 0]) [ah i] (BB (oU c r i)):=by
 have h:=tc one c r ((i:Int)+1) 0 hc hr (by omega) (by omega)
 unfold oU
 refine af.body (fn:=Tryz.f129) rfl rfl rfl rfl ?_
 refine aa (mu:=fun _=>false) ?_
 repeat' (first |refine u1 ?_ |refine u2 ?_ |refine af.call h rfl rfl ?_ |fail)
 exact ⟨[_],⟨Fz.deep rfl,trivial⟩,rfl⟩
theorem lR (c r:Int) (i:Nat):oU c r i=!cH c r (i+1):=by
 unfold oU cH
 rw [Int.natCast_add]
 rfl
theorem DG {c r:Int} (hc:0≤c) (hr:0≤r):bs (oU c r) 0 60000=most (cH c r) 60000:=by
 have hin:=Am (oU c r) 0 60000 (Nat.zero_le _)
 have hl:=tq (oU c r) 0 60000 (Nat.zero_le _) (fun a b _ hab _ hp=>by
  rw [lR,Bool.not_eq_true'] at hp ⊢
  cases hb:cH c r (b+1) with
  | false=>rfl
  | true =>
   rw [jc hc (Int.le_refl c) hr (Int.le_refl r) (show a+1≤b+1 by omega) hb] at hp
   cases hp)
 generalize bs (oU c r) 0 60000=k at *
 symm
 refine Bg hin.2 ?_ (fun e h1 h2=>?_) (jb hc)
 ·cases k with
  | zero=>exact jb hc
  | succ k =>
   have:=hl.1 k (Nat.zero_le _) (by omega)
   rw [lR,Bool.not_eq_false'] at this
   exact this
 ·have:=hl.2 (by omega)
  rw [lR,Bool.not_eq_true'] at this
  cases he:cH c r e with
  | false=>rfl
  | true =>
   rw [jc hc (Int.le_refl c) hr (Int.le_refl r) (show k+1≤e by omega) he] at this
   cases this
def jd (c r:Int):Int:=(most (cH c r) 60000:Nat)
theorem wz (one:Bool) (c r:Int) (hc:0≤c∧c≤5000) (hr:0≤r∧r≤300):Pu one 94 [.ag [ah c,ah r]] (ah (jd c r)):=by
 have h:=Cz one 129 [] [.pt [ah c,ah r] 0] rfl (oU c r) 60000 (by decide) (fun i hi=>CA one c r hc hr i hi)
 rw [DG hc.1 hr.1] at h
 unfold jd
 generalize most (cH c r) 60000=k at *
 refine af.body (fn:=Tryz.f94) rfl rfl rfl rfl ?_
 refine aa (mu:=fun _=>false) ?_
 repeat' (first |refine u1 ?_ |refine u2 ?_ |refine af.call h rfl rfl ?_ |fail)
 exact ⟨[_],⟨Fz.deep rfl,trivial⟩,rfl⟩
theorem ED (one:Bool) (a b:Int):af TT TB one (.fn 83 [] []) [.ag [ah a,ah b]] (ah a):=by
 refine af.body (fn:=Tryz.f83) rfl rfl rfl rfl ?_
 refine aa (mu:=fun _=>false) ?_
 repeat' (first |refine u1 ?_ |refine u2 ?_ |fail)
 exact ⟨[_],⟨Fz.deep rfl,trivial⟩,rfl⟩
theorem EE (one:Bool) (a b:Int):af TT TB one (.fn 84 [] []) [.ag [ah a,ah b]] (ah b):=by
 refine af.body (fn:=Tryz.f84) rfl rfl rfl rfl ?_
 refine aa (mu:=fun _=>false) ?_
 repeat' (first |refine u1 ?_ |refine u2 ?_ |fail)
 exact ⟨[_],⟨Fz.deep rfl,trivial⟩,rfl⟩
theorem EF (one:Bool) (a b:Int):af TT TB one (.fn 89 [] []) [.ag [ah a,ah b]] (ah a):=by
 refine af.body (fn:=Tryz.f89) rfl rfl rfl rfl ?_
 refine aa (mu:=fun _=>false) ?_
 repeat' (first |refine u1 ?_ |refine u2 ?_ |fail)
 exact ⟨[_],⟨Fz.deep rfl,trivial⟩,rfl⟩
theorem EG (one:Bool) (a b:Int):af TT TB one (.fn 95 [] []) [.ag [ah a,ah b]] (ah b):=by
 refine af.body (fn:=Tryz.f95) rfl rfl rfl rfl ?_
 refine aa (mu:=fun _=>false) ?_
 repeat' (first |refine u1 ?_ |refine u2 ?_ |fail)
 exact ⟨[_],⟨Fz.deep rfl,trivial⟩,rfl⟩
theorem CB (one:Bool) (a b x y:Int) (ha:0≤a∧a≤5000) (hb:0≤b∧b≤300) (hx:-60000≤x∧x≤60000) (hy:-60000≤y∧y≤60000):af TT TB one (.fn 127 [] [.pt [ah x,ah y] 0]) [.ag [ah a,ah b]] (ah (if ct x y a b=true then 1 else 0)):=by
 have hm:=mA (a:=[.ag [ah a,ah b]]) (l:=[.ag [ah x,ah y]]) (tc one a b x y ha hb hx hy)
 cases e:ct x y a b with
 | true =>
  rw [e] at hm
  refine af.body (fn:=Tryz.f127) rfl rfl rfl rfl ?_
  refine aa (mu:=fun _=>false) ?_
  repeat' (first |refine af.call hm rfl rfl ?_ |refine u1 ?_ |refine u2 ?_ |fail)
  exact ⟨[_],⟨Fz.deep rfl,trivial⟩,rfl⟩
 | false =>
  rw [e] at hm
  refine af.body (fn:=Tryz.f127) rfl rfl rfl rfl ?_
  refine aa (mu:=fun _=>false) ?_
  repeat' (first |refine af.call hm rfl rfl ?_ |refine u1 ?_ |refine u2 ?_ |fail)
  exact ⟨[_],⟨Fz.deep rfl,trivial⟩,rfl⟩
theorem CC (one:Bool) (a b x y:Int) (ha:0≤a∧a≤300) (hb:0≤b∧b≤31) (hx:-60000≤x∧x≤60000) (hy:-60000≤y∧y≤60000):af TT TB one (.fn 126 [] [.pt [ah x,ah y] 0]) [.ag [ah a,ah b]] (ah (if bA x y a b=true then 1 else 0)):=by
 have hm:=mA (a:=[.ag [ah a,ah b]]) (l:=[.ag [ah x,ah y]]) (wm one a b x y ha hb hx hy)
 cases e:bA x y a b with
 | true =>
  rw [e] at hm
  refine af.body (fn:=Tryz.f126) rfl rfl rfl rfl ?_
  refine aa (mu:=fun _=>false) ?_
  repeat' (first |refine af.call hm rfl rfl ?_ |refine u1 ?_ |refine u2 ?_ |fail)
  exact ⟨[_],⟨Fz.deep rfl,trivial⟩,rfl⟩
 | false =>
  rw [e] at hm
  refine af.body (fn:=Tryz.f126) rfl rfl rfl rfl ?_
  refine aa (mu:=fun _=>false) ?_
  repeat' (first |refine af.call hm rfl rfl ?_ |refine u1 ?_ |refine u2 ?_ |fail)
  exact ⟨[_],⟨Fz.deep rfl,trivial⟩,rfl⟩
end Go.Proofs.YtichbhmnhkegiaaGreat
open Go Go.RM Go.AirLaw
namespace Go.Proofs.YtichbhmnhkegiaaGreat
set_option maxRecDepth 100000
set_option maxHeartbeats 4000000
def iw (s:au) (n:aE):List (Int × Int):=gU EZ (cU (gr s n.cM).cand) (cU s.clear)
def kX (s:au) (n:aE):List (Int × Int):=gU E6 (cU s.bW) (cU ⟨n.eT,n.eT+n.eK - 1⟩)
def cC (s:au) (n:aE) (rs:List aA):List (Int × Int):=(iw s n).filter (fits ct n false rs)
def gM (s:au) (n:aE) (rs:List aA):List (Int × Int):=(kX s n).filter (fits bA n true rs)
theorem oV {s:Span} {x:Int}:x ∈ cU s ↔ s.lo≤x∧x≤s.hi:=by
 unfold cU bU
 rw [List.mem_map]
 constructor
 ·rintro ⟨k,hk,rfl⟩
  rw [List.mem_range] at hk
  omega
 ·intro h
  exact ⟨(x - s.lo).toNat,by rw [List.mem_range];omega,by omega⟩
theorem u7 {mk:Int→Int→Int × Int} {xs bs:List Int} {x:Int × Int}:x ∈ gU mk xs bs ↔ ∃ a ∈ xs,∃ b ∈ bs,mk a b=x:=by
 unfold gU
 simp [List.mem_flatMap,List.mem_map]
theorem nG.lb {s:au} {n:aE} {rs:List aA} (h:nG s n rs):∀ x ∈ iw s n,(1≤x.1∧x.1≤5000)∧1≤x.2∧x.2≤300:=by
 intro x hx
 unfold iw at hx
 rw [u7] at hx
 obtain ⟨a,ha,b,hb,rfl⟩:=hx
 rw [oV] at ha hb
 have h1:=h.mM.cand _ h.mem
 have h2:=h.mM.clear
 show (1≤a∧a≤5000)∧1≤b∧b≤300
 omega
theorem nG.hb {s:au} {n:aE} {rs:List aA} (h:nG s n rs):∀ x ∈ kX s n,(1≤x.1∧x.1≤200)∧0≤x.2∧x.2≤31:=by
 intro x hx
 unfold kX at hx
 rw [u7] at hx
 obtain ⟨a,ha,b,hb,rfl⟩:=hx
 rw [oV] at ha hb
 have h1:=h.mM.bW
 have h2:=h.eT
 dsimp only at hb
 show (1≤a∧a≤200)∧0≤b % 32∧b % 32≤31
 omega
abbrev FY (s:au) (n:aE) (rs:List aA) (f:Bool):AV:=.fn 120 [] [.pt [gL (gr s n.cM).cand s.clear] 0,.pt (bh s n rs f) 0,.pt [BB false] 0]
abbrev FZ (s:au) (n:aE) (rs:List aA) (f:Bool):AV:=.fn 123 [] [.pt [gH s.bW ⟨n.eT,n.eT+n.eK - 1⟩] 0,.pt (bh s n rs f) 0,.pt [BB true] 0]
theorem nG.gl (one:Bool) {s:au} {n:aE} {rs:List aA} (f:Bool) (h:nG s n rs):jQ TT TB one (FY s n rs f) ((cC s n rs).map iu):=by
 have h1:=h.mM.cand _ h.mem
 have h2:=h.mM.clear
 exact Bk one f h _ _ _ (yl one _ _ (by omega) (by omega)) (fun x hx=>by have:=h.lb x hx;omega)
theorem nG.gh (one:Bool) {s:au} {n:aE} {rs:List aA} (f:Bool) (h:nG s n rs):jQ TT TB one (FZ s n rs f) ((gM s n rs).map iu):=by
 have h1:=h.mM.bW
 have h2:=h.eT
 have h3:=h.eK
 exact Bm one f h _ _ _ (ym one _ _ (by omega) (by dsimp only;omega) (by dsimp only;omega)) (fun x hx=>by have:=h.hb x hx;omega)
theorem nG.cl (one:Bool) {s:au} {n:aE} {rs:List aA} (f:Bool) (_:nG s n rs):Pu one 80 [.ag (bh s n rs f),gL (gr s n.cM).cand s.clear,BB false] (FY s n rs f):=Bj one s n rs f _ _
theorem nG.ch (one:Bool) {s:au} {n:aE} {rs:List aA} (f:Bool) (_:nG s n rs):Pu one 86 [.ag (bh s n rs f),gH s.bW ⟨n.eT,n.eT+n.eK - 1⟩,BB true] (FZ s n rs f):=Bl one s n rs f _ _
theorem iE {s:au} {n:aE} {rs:List aA} (h:nG s n rs) {x:Int × Int} (hx:x ∈ cC s n rs):(0≤x.1∧x.1≤5000)∧0≤x.2∧x.2≤300:=by
 have:=h.lb x (List.mem_filter.1 hx).1
 omega
theorem Bn {s:au} {n:aE} {rs:List aA} (h:nG s n rs) {x:Int × Int} (hx:x ∈ gM s n rs):(0≤x.1∧x.1≤300)∧0≤x.2∧x.2≤31:=by
 have:=h.hb x (List.mem_filter.1 hx).1
 omega
def FH:Span:=⟨0,0⟩
def qi (s:au) (n:aE) (rs:List aA):Span × Span × Int :=
 if (bT s n rs).2 ≠ 0 then (FH,FH,(bT s n rs).2)
 else if (aG Prod.fst (cC s n rs)).2=false then ((aG Prod.fst (cC s n rs)).1,FH,9)
 else ((aG Prod.fst (cC s n rs)).1,(aG Prod.snd (cC s n rs)).1,0)
theorem An (one:Bool) (s:au) (h:s.Ok) (n:aE) (rs:List aA) (f:Bool) (hr:rs.length≤maxLen) :
  Pu one 28 [.ag (bz s),.ag (gu n),.sl (rs.map az) f] (.tp [.ag (bw (qi s n rs).1),.ag (bw (qi s n rs).2.1),ah (qi s n rs).2.2]):=by
 have hen:=mz one s h n rs f hr
 unfold qi
 by_cases e0:(bT s n rs).2=0
 ·rw [if_neg (by omega)]
  have ho:=iD e0
  rw [e0] at hen
  have c1:=kC true f ho
  have c2:=ho.cl true f
  have e1:=mD one 83 [] [] rfl _ _ _ Prod.fst _ (ho.gl one f) (fun x hx=>ED one x.1 x.2)
  have e2:=mD one 84 [] [] rfl _ _ _ Prod.snd _ (ho.gl one f) (fun x hx=>EE one x.1 x.2)
  generalize aG Prod.fst (cC s n rs)=z at *
  generalize aG Prod.snd (cC s n rs)=y at *
  obtain ⟨z1,z2⟩:=z
  cases z2 with
  | false =>
   refine af.body (fn:=Tryz.f28) rfl rfl rfl rfl ?_
   refine aa (mu:=fun _=>false) ?_
   repeat' (first |refine af.call hen rfl rfl ?_ |refine ⟨_,_,.inl ⟨rfl,rfl⟩,c1,?_⟩ |refine ⟨_,_,.inl ⟨rfl,rfl⟩,c2,?_⟩ |refine af.call e1 rfl rfl ?_ |refine u1 ?_ |refine u2 ?_ |fail)
   exact ⟨[_,_,_],⟨Fz.deep rfl,Fz.deep rfl,Fz.deep rfl,trivial⟩,rfl⟩
  | true =>
   refine af.body (fn:=Tryz.f28) rfl rfl rfl rfl ?_
   refine aa (mu:=fun _=>false) ?_
   repeat' (first |refine af.call hen rfl rfl ?_ |refine ⟨_,_,.inl ⟨rfl,rfl⟩,c1,?_⟩ |refine ⟨_,_,.inl ⟨rfl,rfl⟩,c2,?_⟩ |refine af.call e1 rfl rfl ?_ |refine af.call e2 rfl rfl ?_ |refine u1 ?_ |refine u2 ?_ |fail)
   exact ⟨[_,_,_],⟨Fz.deep rfl,Fz.deep rfl,Fz.deep rfl,trivial⟩,rfl⟩
 ·rw [if_pos (by omega)]
  have d0:(!decide ((bT s n rs).2=0))=true:=by rw [decide_eq_false e0];rfl
  refine af.body (fn:=Tryz.f28) rfl rfl rfl rfl ?_
  refine aa (mu:=fun _=>false) ?_
  repeat' (first |refine u1 ?_ |refine u2 ?_ |refine af.call hen rfl rfl ?_ |fail)
  exact ⟨[_,_,_],⟨Fz.deep rfl,Fz.deep rfl,Fz.deep rfl,trivial⟩,rfl⟩
end Go.Proofs.YtichbhmnhkegiaaGreat
open Go Go.RM Go.AirLaw
namespace Go.Proofs.YtichbhmnhkegiaaGreat
set_option maxRecDepth 100000
set_option maxHeartbeats 4000000
def kD (L:List (Int × Int)) (w:Nat):Int:=((L.filter fun x=>x.2 == (w:Int)).length:Nat)
def gV (L:List (Int × Int)):List AV:=(List.range 32).map fun w=>ah (kD L w)
theorem wA {L:List (Int × Int)} {w:Nat} (h:w < 32):(gV L)[w]?=some (ah (kD L w)):=by
 unfold gV
 rw [List.getElem?_map,List.getElem?_range h]
 rfl
theorem rj (L:List (Int × Int)):(gV L).length=32:=by simp [gV]
theorem CD (L:List (Int × Int)) (x:Int × Int) (w:Nat):kD (L++[x]) w=if x.2=(w:Int) then kD L w+1 else kD L w:=by
 unfold kD
 rw [List.filter_append]
 by_cases h:x.2=(w:Int)
 ·rw [if_pos h]
  simp [h]
 ·rw [if_neg h]
  simp [h]
theorem CE {L:List (Int × Int)} {x:Int × Int} {w:Nat} (hx:x.2=(w:Int)) (h:w < 32):dh (gV L) [ah (kD L w+1)] w=gV (L++[x]):=by
 have hl:=rj L
 refine List.ext_getElem? fun i=>?_
 unfold dh
 by_cases hi:i < 32
 ·rw [wA hi,CD]
  rcases Nat.lt_trichotomy i w with h1|h1|h1
  ·rw [List.append_assoc,List.getElem?_append_left (by rw [List.length_take];omega),List.getElem?_take_of_lt h1,wA hi,if_neg (by omega)]
  ·subst h1
   rw [List.append_assoc,List.getElem?_append_right (by rw [List.length_take];omega),if_pos hx]
   rw [List.length_take,Nat.min_eq_left (by omega),Nat.sub_self]
   rfl
  ·rw [List.getElem?_append_right (by simp;omega),if_neg (by omega)]
   rw [List.getElem?_drop]
   simp only [List.length_append,List.length_take,List.length_singleton]
   rw [Nat.min_eq_left (by omega),show w+1+(i - (w+1))=i by omega,wA hi]
 ·rw [List.getElem?_eq_none (by simp;omega),List.getElem?_eq_none (by rw [rj];omega)]
theorem Fo {own:Bool} {fr:Nat→AV} {hp:List AB} {K:AV→List AB→Prop} {a x:Operand} {L:List (Int × Int)} {m:Nat} (ha:aB fr a=.ag (gV L)) (hx:aB fr x=ah (m:Nat)) (hm:m < 32) (hK:K (ah (kD L m)) hp):RM.wpOp TT own (.index 148 a x) fr hp K:=by
 show qW TT 148 (aB fr a) (aB fr x) hp K
 rw [ha,hx]
 refine ⟨_,_,rfl,rfl,?_⟩
 match m,hm with
 | 0,_|1,_|2,_|3,_|4,_|5,_|6,_|7,_|8,_|9,_|10,_|11,_|12,_|13,_|14,_|15,_|16,_|17,_|18,_|19,_|20,_|21,_|22,_|23,_|24,_|25,_|26,_|27,_|28,_|29,_|30,_|31,_=>exact ⟨_,rfl,rfl,hK⟩
 | k+32,h=>exact absurd h (by omega)
end Go.Proofs.YtichbhmnhkegiaaGreat
