/-
  Contracts of the program's functions and of the document's. Lemmas alone; their conditions stand in them.
-/
import Derived.Test.YtichbhmnhkegiaaGreatK7
import Derived.Test.YtichbhmnhkegiaaGreatK11
open Go Go.RM Go.AirLaw
namespace Go.Proofs.YtichbhmnhkegiaaGreat
set_option maxRecDepth 100000
set_option maxHeartbeats 4000000
abbrev eP (x:Int × Int):List AV:=[ai x.1,ai x.2]
def dm (L:List (Int × Int)):List AV:=(L.map eP).flatten
theorem jX:∀ (L:List (Int × Int)),(dm L).length=L.length * 2
 | []=>rfl
 | a :: l=>by
  show (eP a++dm l).length=_
  rw [List.length_append,jX l]
  show 2+l.length * 2=(l.length+1) * 2
  omega
theorem qN (L:List (Int × Int)) (a:Int × Int):dm (L++[a])=dm L++[eP a].flatten:=by
 unfold dm
 rw [List.map_append,List.flatten_append]
 rfl
theorem uD:∀ (L:List (Int × Int)),bP (dm L)=true
 | []=>rfl
 | _ :: l=>uD l
theorem qO (n:Nat):∀ (L:List (Int × Int)),iM n (dm L)=true
 | []=>rfl
 | _ :: l=>qO n l
theorem AO {hp:List AB} {j v c n:Nat} {L:List (Int × Int)} (h:hp[j]?=some (.cells (dm L) 2 v)) (hn:L.length=n):Fz hp (.bg j v 0 n c) (.sl (L.map eP) false) :=
 Fz.row (es:=2) h (by rw [jX];omega) (by simp;omega) (fun el hel=>by obtain ⟨x,_,rfl⟩:=List.mem_map.1 hel;rfl) (by rw [List.drop_zero,List.take_of_length_le (by rw [jX];omega)];rfl) (uD _) (fun h=>Bool.noConfusion h)
theorem qP (L:List (Int × Int)) (v:Nat):([.cells (dm L) 2 v]:List AB).all (AB.cJ 1)=true:=by
 have h:AB.cJ 1 (.cells (dm L) 2 v)=true:=qO 1 L
 simp only [List.all_cons,List.all_nil,h,Bool.and_true]
theorem AP (z:Span) (L:List (Int × Int)) (v:Nat):([.cells (aG z) 0 0,.cells (dm L) 2 v]:List AB).all (AB.cJ 2)=true:=by
 have h:AB.cJ 2 (.cells (dm L) 2 v)=true:=qO 2 L
 have h':AB.cJ 2 (.cells (aG z) 0 0)=true:=rfl
 simp only [List.all_cons,List.all_nil,h,h',Bool.and_true]
theorem eN {α:Type} {L:List α} {q:Nat} {x:α} (h:L[q]?=some x):L.take (q+1)=L.take q++[x]:=by
 rw [List.take_add_one,h];rfl
theorem Lh (one:Bool) {s:au} {n:aA} {rs:List av} (ho:jW s n rs):Pu one 107 [.ag (ay s),.ag (aC n),BB true] (.sl ((fc s n).map eP) false):=by
 have h1:=ho.gU.aN
 have h2:=ho.bX
 have h3:=ho.dc
 obtain ⟨M,hM⟩:∃ M:Nat,n.bX=M:=⟨n.bX.toNat,by omega⟩
 have hN:((bh s.aN:Nat):Int)=s.aN.hi - s.aN.lo+1:=by unfold bh;omega
 have hM':bh ⟨n.dc,n.dc+n.bX - 1⟩=M:=by unfold bh;dsimp only;omega
 have hlen:(fc s n).length=bh s.aN * M:=by unfold fc;rw [gi,bp,bp,hM']
 have hat:∀ i k:Nat,i < bh s.aN→k < M→(fc s n)[i * M+k]?=some (s.aN.lo+(i:Nat),(n.dc+(k:Nat)) % 32):=by
  intro i k hi hk
  have:=sJ (mk:=K7) (bs:=dB ⟨n.dc,n.dc+n.bX - 1⟩) (pQ (s:=⟨n.dc,n.dc+n.bX - 1⟩) (i:=k) (by omega)) (pQ hi)
  rw [bp,hM'] at this
  exact this
 generalize fc s n=T at *
 generalize bh s.aN=N at *
 have hN200:N≤200:=by omega
 refine af.body (fn:=Tryz.f107) rfl rfl rfl rfl ?_
 refine aa (mu:=fun t=>Nat.beq t 39 || Nat.beq t 71) ?_
 repeat' (first |refine u1 ?_ |fail)
 refine ax.aK (ah.trans (ah.jw 2) (ah.GI (l:=[(3,.pt (ay s) 0),(4,.pt (aC n) 0),(7,.bg 0 0 0 (0 * M) 0),(8,ai (s.aN.lo+(0:Nat)))]) (hp:=[.cells (dm (T.take (0 * M))) 2 0]) 1 (by rw [Nat.zero_mul];rfl) ⟨bG.refl _,bG.refl _,(by rw [Nat.zero_mul];exact bG.jv),bG.of (by simp),trivial⟩ (Nat.zero_le _) rfl (qP _ _))) ?_
 refine ax.loop (fun x:Nat × Nat × Nat=>x.1≤N∧(x.2.2=x.1 * M∨x.2.2=x.1 * M+1)) (fun x=>⟨aF [(3,.pt (ay s) 0),(4,.pt (aC n) 0),(7,.bg 0 x.2.1 0 (x.1 * M) x.2.2),(8,ai (s.aN.lo+(x.1:Nat)))],[.cells (dm (T.take (x.1 * M))) 2 x.2.1],aV.none,false,0⟩) (fun x=>N - x.1) ?_ (0,0,0) ⟨Nat.zero_le _,.inl (by simp)⟩
 rintro ⟨i,ver,c⟩ ⟨hi,hcap⟩
 dsimp only at hi hcap
 show ax _ _ _ _ ⟨aF [(3,.pt (ay s) 0),(4,.pt (aC n) 0),(7,.bg 0 ver 0 (i * M) c),(8,ai (s.aN.lo+(i:Nat)))],[.cells (dm (T.take (i * M))) 2 ver],aV.none,false,0⟩ _
 refine aa (mu:=fun t=>Nat.beq t 39 || Nat.beq t 71) ?_
 by_cases hlt:i < N
 ·have d1:decide (s.aN.lo+(i:Nat)≤s.aN.hi)=true:=decide_eq_true (by omega)
  repeat' (first |refine u1 ?_ |fail)
  refine ax.aK (ah.to (l:=[(3,.pt (ay s) 0),(4,.pt (aC n) 0),(7,.bg 0 ver 0 (i * M+0) c),(8,ai (s.aN.lo+(i:Nat))),(9,ai (0:Nat))]) (hp:=[.cells (dm (T.take (i * M+0))) 2 ver]) 1 rfl ⟨rfl,rfl,rfl,rfl,rfl,trivial⟩ (Nat.zero_le _) rfl (qP _ _)) ?_
  refine ax.loop (fun x:Nat × Nat × Nat=>x.1≤M∧(x.2.2=i * M+x.1∨x.2.2=i * M+x.1+1)) (fun x=>⟨aF [(3,.pt (ay s) 0),(4,.pt (aC n) 0),(7,.bg 0 x.2.1 0 (i * M+x.1) x.2.2),(8,ai (s.aN.lo+(i:Nat))),(9,ai (x.1:Nat))],[.cells (dm (T.take (i * M+x.1))) 2 x.2.1],aV.none,false,0⟩) (fun x=>M - x.1) ?_ (0,ver,c) ⟨Nat.zero_le _,hcap⟩
  rintro ⟨k,v,c⟩ ⟨hk,hcap⟩
  dsimp only at hk hcap
  show ax _ _ _ _ ⟨aF [(3,.pt (ay s) 0),(4,.pt (aC n) 0),(7,.bg 0 v 0 (i * M+k) c),(8,ai (s.aN.lo+(i:Nat))),(9,ai (k:Nat))],[.cells (dm (T.take (i * M+k))) 2 v],aV.none,false,0⟩ _
  refine aa (mu:=fun t=>Nat.beq t 39 || Nat.beq t 71) ?_
  have hiM:(i+1) * M≤N * M:=Nat.mul_le_mul_right M hlt
  have hi1:(i+1) * M=i * M+M:=Nat.succ_mul i M
  have hNM:N * M≤200 * 32:=Nat.mul_le_mul hN200 (by omega)
  by_cases hkt:k < M
  ·have d2:decide ((k:Int) < n.bX)=true:=decide_eq_true (by omega)
   have hx:=eN (hat i k hlt hkt)
   have hql:(T.take (i * M+k)).length=i * M+k:=by rw [List.length_take];omega
   have hfl:=jX (T.take (i * M+k))
   rw [hql] at hfl
   have hfs:=qN (T.take (i * M+k)) (s.aN.lo+(i:Nat),(n.dc+(k:Nat)) % 32)
   rw [←hx] at hfs
   repeat' (first |((with_reducible show RM.wpOp _ _ (.call _) _ _ _);refine RM.qJ (cs:=dm (T.take (i * M+k))) (n:=i * M+k) (els:=[eP (s.aN.lo+(i:Nat),(n.dc+(k:Nat)) % 32)]) rfl rfl rfl rfl rfl (fun el hel=>(by cases hel with|head=>rfl|tail _ hx=>cases hx)) rfl rfl hfl hcap (by simp only [List.length_singleton];omega) (fun v' c' hc'=>?_)) |refine u1 ?_ |fail)
   refine ⟨(k+1,v',c'),⟨hkt,hc'⟩,(by dsimp only;omega),?_⟩
   show ah _ ⟨aF [(3,.pt (ay s) 0),(4,.pt (aC n) 0),(7,.bg 0 v' 0 (i * M+(k+1)) c'),(8,ai (s.aN.lo+(i:Nat))),(9,ai ((k+1):Nat))],[.cells (dm (T.take (i * M+k+1))) 2 v'],aV.none,false,0⟩
   rw [hfs]
   exact ah.to 1 rfl ⟨rfl,rfl,rfl,rfl,aR (by simp),trivial⟩ (Nat.zero_le _) rfl (by rw [←hfs];exact qP _ _)
  ·have hkM:k=M:=by omega
   subst hkM
   have d2:decide ((k:Int) < n.bX)=false:=decide_eq_false (by omega)
   repeat' (first |refine u1 ?_ |fail)
   refine ⟨(i+1,v,c),⟨hlt,by dsimp only;rw [hi1];exact hcap⟩,(by dsimp only;omega),?_⟩
   exact ah.to 1 (by rw [hi1];rfl) ⟨rfl,rfl,(by rw [hi1];rfl),aR (by simp;omega),trivial⟩ (Nat.zero_le _) rfl (qP _ _)
 ·have hiN:i=N:=by omega
  subst hiN
  have d1:decide (s.aN.lo+(i:Nat)≤s.aN.hi)=false:=decide_eq_false (by omega)
  have htk:T.take (i * M)=T:=List.take_of_length_le (by omega)
  rw [htk]
  repeat' (first |refine u1 ?_ |fail)
  exact ⟨[_],⟨AO rfl hlen,trivial⟩,rfl⟩
theorem Li (one:Bool) {s:au} {n:aA} {rs:List av} (ho:jW s n rs):Pu one 107 [.ag (ay s),.ag (aC n),BB false] (.sl ((dH s n).map eP) false):=by
 have h1:=ho.gU.cand _ ho.mem
 have h2:=ho.gU.clear
 have hg:=ho.bK
 have hgat:=ho.at
 have hN:((bh (gr s n.bK).cand:Nat):Int)=(gr s n.bK).cand.hi - (gr s n.bK).cand.lo+1:=by unfold bh;omega
 obtain ⟨M,hM⟩:∃ M:Nat,bh s.clear=M:=⟨_,rfl⟩
 have hM':(M:Int)=s.clear.hi - s.clear.lo+1:=by rw [←hM];unfold bh;omega
 have hlen:(dH s n).length=bh (gr s n.bK).cand * M:=by unfold dH;rw [gi,bp,bp,hM]
 have hat:∀ i k:Nat,i < bh (gr s n.bK).cand→k < M→(dH s n)[i * M+k]?=some ((gr s n.bK).cand.lo+(i:Nat),s.clear.lo+(k:Nat)):=by
  intro i k hi hk
  have:=sJ (mk:=K6) (bs:=dB s.clear) (pQ (s:=s.clear) (i:=k) (by omega)) (pQ hi)
  rw [bp,hM] at this
  exact this
 generalize dH s n=T at *
 generalize gr s n.bK=G at *
 generalize bh G.cand=N at *
 have hN41:N≤41:=by omega
 refine af.body (fn:=Tryz.f107) rfl rfl rfl rfl ?_
 refine aa (mu:=fun t=>Nat.beq t 39 || Nat.beq t 71) ?_
 repeat' (first |refine u1 ?_ |fail)
 refine ax.aK (ah.trans (ah.jw 2) (ah.GI (l:=[(3,.pt (ay s) 0),(7,.bg 1 0 0 (0 * M) 0),(10,.ptr 0 0 0),(11,ai (G.cand.lo+(0:Nat)))]) (hp:=[.cells (aG G.cand) 0 0,.cells (dm (T.take (0 * M))) 2 0]) 2 (by rw [Nat.zero_mul];rfl) ⟨bG.refl _,(by rw [Nat.zero_mul];exact bG.jv),bG.refl _,bG.of (by simp),trivial⟩ (Nat.zero_le _) rfl (AP _ _ _))) ?_
 refine ax.loop (fun x:Nat × Nat × Nat=>x.1≤N∧(x.2.2=x.1 * M∨x.2.2=x.1 * M+1)) (fun x=>⟨aF [(3,.pt (ay s) 0),(7,.bg 1 x.2.1 0 (x.1 * M) x.2.2),(10,.ptr 0 0 0),(11,ai (G.cand.lo+(x.1:Nat)))],[.cells (aG G.cand) 0 0,.cells (dm (T.take (x.1 * M))) 2 x.2.1],aV.none,false,0⟩) (fun x=>N - x.1) ?_ (0,0,0) ⟨Nat.zero_le _,.inl (by simp)⟩
 rintro ⟨i,ver,c⟩ ⟨hi,hcap⟩
 dsimp only at hi hcap
 show ax _ _ _ _ ⟨aF [(3,.pt (ay s) 0),(7,.bg 1 ver 0 (i * M) c),(10,.ptr 0 0 0),(11,ai (G.cand.lo+(i:Nat)))],[.cells (aG G.cand) 0 0,.cells (dm (T.take (i * M))) 2 ver],aV.none,false,0⟩ _
 refine aa (mu:=fun t=>Nat.beq t 39 || Nat.beq t 71) ?_
 by_cases hlt:i < N
 ·have d1:decide (G.cand.lo+(i:Nat)≤G.cand.hi)=true:=decide_eq_true (by omega)
  repeat' (first |refine u1 ?_ |fail)
  refine ax.aK (ah.to (l:=[(3,.pt (ay s) 0),(7,.bg 1 ver 0 (i * M+0) c),(10,.ptr 0 0 0),(11,ai (G.cand.lo+(i:Nat))),(12,ai (s.clear.lo+(0:Nat)))]) (hp:=[.cells (aG G.cand) 0 0,.cells (dm (T.take (i * M+0))) 2 ver]) 2 rfl ⟨rfl,rfl,rfl,rfl,aR (by simp),trivial⟩ (Nat.zero_le _) rfl (AP _ _ _)) ?_
  refine ax.loop (fun x:Nat × Nat × Nat=>x.1≤M∧(x.2.2=i * M+x.1∨x.2.2=i * M+x.1+1)) (fun x=>⟨aF [(3,.pt (ay s) 0),(7,.bg 1 x.2.1 0 (i * M+x.1) x.2.2),(10,.ptr 0 0 0),(11,ai (G.cand.lo+(i:Nat))),(12,ai (s.clear.lo+(x.1:Nat)))],[.cells (aG G.cand) 0 0,.cells (dm (T.take (i * M+x.1))) 2 x.2.1],aV.none,false,0⟩) (fun x=>M - x.1) ?_ (0,ver,c) ⟨Nat.zero_le _,hcap⟩
  rintro ⟨k,v,c⟩ ⟨hk,hcap⟩
  dsimp only at hk hcap
  show ax _ _ _ _ ⟨aF [(3,.pt (ay s) 0),(7,.bg 1 v 0 (i * M+k) c),(10,.ptr 0 0 0),(11,ai (G.cand.lo+(i:Nat))),(12,ai (s.clear.lo+(k:Nat)))],[.cells (aG G.cand) 0 0,.cells (dm (T.take (i * M+k))) 2 v],aV.none,false,0⟩ _
  refine aa (mu:=fun t=>Nat.beq t 39 || Nat.beq t 71) ?_
  have hiM:(i+1) * M≤N * M:=Nat.mul_le_mul_right M hlt
  have hi1:(i+1) * M=i * M+M:=Nat.succ_mul i M
  have hNM:N * M≤41 * 300:=Nat.mul_le_mul hN41 (by omega)
  by_cases hkt:k < M
  ·have d2:decide (s.clear.lo+(k:Nat)≤s.clear.hi)=true:=decide_eq_true (by omega)
   have hx:=eN (hat i k hlt hkt)
   have hql:(T.take (i * M+k)).length=i * M+k:=by rw [List.length_take];omega
   have hfl:=jX (T.take (i * M+k))
   rw [hql] at hfl
   have hfs:=qN (T.take (i * M+k)) (G.cand.lo+(i:Nat),s.clear.lo+(k:Nat))
   rw [←hx] at hfs
   repeat' (first |((with_reducible show RM.wpOp _ _ (.call _) _ _ _);refine RM.qJ (cs:=dm (T.take (i * M+k))) (n:=i * M+k) (els:=[eP (G.cand.lo+(i:Nat),s.clear.lo+(k:Nat))]) rfl rfl rfl rfl rfl (fun el hel=>(by cases hel with|head=>rfl|tail _ hx=>cases hx)) rfl rfl hfl hcap (by simp only [List.length_singleton];omega) (fun v' c' hc'=>?_)) |refine u1 ?_ |fail)
   refine ⟨(k+1,v',c'),⟨hkt,hc'⟩,(by dsimp only;omega),?_⟩
   show ah _ ⟨aF [(3,.pt (ay s) 0),(7,.bg 1 v' 0 (i * M+(k+1)) c'),(10,.ptr 0 0 0),(11,ai (G.cand.lo+(i:Nat))),(12,ai (s.clear.lo+((k+1):Nat)))],[.cells (aG G.cand) 0 0,.cells (dm (T.take (i * M+k+1))) 2 v'],aV.none,false,0⟩
   rw [hfs]
   exact ah.to 2 rfl ⟨rfl,rfl,rfl,rfl,aR (by simp;omega),trivial⟩ (Nat.zero_le _) rfl (by rw [←hfs];exact AP _ _ _)
  ·have hkM:k=M:=by omega
   subst hkM
   have d2:decide (s.clear.lo+(k:Nat)≤s.clear.hi)=false:=decide_eq_false (by omega)
   repeat' (first |refine u1 ?_ |fail)
   refine ⟨(i+1,v,c),⟨hlt,by dsimp only;rw [hi1];exact hcap⟩,(by dsimp only;omega),?_⟩
   exact ah.to 2 (by rw [hi1];rfl) ⟨rfl,(by rw [hi1];rfl),rfl,aR (by simp;omega),trivial⟩ (Nat.zero_le _) rfl (AP _ _ _)
 ·have hiN:i=N:=by omega
  subst hiN
  have d1:decide (G.cand.lo+(i:Nat)≤G.cand.hi)=false:=decide_eq_false (by omega)
  have htk:T.take (i * M)=T:=List.take_of_length_le (by omega)
  rw [htk]
  repeat' (first |refine u1 ?_ |fail)
  exact ⟨[_],⟨AO rfl hlen,trivial⟩,rfl⟩
end Go.Proofs.YtichbhmnhkegiaaGreat
open Go Go.RM Go.AirLaw
namespace Go.Proofs.YtichbhmnhkegiaaGreat
set_option maxRecDepth 100000
set_option maxHeartbeats 4000000
theorem Ff (one:Bool) (p q:Pt) (hx:-60000≤p.x - q.x∧p.x - q.x≤60000) (hy:-60000≤p.y - q.y∧p.y - q.y≤60000):Pu one 106 [.ag (oG p),.ag (oG q)] (.ag (oG ⟨p.x - q.x,p.y - q.y⟩)):=by
 refine af.body (fn:=Tryz.f106) rfl rfl rfl rfl ?_
 refine aa (mu:=fun _=>false) ?_
 repeat' (first |refine u1 ?_ |refine u2 ?_ |fail)
 exact ⟨[_],⟨Fz.deep rfl,trivial⟩,rfl⟩
def CI (aB:Bool):Int→Int→Int→Int→Bool:=if aB=true then aY else bz
def qQ (aB:Bool) (x:Int × Int):Prop:=if aB=true then (0≤x.1∧x.1≤300)∧0≤x.2∧x.2≤31 else (0≤x.1∧x.1≤5000)∧0≤x.2∧x.2≤300
def jn (n:aA) (p:Pt) (x:Int × Int) (aB:Bool):Bool:=CI aB (p.x - n.pos.x) (p.y - n.pos.y) x.1 x.2
theorem AQ (one:Bool) (n:aA) (p:Pt) (x:Int × Int) (aB:Bool) (hx:-60000≤p.x - n.pos.x∧p.x - n.pos.x≤60000) (hy:-60000≤p.y - n.pos.y∧p.y - n.pos.y≤60000) (hb:qQ aB x) :
  Pu one 93 [.ag (aC n),.ag (oG p),.ag (eP x),BB aB] (BB (jn n p x aB)):=by
 have hv:=Ff one p n.pos hx hy
 unfold jn CI
 cases aB with
 | true =>
  unfold qQ at hb
  rw [if_pos rfl] at hb
  have hm:=Fc one ⟨p.x - n.pos.x,p.y - n.pos.y⟩ x.1 x.2 hb.1 hb.2 hx hy
  simp only [if_true]
  refine af.body (fn:=Tryz.f93) rfl rfl rfl rfl ?_
  refine aa (mu:=fun _=>false) ?_
  repeat' (first |refine u1 ?_ |fail)
  exact ⟨[_],⟨Fz.deep rfl,trivial⟩,rfl⟩
 | false =>
  unfold qQ at hb
  rw [if_neg (by simp)] at hb
  have hm:=AK one ⟨p.x - n.pos.x,p.y - n.pos.y⟩ x.1 x.2 hx hy hb.1 hb.2
  simp only [Bool.false_eq_true,if_false]
  refine af.body (fn:=Tryz.f93) rfl rfl rfl rfl ?_
  refine aa (mu:=fun _=>false) ?_
  repeat' (first |refine u1 ?_ |fail)
  exact ⟨[_],⟨Fz.deep rfl,trivial⟩,rfl⟩
def sQ (aB:Bool) (n:aA) (x:Int × Int) (r:av):Bool:=!(r.aB == aB) || (jn n r.pos x aB == r.yes)
structure Ii (n:aA) (rs:List av):Prop where
 x:∀ r ∈ rs,-60000≤r.pos.x - n.pos.x∧r.pos.x - n.pos.x≤60000
 y:∀ r ∈ rs,-60000≤r.pos.y - n.pos.y∧r.pos.y - n.pos.y≤60000
theorem jW.near {s:au} {n:aA} {rs:List av} (h:jW s n rs):Ii n rs:=by
 have h1:=h.x
 have h2:=h.y
 exact ⟨fun r hr=>by have:=h.rx r hr;omega,fun r hr=>by have:=h.ry r hr;omega⟩
theorem D3 (one:Bool) (n:aA) (rs:List av) (f:Bool) (x:Int × Int) (hn:Ii n rs) (hr:rs.length≤maxLen) (hb:qQ false x) :
  Pu one 108 [.ag (aC n),.sl (rs.map aj) f,.ag (eP x),BB false] (BB (rs.all (sQ false n x))):=by
 have er:((rs.map aj).length:Int)=rs.length:=by simp
 have ml:rs.length≤9223372036854775807:=Nat.le_trans hr (by simp [maxLen])
 generalize hB:rs.all (sQ false n x)=B
 refine af.body (fn:=Tryz.f108) rfl rfl rfl rfl ?_
 refine aa (mu:=fun _=>false) ?_
 repeat' (first |refine u1 ?_ |fail)
 refine ax.aK (ah.to (l:=[(1,.sl (rs.map aj) f),(3,BB false),(4,.pt (aC n) 0),(6,.pt (eP x) 0),(9,ai (0:Nat))]) (hp:=[]) 0 rfl ⟨rfl,rfl,rfl,rfl,rfl,trivial⟩ (Nat.zero_le _) rfl rfl) ?_
 refine ax.loop (fun k:Nat=>k≤rs.length∧∀ i (h:i < rs.length),i < k→sQ false n x rs[i]=true) (fun k=>⟨aF [(1,.sl (rs.map aj) f),(3,BB false),(4,.pt (aC n) 0),(6,.pt (eP x) 0),(9,ai (k:Nat))],[],aV.none,false,0⟩) (fun k=>rs.length - k) ?_ 0 ⟨Nat.zero_le _,fun i _ hi=>absurd hi (Nat.not_lt_zero _)⟩
 rintro k ⟨hk,hprev⟩
 refine aa (mu:=fun _=>false) ?_
 by_cases hlt:k < rs.length
 ·have d1:decide ((k:Int) < ((rs.map aj).length:Int))=true:=decide_eq_true (by omega)
  have hat:(rs.map aj)[((k:Nat):Int).toNat]?=some (aj rs[k]):=bO hlt
  have hone:sQ false n x rs[k]=true→(∀ i (h:i < rs.length),i < k+1→sQ false n x rs[i]=true):=by
   intro q i hi hik
   by_cases e:i=k
   ·subst e;exact q
   ·exact hprev i hi (by omega)
  have hno:sQ false n x rs[k]=false→B=false:=by
   intro q
   rw [←hB]
   rw [List.all_eq_false]
   exact ⟨rs[k],List.getElem_mem hlt,by rw [q];decide⟩
  have hmt:=AQ true n rs[k].pos x false (hn.x _ (List.getElem_mem hlt)) (hn.y _ (List.getElem_mem hlt)) hb
  clear hB
  unfold sQ at hone hno
  generalize rs[k]=r at *
  obtain ⟨p,hh,ys⟩:=r
  dsimp only at hone hno hmt
  generalize jn n p x false=v at *
  cases hh with
  | true =>
   repeat' (first |refine u1 ?_ |refine u2 ?_ |fail)
   exact ⟨k+1,⟨hlt,hone rfl⟩,(by dsimp only;omega),ah.to 0 rfl ⟨rfl,rfl,rfl,rfl,aR (by simp),trivial⟩ (Nat.zero_le _) rfl rfl⟩
  | false =>
   cases v <;> cases ys
   ·repeat' (first |refine u1 ?_ |refine u2 ?_ |fail)
    exact ⟨k+1,⟨hlt,hone rfl⟩,(by dsimp only;omega),ah.to 0 rfl ⟨rfl,rfl,rfl,rfl,aR (by simp),trivial⟩ (Nat.zero_le _) rfl rfl⟩
   ·rw [hno rfl]
    repeat' (first |refine u1 ?_ |refine u2 ?_ |fail)
    exact ⟨[_],⟨Fz.deep rfl,trivial⟩,rfl⟩
   ·rw [hno rfl]
    repeat' (first |refine u1 ?_ |refine u2 ?_ |fail)
    exact ⟨[_],⟨Fz.deep rfl,trivial⟩,rfl⟩
   ·repeat' (first |refine u1 ?_ |refine u2 ?_ |fail)
    exact ⟨k+1,⟨hlt,hone rfl⟩,(by dsimp only;omega),ah.to 0 rfl ⟨rfl,rfl,rfl,rfl,aR (by simp),trivial⟩ (Nat.zero_le _) rfl rfl⟩
 ·have d1:decide ((k:Int) < ((rs.map aj).length:Int))=false:=decide_eq_false (by omega)
  have hyes:B=true:=by
   rw [←hB]
   rw [List.all_eq_true]
   intro r hr
   obtain ⟨i,hi,rfl⟩:=List.getElem_of_mem hr
   exact hprev i hi (by omega)
  rw [hyes]
  repeat' (first |refine u1 ?_ |fail)
  exact ⟨[_],⟨Fz.deep rfl,trivial⟩,rfl⟩
theorem D4 (one:Bool) (n:aA) (rs:List av) (f:Bool) (x:Int × Int) (hn:Ii n rs) (hr:rs.length≤maxLen) (hb:qQ true x) :
  Pu one 108 [.ag (aC n),.sl (rs.map aj) f,.ag (eP x),BB true] (BB (rs.all (sQ true n x))):=by
 have er:((rs.map aj).length:Int)=rs.length:=by simp
 have ml:rs.length≤9223372036854775807:=Nat.le_trans hr (by simp [maxLen])
 generalize hB:rs.all (sQ true n x)=B
 refine af.body (fn:=Tryz.f108) rfl rfl rfl rfl ?_
 refine aa (mu:=fun _=>false) ?_
 repeat' (first |refine u1 ?_ |fail)
 refine ax.aK (ah.to (l:=[(1,.sl (rs.map aj) f),(3,BB true),(4,.pt (aC n) 0),(6,.pt (eP x) 0),(9,ai (0:Nat))]) (hp:=[]) 0 rfl ⟨rfl,rfl,rfl,rfl,rfl,trivial⟩ (Nat.zero_le _) rfl rfl) ?_
 refine ax.loop (fun k:Nat=>k≤rs.length∧∀ i (h:i < rs.length),i < k→sQ true n x rs[i]=true) (fun k=>⟨aF [(1,.sl (rs.map aj) f),(3,BB true),(4,.pt (aC n) 0),(6,.pt (eP x) 0),(9,ai (k:Nat))],[],aV.none,false,0⟩) (fun k=>rs.length - k) ?_ 0 ⟨Nat.zero_le _,fun i _ hi=>absurd hi (Nat.not_lt_zero _)⟩
 rintro k ⟨hk,hprev⟩
 refine aa (mu:=fun _=>false) ?_
 by_cases hlt:k < rs.length
 ·have d1:decide ((k:Int) < ((rs.map aj).length:Int))=true:=decide_eq_true (by omega)
  have hat:(rs.map aj)[((k:Nat):Int).toNat]?=some (aj rs[k]):=bO hlt
  have hone:sQ true n x rs[k]=true→(∀ i (h:i < rs.length),i < k+1→sQ true n x rs[i]=true):=by
   intro q i hi hik
   by_cases e:i=k
   ·subst e;exact q
   ·exact hprev i hi (by omega)
  have hno:sQ true n x rs[k]=false→B=false:=by
   intro q
   rw [←hB]
   rw [List.all_eq_false]
   exact ⟨rs[k],List.getElem_mem hlt,by rw [q];decide⟩
  have hmt:=AQ true n rs[k].pos x true (hn.x _ (List.getElem_mem hlt)) (hn.y _ (List.getElem_mem hlt)) hb
  clear hB
  unfold sQ at hone hno
  generalize rs[k]=r at *
  obtain ⟨p,hh,ys⟩:=r
  dsimp only at hone hno hmt
  generalize jn n p x true=v at *
  cases hh with
  | false =>
   repeat' (first |refine u1 ?_ |refine u2 ?_ |fail)
   exact ⟨k+1,⟨hlt,hone rfl⟩,(by dsimp only;omega),ah.to 0 rfl ⟨rfl,rfl,rfl,rfl,aR (by simp),trivial⟩ (Nat.zero_le _) rfl rfl⟩
  | true =>
   cases v <;> cases ys
   ·repeat' (first |refine u1 ?_ |refine u2 ?_ |fail)
    exact ⟨k+1,⟨hlt,hone rfl⟩,(by dsimp only;omega),ah.to 0 rfl ⟨rfl,rfl,rfl,rfl,aR (by simp),trivial⟩ (Nat.zero_le _) rfl rfl⟩
   ·rw [hno rfl]
    repeat' (first |refine u1 ?_ |refine u2 ?_ |fail)
    exact ⟨[_],⟨Fz.deep rfl,trivial⟩,rfl⟩
   ·rw [hno rfl]
    repeat' (first |refine u1 ?_ |refine u2 ?_ |fail)
    exact ⟨[_],⟨Fz.deep rfl,trivial⟩,rfl⟩
   ·repeat' (first |refine u1 ?_ |refine u2 ?_ |fail)
    exact ⟨k+1,⟨hlt,hone rfl⟩,(by dsimp only;omega),ah.to 0 rfl ⟨rfl,rfl,rfl,rfl,aR (by simp),trivial⟩ (Nat.zero_le _) rfl rfl⟩
 ·have d1:decide ((k:Int) < ((rs.map aj).length:Int))=false:=decide_eq_false (by omega)
  have hyes:B=true:=by
   rw [←hB]
   rw [List.all_eq_true]
   intro r hr
   obtain ⟨i,hi,rfl⟩:=List.getElem_of_mem hr
   exact hprev i hi (by omega)
  rw [hyes]
  repeat' (first |refine u1 ?_ |fail)
  exact ⟨[_],⟨Fz.deep rfl,trivial⟩,rfl⟩
theorem y4 (one:Bool) (n:aA) (rs:List av) (f:Bool) (x:Int × Int) (aB:Bool) (hn:Ii n rs) (hr:rs.length≤maxLen) (hb:qQ aB x):Pu one 108 [.ag (aC n),.sl (rs.map aj) f,.ag (eP x),BB aB] (BB (rs.all (sQ aB n x))):=by
 cases aB with
 | false=>exact D3 one n rs f x hn hr hb
 | true=>exact D4 one n rs f x hn hr hb
def oa (s:au) (n:aA) (aB:Bool):List (Int × Int):=if aB=true then fc s n else dH s n
def aJ (s:au) (n:aA) (rs:List av) (aB:Bool):List (Int × Int):=(oa s n aB).filter fun x=>rs.all (sQ aB n x)
theorem wV (s:au) (n:aA) (rs:List av):aJ s n rs true=iq s n rs:=rfl
theorem mQ (s:au) (n:aA) (rs:List av):aJ s n rs false=cZ s n rs:=rfl
theorem Ij (one:Bool) {s:au} {n:aA} {rs:List av} (ho:jW s n rs) (aB:Bool):Pu one 107 [.ag (ay s),.ag (aC n),BB aB] (.sl ((oa s n aB).map eP) false):=by
 cases aB with
 | true=>exact Lh one ho
 | false=>exact Li one ho
theorem jW.LL {s:au} {n:aA} {rs:List av} (h:jW s n rs) {aB:Bool} {x:Int × Int} (hx:x ∈ oa s n aB):qQ aB x:=by
 cases aB with
 | true=>have:=h.hb x hx;unfold qQ;rw [if_pos rfl];omega
 | false=>have:=h.lb x hx;unfold qQ;rw [if_neg (by simp)];omega
theorem jQ {s:au} {n:aA} {rs:List av} (h:jW s n rs) (aB:Bool):(oa s n aB).length≤100000:=by
 cases aB with
 | true =>
  show (fc s n).length≤_
  have h1:=h.gU.aN
  have h2:=h.bX
  unfold fc
  rw [gi,bp,bp]
  have a1:bh s.aN≤200:=by unfold bh;omega
  have a2:bh ⟨n.dc,n.dc+n.bX - 1⟩≤32:=by unfold bh;dsimp only;omega
  exact Nat.le_trans (Nat.mul_le_mul a1 a2) (by decide)
 | false =>
  show (dH s n).length≤_
  have h1:=h.gU.cand _ h.mem
  have h2:=h.gU.clear
  unfold dH
  rw [gi,bp,bp]
  have a1:bh (gr s n.bK).cand≤41:=by unfold bh;omega
  have a2:bh s.clear≤300:=by unfold bh;omega
  exact Nat.le_trans (Nat.mul_le_mul a1 a2) (by decide)
theorem Gn (one:Bool) {s:au} {n:aA} {rs:List av} (ho:jW s n rs) (f:Bool) (aB:Bool) :
  Pu one 56 [.ag (ay s),.ag (aC n),.sl (rs.map aj) f,BB aB] (.sl ((aJ s n rs aB).map eP) false):=by
 have hal:=Ij one ho aB
 have hlen:=jQ ho aB
 have hbn:∀ x ∈ oa s n aB,qQ aB x:=fun x hx=>ho.LL hx
 have hag:=fun x hx=>y4 true n rs f x aB ho.near (by have:=ho.JL;unfold maxLen;omega) (hbn x hx)
 unfold aJ
 generalize oa s n aB=A at *
 have ea:((A.map eP).length:Int)=A.length:=by simp
 generalize hqd:(fun x=>rs.all (sQ aB n x))=q at *
 have hag:∀ x ∈ A,Pu true 108 [.ag (aC n),.sl (rs.map aj) f,.ag (eP x),BB aB] (BB (q x)):=by subst hqd;exact hag
 clear hqd
 refine af.body (fn:=Tryz.f56) rfl rfl rfl rfl ?_
 refine aa (mu:=fun t=>Nat.beq t 36) ?_
 repeat' (first |refine u1 ?_ |fail)
 refine ax.aK (ah.trans (ah.jw 2) (ah.GI (l:=[(2,.sl (rs.map aj) f),(3,BB aB),(5,.pt (aC n) 0),(9,.bg 0 0 0 ((A.take 0).filter q).length 0),(10,.sl (A.map eP) false),(11,ai (0:Nat))]) (hp:=[.cells (dm ((A.take 0).filter q)) 2 0]) 1 rfl ⟨bG.refl _,bG.refl _,bG.refl _,bG.jv,bG.refl _,bG.refl _,trivial⟩ (Nat.zero_le _) rfl (qP _ _))) ?_
 refine ax.loop (fun x:Nat × Nat × Nat=>x.1≤A.length∧(x.2.2=((A.take x.1).filter q).length∨x.2.2=((A.take x.1).filter q).length+1)) (fun x=>⟨aF [(2,.sl (rs.map aj) f),(3,BB aB),(5,.pt (aC n) 0),(9,.bg 0 x.2.1 0 ((A.take x.1).filter q).length x.2.2),(10,.sl (A.map eP) false),(11,ai (x.1:Nat))],[.cells (dm ((A.take x.1).filter q)) 2 x.2.1],aV.none,false,0⟩) (fun x=>A.length - x.1) ?_ (0,0,0) ⟨Nat.zero_le _,.inl rfl⟩
 rintro ⟨i,ver,c⟩ ⟨hi,hcap⟩
 dsimp only at hi hcap
 show ax _ _ _ _ ⟨aF [(2,.sl (rs.map aj) f),(3,BB aB),(5,.pt (aC n) 0),(9,.bg 0 ver 0 ((A.take i).filter q).length c),(10,.sl (A.map eP) false),(11,ai (i:Nat))],[.cells (dm ((A.take i).filter q)) 2 ver],aV.none,false,0⟩ _
 refine aa (mu:=fun t=>Nat.beq t 36) ?_
 by_cases hlt:i < A.length
 ·have d1:decide ((i:Int) < ((A.map eP).length:Int))=true:=decide_eq_true (by omega)
  have hat:(A.map eP)[((i:Nat):Int).toNat]?=some (eP A[i]):=bO hlt
  have hq:=hag A[i] (List.getElem_mem hlt)
  have hte:A.take (i+1)=A.take i++[A[i]]:=eN (List.getElem?_eq_getElem hlt)
  have hfl:=jX ((A.take i).filter q)
  have hfb:((A.take i).filter q).length≤100000:=Nat.le_trans (List.length_filter_le _ _) (by rw [List.length_take];omega)
  have hfs:=qN ((A.take i).filter q) A[i]
  have hte1:q A[i]=true→(A.take (i+1)).filter q=(A.take i).filter q++[A[i]]:=fun h=>by rw [hte,List.filter_append];simp [h]
  have hte0:q A[i]=false→(A.take (i+1)).filter q=(A.take i).filter q:=fun h=>by rw [hte,List.filter_append];simp [h]
  generalize A[i]=y at *
  cases hqy:q y with
  | true =>
   have hte1:=hte1 hqy
   rw [←hte1] at hfs
   rw [hqy] at hq
   repeat' (first |((with_reducible show RM.wpOp _ _ (.call _) _ _ _);refine RM.qJ (cs:=dm ((A.take i).filter q)) (n:=((A.take i).filter q).length) (els:=[eP y]) rfl rfl rfl rfl rfl (fun el hel=>by rw [List.mem_singleton.1 hel];rfl) rfl rfl hfl hcap (by simp only [List.length_singleton];omega) (fun v' c' hc'=>?_)) |refine u1 ?_ |refine u2 ?_ |fail)
   refine ⟨(i+1,v',c'),⟨hlt,by dsimp only;rw [hte1,List.length_append];exact hc'⟩,(by dsimp only;omega),?_⟩
   show ah _ ⟨aF [(2,.sl (rs.map aj) f),(3,BB aB),(5,.pt (aC n) 0),(9,.bg 0 v' 0 ((A.take (i+1)).filter q).length c'),(10,.sl (A.map eP) false),(11,ai ((i+1):Nat))],[.cells (dm ((A.take (i+1)).filter q)) 2 v'],aV.none,false,0⟩
   rw [hfs]
   exact ah.to 1 rfl ⟨rfl,rfl,rfl,(by rw [hte1,List.length_append];rfl),rfl,aR (by simp),trivial⟩ (Nat.zero_le _) rfl (by rw [←hfs];exact qP _ _)
  | false =>
   have hte0:=hte0 hqy
   rw [hqy] at hq
   repeat' (first |refine u1 ?_ |refine u2 ?_ |fail)
   refine ⟨(i+1,ver,c),⟨hlt,by dsimp only;rw [hte0];exact hcap⟩,(by dsimp only;omega),?_⟩
   show ah _ ⟨aF [(2,.sl (rs.map aj) f),(3,BB aB),(5,.pt (aC n) 0),(9,.bg 0 ver 0 ((A.take (i+1)).filter q).length c),(10,.sl (A.map eP) false),(11,ai ((i+1):Nat))],[.cells (dm ((A.take (i+1)).filter q)) 2 ver],aV.none,false,0⟩
   rw [hte0]
   exact ah.to 1 rfl ⟨rfl,rfl,rfl,rfl,rfl,aR (by simp),trivial⟩ (Nat.zero_le _) rfl (qP _ _)
 ·have d1:decide ((i:Int) < ((A.map eP).length:Int))=false:=decide_eq_false (by omega)
  have hin:i=A.length:=by omega
  subst hin
  rw [List.take_length]
  repeat' (first |refine u1 ?_ |fail)
  exact ⟨[_],⟨AO rfl rfl,trivial⟩,rfl⟩
def nH (s:au) (n:aA) (rs:List av) (aB:Bool) (e:Int):List (Int × Int) × Int:=if e ≠ 0 then ([],e) else if aJ s n rs aB=[] then ([],9) else (aJ s n rs aB,0)
theorem iw (one:Bool) (s:au) (n:aA) (rs:List av) (f:Bool) (aB:Bool) (e:Int) (ho:e=0→jW s n rs) :
  Pu one 85 [.ag (ay s),.ag (aC n),.sl (rs.map aj) f,BB aB,ai e] (.tp [.sl ((nH s n rs aB e).1.map eP) false,ai (nH s n rs aB e).2]):=by
 unfold nH
 by_cases e0:e=0
 ·have ht:=Gn one (ho e0) f aB
  have d0:(!decide (e=0))=false:=by rw [decide_eq_true e0];rfl
  rw [if_neg (by omega)]
  generalize aJ s n rs aB=L at *
  by_cases hL:L=[]
  ·rw [if_pos hL]
   rw [hL] at ht
   have d1:decide ((([]:List (Int × Int)).map eP).length=(0:Int))=true:=by decide
   refine af.body (fn:=Tryz.f85) rfl rfl rfl rfl ?_
   refine aa (mu:=fun _=>false) ?_
   repeat' (first |refine u1 ?_ |fail)
   exact ⟨[_,_],⟨Fz.nil,Fz.deep rfl,trivial⟩,rfl⟩
  ·rw [if_neg hL]
   have d1:decide (((L.map eP).length:Int)=0)=false:=decide_eq_false (by cases L with|nil=>exact absurd rfl hL|cons a l=>simp;omega)
   refine af.body (fn:=Tryz.f85) rfl rfl rfl rfl ?_
   refine aa (mu:=fun _=>false) ?_
   repeat' (first |refine u1 ?_ |fail)
   exact ⟨[_,_],⟨Fz.deep rfl,Fz.deep rfl,trivial⟩,rfl⟩
 ·rw [if_pos e0]
  have d0:(!decide (e=0))=true:=by rw [decide_eq_false e0];rfl
  refine af.body (fn:=Tryz.f85) rfl rfl rfl rfl ?_
  refine aa (mu:=fun _=>false) ?_
  repeat' (first |refine u1 ?_ |fail)
  exact ⟨[_,_],⟨Fz.nil,Fz.deep rfl,trivial⟩,rfl⟩
end Go.Proofs.YtichbhmnhkegiaaGreat
