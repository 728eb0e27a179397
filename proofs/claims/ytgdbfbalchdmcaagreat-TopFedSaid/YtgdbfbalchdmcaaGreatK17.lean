/-
  Contracts of the program's functions and of the document's. Lemmas alone; their conditions stand in them.
-/
import Derived.Test.YtgdbfbalchdmcaaGreatA3
import Derived.Test.YtgdbfbalchdmcaaGreatK11
import Derived.Test.YtgdbfbalchdmcaaGreatK16
open Go Go.RM
namespace Go.Proofs.YtgdbfbalchdmcaaGreat.St
set_option maxRecDepth 100000
set_option maxHeartbeats 4000000
def pQ (ah:List Int) (k:Kind) (row:List Int) (f:List Count) (m p:Int):Int :=
 k.first.lo+bs (fun i=>cA ah k row f false ⟨k.first.lo+(i:Int),m,p⟩) 0 (ax k.first)
def jL (ah:List Int) (k:Kind) (row:List Int) (f:List Count) (m p:Int):Int :=
 k.first.lo+bs (fun i=>cA ah k row f true ⟨k.first.lo+(i:Int),m,p⟩) 0 (ax k.first) - 1
def nC (ah:List Int) (k:Kind) (row:List Int) (f:List Count) (m p:Int):Option (aN × aN) :=
 if pQ ah k row f m p≤jL ah k row f m p then some (⟨pQ ah k row f m p,m,p⟩,⟨jL ah k row f m p,m,p⟩) else none
def pM (ah:List Int) (k:Kind) (row:List Int) (f:List Count) (q:Nat):Option (aN × aN) :=
 nC ah k row f (k.aR.lo+(q / ax k.ay:Nat)) (k.ay.lo+(q % ax k.ay:Nat))
def pairs (ah:List Int) (k:Kind) (row:List Int) (f:List Count) (n:Nat):List (aN × aN):=(List.range n).filterMap (pM ah k row f)
def cF (ah:List Int) (k:Kind) (row:List Int) (f:List Count):List (aN × aN):=pairs ah k row f (ax k.aR * ax k.ay)
abbrev DZ (x:aN × aN):List AV:=[.ag (dg x.1),.ag (dg x.2)]
theorem pz (ah:List Int) (k:Kind) (row:List Int) (f:List Count) (n:Nat):pairs ah k row f (n+1)=pairs ah k row f n++(pM ah k row f n).toList:=by
 unfold pairs
 rw [List.range_succ,List.filterMap_append]
 cases h:pM ah k row f n <;> simp [h]
theorem Ca (ah:List Int) (k:Kind) (row:List Int) (f:List Count) {n m:Nat} (h:n≤m):∃ l,pairs ah k row f m=pairs ah k row f n++l:=by
 induction h with
 | refl=>exact ⟨[],by simp⟩
 | step _ ih =>
  obtain ⟨l,hl⟩:=ih
  exact ⟨l++(pM ah k row f _).toList,by rw [pz,hl,List.append_assoc]⟩
theorem JY (ah:List Int) (k:Kind) (row:List Int) (f:List Count) {n m:Nat} (h:n < m) {x:aN × aN} (hx:pM ah k row f n=some x):(pairs ah k row f m)[(pairs ah k row f n).length]?=some x:=by
 obtain ⟨l,hl⟩:=Ca ah k row f (show n+1≤m from h)
 rw [hl,pz,hx]
 simp
theorem JZ (ah:List Int) (k:Kind) (row:List Int) (f:List Count) {m p:Nat} (hp:p < ax k.ay):pM ah k row f (m * ax k.ay+p)=nC ah k row f (k.aR.lo+m) (k.ay.lo+p):=by
 unfold pM
 rw [Nat.mul_comm,Nat.mul_add_div (by omega),Nat.div_eq_of_lt hp,Nat.mul_add_mod,Nat.mod_eq_of_lt hp,Nat.add_zero]
theorem qI.run {s:aC} {k:Kind} {row:List Int} {f:List Count} (h:qI s k row f) {n m p:Int} (hn:k.first.lo≤n∧n≤k.first.hi) (hm:k.aR.lo≤m∧m≤k.aR.hi) (hp:k.ay.lo≤p∧p≤k.ay.hi):iE s.ah k row ⟨n,m,p⟩:=by
 have h8:=lW h.good.sizes
 have h1:=h.kind.first
 have h2:=h.kind.aR
 have h3:=h.kind.ay
 exact ⟨by omega,h.good.ah,h.row,h.kind.room,h.kind.dK,by dsimp only;omega,by dsimp only;omega,by dsimp only;omega⟩
theorem J0 (one:Bool) {s:aC} {k:Kind} {row:List Int} {f:List Count} :
  Pu one 57 [.ag (aL s k row (.sl (f.map aM) false))] (.fn 102 [] [.pt (aL s k row (.sl (f.map aM) false)) 0]):=by
 refine af.body (fn:=Tryz.f57) rfl rfl rfl rfl ?_
 refine aa (mu:=fun _=>false) ?_
 repeat' (first |refine ⟨rfl,l7,pq,?_⟩ |refine u1 ?_ |fail)
 exact ⟨[_],⟨Fz.deep rfl,trivial⟩,rfl⟩
theorem J1 (one:Bool) {s:aC} {k:Kind} {row:List Int} {f:List Count} (h:qI s k row f) :
  IU TT TB one (.fn 102 [] [.pt (aL s k row (.sl (f.map aM) false)) 0]) ((cF s.ah k row f).map DZ):=by
 have h30:=h.row.len
 have k1:=h.kind.first
 have k2:=h.kind.aR
 have k3:=h.kind.ay
 have em:((ax k.aR:Nat):Int)=k.aR.hi - k.aR.lo+1:=by unfold ax;omega
 have ep:((ax k.ay:Nat):Int)=k.ay.hi - k.ay.lo+1:=by unfold ax;omega
 have ef:((ax k.first:Nat):Int)=k.first.hi - k.first.lo+1:=by unfold ax;omega
 have hdp:(AV.pt (aL s k row (.sl (f.map aM) false)) 0).deep=true:=rfl
 refine IU.body (fn:=Tryz.f102) rfl rfl rfl rfl (fun x hx a ha=>?_) fun u J Stop hy=>?_
 ·obtain ⟨y,_,rfl⟩:=List.mem_map.1 hx
  simp only [List.mem_cons,List.not_mem_nil,or_false] at ha
  rcases ha with rfl|rfl
  ·exact js.ag fun b hb=>by simp only [List.mem_cons,List.not_mem_nil,or_false] at hb;rcases hb with rfl|rfl|rfl <;> exact js.fl _
  ·exact js.ag fun b hb=>by simp only [List.mem_cons,List.not_mem_nil,or_false] at hb;rcases hb with rfl|rfl|rfl <;> exact js.fl _
 rw [List.length_map]
 refine aa (mu:=fun _=>false) ?_
 repeat' (first |refine u1 ?_ |refine u2 ?_ |fail)
 rw [←em,show J 0=J (pairs s.ah k row f (0 * ax k.ay)).length by rw [Nat.zero_mul];rfl]
 refine aG.aU (aj.to (l:=[(0,.oq u),(1,.pt (aL s k row (.sl (f.map aM) false)) 0),(18,ak (ax k.aR)),(19,ak ((0:Nat):Int))]) (hp:=[]) 0 rfl ⟨rfl,rfl,rfl,rfl,trivial⟩ (Nat.zero_le _) rfl rfl) ?_
 refine aG.loop (fun m:Nat=>m≤ax k.aR) (fun m=>⟨bT [(0,.oq u),(1,.pt (aL s k row (.sl (f.map aM) false)) 0),(18,ak (ax k.aR)),(19,ak (m:Int))],[],J (pairs s.ah k row f (m * ax k.ay)).length,false,0⟩) (fun m=>ax k.aR - m) ?_ 0 (Nat.zero_le _)
 intro m hm
 refine aa (mu:=fun _=>false) ?_
 repeat' (first |refine u1 ?_ |fail)
 refine RM.e1 rfl ⟨fun hc=>?_,fun hc=>?_⟩
 ·have hm1:m < ax k.aR:=by simpa using hc
  repeat' (first |refine u1 ?_ |refine u2 ?_ |fail)
  rw [←ep]
  refine aG.aU (aj.to (l:=[(0,.oq u),(1,.pt (aL s k row (.sl (f.map aM) false)) 0),(3,ak m),(18,ak (ax k.aR)),(19,ak m),(31,ak (ax k.ay)),(32,ak ((0:Nat):Int))]) (hp:=[]) 0 rfl ⟨rfl,rfl,rfl,rfl,rfl,rfl,rfl,trivial⟩ (Nat.zero_le _) rfl rfl) ?_
  refine aG.loop (fun p:Nat=>p≤ax k.ay) (fun p=>⟨bT [(0,.oq u),(1,.pt (aL s k row (.sl (f.map aM) false)) 0),(3,ak m),(18,ak (ax k.aR)),(19,ak m),(31,ak (ax k.ay)),(32,ak (p:Int))],[],J (pairs s.ah k row f (m * ax k.ay+p)).length,false,0⟩) (fun p=>ax k.ay - p) ?_ 0 (Nat.zero_le _)
  intro p hp
  refine RM.l5 (mu:=fun _=>false) ?_
  repeat' (first |refine u1 ?_ |fail)
  refine RM.l5 (mu:=fun _=>false) ?_
  refine RM.e1 rfl ⟨fun hc=>?_,fun hc=>?_⟩
  ·have hp1:p < ax k.ay:=by simpa using hc
   have hq:m * ax k.ay+p < ax k.aR * ax k.ay:=by
    have:(m+1) * ax k.ay≤ax k.aR * ax k.ay:=Nat.mul_le_mul_right _ hm1
    rw [Nat.add_mul,Nat.one_mul] at this
    omega
   have hus:=JZ s.ah k row f (m:=m) hp1
   have hsucc:=pz s.ah k row f (m * ax k.ay+p)
   have hat:=fun x=>JY s.ah k row f hq (x:=x)
   rw [hus] at hsucc hat
   have hrun:∀ n:Int,k.first.lo≤n∧n≤k.first.hi→iE s.ah k row ⟨n,k.aR.lo+m,k.ay.lo+p⟩:=fun n hn=>h.run hn (by omega) (by omega)
   have hle:=fun b=>LA true 104 [] [.pt (aL s k row (.sl (f.map aM) false)) 0,.pt (dg ⟨0,k.aR.lo+m,k.ay.lo+p⟩) 0,.pt [BB b] 0] rfl k.first.lo (ax k.first) (by omega) (by omega) (fun n=>cA s.ah k row f b ⟨n,k.aR.lo+m,k.ay.lo+p⟩) (fun i hi=>JX true b h ⟨0,k.aR.lo+m,k.ay.lo+p⟩ (k.first.lo+i) (hrun _ (by omega)))
   rw [show k.first.lo+(ax k.first:Int) - 1=k.first.hi by omega] at hle
   have hlo:pQ s.ah k row f (k.aR.lo+m) (k.ay.lo+p)=k.first.lo+bs (fun i=>cA s.ah k row f false ⟨k.first.lo+(i:Int),k.aR.lo+m,k.ay.lo+p⟩) 0 (ax k.first):=rfl
   have hhi:jL s.ah k row f (k.aR.lo+m) (k.ay.lo+p)=k.first.lo+bs (fun i=>cA s.ah k row f true ⟨k.first.lo+(i:Int),k.aR.lo+m,k.ay.lo+p⟩) 0 (ax k.first) - 1:=rfl
   have hb1:=(tZ (fun i=>cA s.ah k row f true ⟨k.first.lo+(i:Int),k.aR.lo+m,k.ay.lo+p⟩) 0 (ax k.first) (Nat.zero_le _)).2
   have hl0:=hle false
   have hl1:=hle true
   rw [←hlo] at hl0
   generalize bs (fun i=>cA s.ah k row f true ⟨k.first.lo+(i:Int),k.aR.lo+m,k.ay.lo+p⟩) 0 (ax k.first)=r1 at hl1 hhi hb1
   repeat' (first |refine u1 ?_ |fail)
   refine aG.seq ?_
   refine aG.block ?_
   refine RM.l5 (mu:=fun _=>false) ?_
   repeat' (first |refine u1 ?_ |fail)
   refine RM.l5 (mu:=fun _=>false) ?_
   repeat' (first |refine u1 ?_ |refine u2 ?_ |fail)
   refine aG.aU (aj.giveUp 0 (l:=[(0,.oq u),(1,.pt (aL s k row (.sl (f.map aM) false)) 0),(3,ak m),(5,.pt (dg ⟨0,k.aR.lo+m,k.ay.lo+p⟩) 0),(18,ak (ax k.aR)),(19,ak m),(31,ak (ax k.ay)),(32,ak (p:Int))]) (hp:=[.gone]) rfl (Nat.le_refl _) rfl ⟨.same rfl,.same rfl,.same rfl,.ptr,.same rfl,.same rfl,.same rfl,.same rfl,trivial⟩ rfl rfl) ?_
   refine aa (mu:=fun _=>false) ?_
   repeat' (first |refine ⟨_,_,.inl ⟨rfl,rfl⟩,DY true false _ _,?_⟩ |refine ⟨_,_,.inl ⟨rfl,rfl⟩,DY true true _ _,?_⟩ |refine ⟨_,_,.inl ⟨rfl,rfl⟩,hl0,?_⟩ |refine ⟨_,_,.inl ⟨rfl,rfl⟩,hl1,?_⟩ |refine u1 ?_ |with_reducible refine RM.IY rfl ?_ |refine u2 ?_ |fail)
   rw [←hhi]
   by_cases hd:pQ s.ah k row f (k.aR.lo+m) (k.ay.lo+p)≤jL s.ah k row f (k.aR.lo+m) (k.ay.lo+p)
   ·have hdd:=decide_eq_true hd
    have hpa:nC s.ah k row f (k.aR.lo+m) (k.ay.lo+p)=some (⟨pQ s.ah k row f (k.aR.lo+m) (k.ay.lo+p),k.aR.lo+m,k.ay.lo+p⟩,⟨jL s.ah k row f (k.aR.lo+m) (k.ay.lo+p),k.aR.lo+m,k.ay.lo+p⟩):=by unfold nC;rw [if_pos hd]
    have hx:=hat _ hpa
    have e1:(pairs s.ah k row f (m * ax k.ay+(p+1))).length=(pairs s.ah k row f (m * ax k.ay+p)).length+1:=by rw [←Nat.add_assoc,hsucc,hpa];simp
    repeat' (first |refine u1 ?_ |refine u2 ?_ |fail)
    have hyx:=hy _ (DZ (⟨pQ s.ah k row f (k.aR.lo+m) (k.ay.lo+p),k.aR.lo+m,k.ay.lo+p⟩,⟨jL s.ah k row f (k.aR.lo+m) (k.ay.lo+p),k.aR.lo+m,k.ay.lo+p⟩)) (by rw [List.getElem?_map];exact congrArg (Option.map DZ) hx)
    refine au.mono (hyx _) (fun a hp' amb' hq=>?_)
    obtain ⟨rfl,b,rfl,hb⟩:=hq
    rcases hb with ⟨rfl,rfl⟩|⟨rfl,hstop⟩
    ·repeat' (first |refine u1 ?_ |fail)
     refine aa (mu:=fun _=>false) ?_
     repeat' (first |refine u1 ?_ |fail)
     refine ⟨p+1,hp1,(by dsimp only;omega),?_⟩
     show aj _ ⟨bT [(0,.oq u),(1,.pt (aL s k row (.sl (f.map aM) false)) 0),(3,ak m),(18,ak (ax k.aR)),(19,ak m),(31,ak (ax k.ay)),(32,ak ((p+1:Nat):Int))],[],J (pairs s.ah k row f (m * ax k.ay+(p+1))).length,false,0⟩
     rw [e1]
     exact aj.to 0 rfl ⟨rfl,rfl,rfl,rfl,rfl,rfl,aJ (by simp),trivial⟩ (Nat.zero_le _) rfl rfl
    ·repeat' (first |refine u1 ?_ |fail)
     exact Or.inr hstop
   ·have hdd:=decide_eq_false hd
    have hpa:nC s.ah k row f (k.aR.lo+m) (k.ay.lo+p)=none:=by unfold nC;rw [if_neg hd]
    have e1:(pairs s.ah k row f (m * ax k.ay+(p+1))).length=(pairs s.ah k row f (m * ax k.ay+p)).length:=by rw [←Nat.add_assoc,hsucc,hpa];simp
    repeat' (first |refine u1 ?_ |fail)
    refine aa (mu:=fun _=>false) ?_
    repeat' (first |refine u1 ?_ |fail)
    refine ⟨p+1,hp1,(by dsimp only;omega),?_⟩
    show aj _ ⟨bT [(0,.oq u),(1,.pt (aL s k row (.sl (f.map aM) false)) 0),(3,ak m),(18,ak (ax k.aR)),(19,ak m),(31,ak (ax k.ay)),(32,ak ((p+1:Nat):Int))],[],J (pairs s.ah k row f (m * ax k.ay+(p+1))).length,false,0⟩
    rw [e1]
    exact aj.to 0 rfl ⟨rfl,rfl,rfl,rfl,rfl,rfl,aJ (by simp),trivial⟩ (Nat.zero_le _) rfl rfl
  ·have hp0:¬ p < ax k.ay:=by simpa using hc
   have hp1:p=ax k.ay:=by omega
   subst hp1
   repeat' (first |refine u1 ?_ |refine u2 ?_ |fail)
   refine ⟨m+1,hm1,(by dsimp only;omega),?_⟩
   show aj _ ⟨bT [(0,.oq u),(1,.pt (aL s k row (.sl (f.map aM) false)) 0),(18,ak (ax k.aR)),(19,ak ((m+1:Nat):Int))],[],J (pairs s.ah k row f ((m+1) * ax k.ay)).length,false,0⟩
   rw [Nat.add_mul,Nat.one_mul]
   exact aj.to 0 rfl ⟨rfl,rfl,rfl,aJ (by simp),trivial⟩ (Nat.zero_le _) rfl rfl
 ·have hm0:¬ m < ax k.aR:=by simpa using hc
  have hm1:m=ax k.aR:=by omega
  subst hm1
  repeat' (first |refine u1 ?_ |fail)
  exact Or.inl rfl
end Go.Proofs.YtgdbfbalchdmcaaGreat.St
open Go Go.RM
namespace Go.Proofs.YtgdbfbalchdmcaaGreat.St
set_option maxRecDepth 100000
set_option maxHeartbeats 4000000
theorem rT {s:aC} {k:Kind} {row:List Int} {c:List (List AV)} {b:Bool} {l:List AV} (h:bU l=true):bU (.ag (aL s k row (.sl c b)) :: l)=true:=by
 show ((AV.ag (aL s k row (.sl c b))).deep && bU l)=true
 rw [mG rfl,h]
 rfl
theorem O4 {own:Bool} {fr:Nat→AV} {hp:List AB} {K:AV→List AB→Prop} {x:Operand} {s:aC} {k:Kind} {row:List Int} {c:AV} (h:row.length=30) (hx:bw fr x=.pt (aL s k row c) 0) (hk:K (.ag (aL s k row c)) hp):RM.wpOp TT own (.load 116 x) fr hp K:=by
 show gn TT 116 (bw fr x) hp K
 rw [hx]
 refine And.intro (by rw [eW h];exact Nat.le_refl _) ?_
 rw [nZ h]
 exact hk
theorem LC {L:List (aN × aN)} {i:Nat} {x:List AV} (h:(L.map DZ)[i]?=some x):∃ y,L[i]?=some y∧x=DZ y:=by
 rw [List.getElem?_map,Option.map_eq_some_iff] at h
 obtain ⟨y,h1,h2⟩:=h
 exact ⟨y,h1,h2.symm⟩
theorem LD (one:Bool) {s:aC} {k:Kind} {row:List Int} {cnts:List (List AV)} {t:aN} {down:Int} (h:iE s.ah k row t) :
  Pu one 87 [.ag (aL s k row (.sl cnts false)),.ag (dg t),ak down] (ak (ck s.ah k row t down s.ah.length)):=by
 have h30:=h.row.len
 have hr:=Mg one s k row cnts t down h
 refine af.body (fn:=Tryz.f87) rfl rfl rfl rfl ?_
 refine aa (mu:=fun _=>false) ?_
 repeat' (first |refine ⟨rfl,l7,pq,?_⟩ |refine O4 h30 rfl ?_ |refine u1 ?_ |refine u2 ?_ |refine af.call hr rfl (rT rfl) ?_ |fail)
 exact ⟨[_],⟨Fz.deep rfl,trivial⟩,rfl⟩
structure LF where
 t:aN
 day:Int
 e:Int
def mI (sh:aN→Int) (x:LF) (y:aN × aN):LF:=if sh y.1 < x.day∨sh y.1=x.day∧y.1.first < x.t.first then ⟨y.1,sh y.1,0⟩ else x
def i5 (n:Nat) (sh:aN→Int) (L:List (aN × aN)):LF:=L.foldl (mI sh) ⟨⟨0,0,0⟩,(n:Int)+1,9⟩
def bI (ah:List Int) (k:Kind) (row:List Int) (t:aN):Int:=ck ah k row t ah.length ah.length
theorem D4 {s:aC} {k:Kind} {row:List Int} {f:List Count} (h:qI s k row f) {y:aN × aN} (hy:y ∈ cF s.ah k row f) :
  (iE s.ah k row y.1∧iE s.ah k row y.2)∧(k.first.lo≤y.1.first∧y.1.first≤y.2.first∧y.2.first≤k.first.hi)∧(k.aR.lo≤y.1.aR∧y.1.aR≤k.aR.hi∧y.2.aR=y.1.aR)∧(k.ay.lo≤y.1.ay∧y.1.ay≤k.ay.hi∧y.2.ay=y.1.ay):=by
 have k1:=h.kind.first
 have k2:=h.kind.aR
 have k3:=h.kind.ay
 unfold cF pairs at hy
 rw [List.mem_filterMap] at hy
 obtain ⟨q,hq,hy⟩:=hy
 rw [List.mem_range] at hq
 unfold pM nC at hy
 split at hy
 ·rename_i hle
  cases hy
  have hpos:0 < ax k.ay:=by unfold ax;omega
  have h1:q / ax k.ay < ax k.aR:=Nat.div_lt_of_lt_mul (by rw [Nat.mul_comm];exact hq)
  have h2:=Nat.mod_lt q hpos
  have em:((ax k.aR:Nat):Int)=k.aR.hi - k.aR.lo+1:=by unfold ax;omega
  have ep:((ax k.ay:Nat):Int)=k.ay.hi - k.ay.lo+1:=by unfold ax;omega
  have ef:((ax k.first:Nat):Int)=k.first.hi - k.first.lo+1:=by unfold ax;omega
  have b1:=(tZ (fun i=>cA s.ah k row f false ⟨k.first.lo+(i:Int),k.aR.lo+(q / ax k.ay:Nat),k.ay.lo+(q % ax k.ay:Nat)⟩) 0 (ax k.first) (Nat.zero_le _)).2
  have b2:=(tZ (fun i=>cA s.ah k row f true ⟨k.first.lo+(i:Int),k.aR.lo+(q / ax k.ay:Nat),k.ay.lo+(q % ax k.ay:Nat)⟩) 0 (ax k.first) (Nat.zero_le _)).2
  have c1:pQ s.ah k row f (k.aR.lo+(q / ax k.ay:Nat)) (k.ay.lo+(q % ax k.ay:Nat))=k.first.lo+bs (fun i=>cA s.ah k row f false ⟨k.first.lo+(i:Int),k.aR.lo+(q / ax k.ay:Nat),k.ay.lo+(q % ax k.ay:Nat)⟩) 0 (ax k.first):=rfl
  have c2:jL s.ah k row f (k.aR.lo+(q / ax k.ay:Nat)) (k.ay.lo+(q % ax k.ay:Nat))=k.first.lo+bs (fun i=>cA s.ah k row f true ⟨k.first.lo+(i:Int),k.aR.lo+(q / ax k.ay:Nat),k.ay.lo+(q % ax k.ay:Nat)⟩) 0 (ax k.first) - 1:=rfl
  generalize bs (fun i=>cA s.ah k row f false ⟨k.first.lo+(i:Int),k.aR.lo+(q / ax k.ay:Nat),k.ay.lo+(q % ax k.ay:Nat)⟩) 0 (ax k.first)=r1 at b1 c1
  generalize bs (fun i=>cA s.ah k row f true ⟨k.first.lo+(i:Int),k.aR.lo+(q / ax k.ay:Nat),k.ay.lo+(q % ax k.ay:Nat)⟩) 0 (ax k.first)=r2 at b2 c2
  generalize q / ax k.ay=m at *
  generalize q % ax k.ay=p at *
  refine ⟨⟨h.run (by omega) (by omega) (by omega),h.run (by omega) (by omega) (by omega)⟩,by dsimp only;omega,by dsimp only;omega,by dsimp only;omega⟩
 ·cases hy
theorem Fy (one:Bool) {s:aC} {k:Kind} {row:List Int} {f:List Count} (h:qI s k row f) :
  Pu one 45 [.ag (aL s k row (.sl (f.map aM) false))] (.tp [.ag (dg (i5 s.ah.length (bI s.ah k row) (cF s.ah k row f)).t),ak (i5 s.ah.length (bI s.ah k row) (cF s.ah k row f)).day,ak (i5 s.ah.length (bI s.ah k row) (cF s.ah k row f)).e]):=by
 have em:((s.ah.map eI).length:Int)=s.ah.length:=by simp
 have h8:=lW h.good.sizes
 have h30:=h.row.len
 have htr:=J0 one (s:=s) (k:=k) (row:=row) (f:=f)
 have hg:=J1 one h
 have hsh:=fun (y:aN × aN) (hy:y ∈ cF s.ah k row f)=>LD (one:=one) (cnts:=f.map aM) (down:=s.ah.length) (D4 h hy).1.1
 rw [←em] at hsh
 generalize cF s.ah k row f=L at hg hsh ⊢
 have hst:∀ i,i5 s.ah.length (bI s.ah k row) (L.take i)=(L.take i).foldl (mI (bI s.ah k row)) ⟨⟨0,0,0⟩,(s.ah.length:Int)+1,9⟩:=fun _=>rfl
 refine af.body (fn:=Tryz.f45) rfl rfl rfl rfl ?_
 refine RM.l5 (mu:=fun _=>false) ?_
 repeat' (first |refine ⟨rfl,l7,pq,?_⟩ |refine u1 ?_ |refine u2 ?_ |fail)
 refine RM.l5 (mu:=fun _=>false) ?_
 repeat' (first |refine u1 ?_ |refine u2 ?_ |fail)
 refine RM.l5 (mu:=fun _=>false) ?_
 repeat' (first |refine O4 h30 rfl ?_ |refine u1 ?_ |refine af.call htr rfl (rT rfl) ?_ |fail)
 rw [em]
 refine aG.range (fun i=>[.cells (dg (i5 s.ah.length (bI s.ah k row) (L.take i)).t) 0 0,.cells [ak (i5 s.ah.length (bI s.ah k row) (L.take i)).day] 0 0,.cells [ak (i5 s.ah.length (bI s.ah k row) (L.take i)).e] 0 0]) (fun _=>bW.none) (fun _=>True) rfl hg rfl rfl trivial (fun i x hx _=>?_) (fun _=>?_)
 ·obtain ⟨y,hy,rfl⟩:=LC hx
  have hsh:=hsh y (List.mem_of_getElem? hy)
  have hn:i5 s.ah.length (bI s.ah k row) (L.take (i+1))=mI (bI s.ah k row) (i5 s.ah.length (bI s.ah k row) (L.take i)) y:=Hz hy
  rw [hn]
  generalize i5 s.ah.length (bI s.ah k row) (L.take i)=z at *
  rw [show ck s.ah k row y.1 ((s.ah.map eI).length:Int) s.ah.length=bI s.ah k row y.1 by rw [em];rfl] at hsh
  unfold mI
  generalize bI s.ah k row y.1=n at *
  refine ⟨rfl,?_⟩
  refine aa (mu:=fun _=>false) ?_
  repeat' (first |refine u1 ?_ |refine u2 ?_ |fail)
  refine aa (mu:=fun _=>false) ?_
  repeat' (first |refine O4 h30 rfl ?_ |refine u1 ?_ |refine u2 ?_ |refine af.call hsh rfl (rT rfl) ?_ |fail)
  by_cases h1:n < z.day
  ·have d1:=decide_eq_true h1
   rw [if_pos (Or.inl h1)]
   repeat' (first |refine u1 ?_ |refine u2 ?_ |fail)
   exact ⟨_,aj.to (l:=[]) 3 rfl trivial (Nat.le_refl _) rfl rfl⟩
  ·have d1:=decide_eq_false h1
   by_cases h2:n=z.day
   ·have d2:=decide_eq_true h2
    by_cases h3:y.1.first < z.t.first
    ·have d3:=decide_eq_true h3
     rw [if_pos (Or.inr ⟨h2,h3⟩)]
     repeat' (first |refine u1 ?_ |refine u2 ?_ |fail)
     exact ⟨_,aj.to (l:=[]) 3 rfl trivial (Nat.le_refl _) rfl rfl⟩
    ·have d3:=decide_eq_false h3
     rw [if_neg (fun h=>h.elim h1 fun h=>h3 h.2)]
     repeat' (first |refine u1 ?_ |refine u2 ?_ |fail)
     exact ⟨_,aj.to (l:=[]) 3 rfl trivial (Nat.le_refl _) rfl rfl⟩
   ·have d2:=decide_eq_false h2
    rw [if_neg (fun h=>h.elim h1 fun h=>h2 h.1)]
    repeat' (first |refine u1 ?_ |refine u2 ?_ |fail)
    exact ⟨_,aj.to (l:=[]) 3 rfl trivial (Nat.le_refl _) rfl rfl⟩
 ·rw [List.take_of_length_le (by simp)]
  repeat' (first |refine u1 ?_ |fail)
  refine aa (mu:=fun _=>false) ?_
  repeat' (first |refine u1 ?_ |with_reducible refine RM.IY rfl ?_ |refine u2 ?_ |fail)
  exact ⟨[_,_,_],⟨Fz.deep rfl,Fz.deep rfl,Fz.deep rfl,trivial⟩,rfl⟩
end Go.Proofs.YtgdbfbalchdmcaaGreat.St
open Go Go.RM
namespace Go.Proofs.YtgdbfbalchdmcaaGreat.St
set_option maxRecDepth 100000
set_option maxHeartbeats 4000000
def ve (s:aC) (c:Count):Int :=
 if bH 0 ((s.kinds.length:Int) - 1) [c.kind] then 4
 else if bH 0 (s.ah.length:Int) [c.day] || bH 0 600 [c.cE.lo,c.cE.hi] then 7
 else if decide (c.cE.hi < c.cE.lo) then 2 else 0
def FA (s:aC) (l:List Count) (i:Nat):Int:=match l[i]? with|some c=>ve s c|none=>0
def gv (s:aC) (l:List Count):Int :=
 if (iD s).2.2 ≠ 0 then (iD s).2.2 else if 8 < (l.length:Int) then 3 else (bq l.length (FA s l)).2
theorem FB (s:aC) (i:Int) (c:Count) (hk:s.kinds.length≤maxLen) (one:Bool):af TT TB one (.fn 113 [] [.pt (aF s) 0]) [ak i,.ag (aM c)] (ak (ve s c)):=by
 unfold maxLen at hk
 unfold ve
 have e1:((s.kinds.map bD).length:Int)=s.kinds.length:=by simp
 have e2:((s.ah.map eI).length:Int)=s.ah.length:=by simp
 refine af.body (fn:=Tryz.f113) rfl rfl rfl rfl ?_
 refine aa (mu:=fun _=>false) ?_
 repeat' (first |refine u1 ?_ |refine u2 ?_ |refine af.call (jo one _ _ _ _ rfl (Nat.le_of_ble_eq_true rfl)) rfl rfl ?_ |((with_reducible show cX _ _ _ _ _);refine rU rfl rfl (fun h=>?_) (fun h=>?_)) |((with_reducible show kC _ _ _ _ (.cond _ _ _) _ _);refine RM.e1 rfl ⟨fun h=>?_,fun h=>?_⟩) |fail)
 all_goals refine ⟨[_],⟨Fz.deep rfl,trivial⟩,aJ ?_⟩
 all_goals simp_all [uc,B2]
theorem HG (one:Bool) (s:aC) (h:s.Ok) (l:List Count) (hl:l.length≤maxLen):Pu one 63 [.ag (aF s),.sl (l.map aM) false] (ak (gv s l)):=by
 have hc:=BP s h one
 have c3:=Fp one 113 [] [.pt (aF s) 0] rfl (FA s l) l false hl (fun i hi=>by
  unfold FA
  simp only [List.getElem?_eq_getElem hi]
  exact FB s i _ h.kinds one)
 have el:((l.map aM).length:Int)=l.length:=by simp
 unfold gv
 generalize iD s=c at hc ⊢
 generalize bq l.length (FA s l)=r at c3 ⊢
 by_cases h1:c.2.2=0
 ·rw [h1] at hc
  rw [if_neg (by simpa using h1)]
  by_cases h2:8 < (l.length:Int)
  ·have d2:decide ((8:Int) < ((l.map aM).length:Int))=true:=by rw [el];exact decide_eq_true h2
   rw [if_pos h2]
   refine af.body (fn:=Tryz.f63) rfl rfl rfl rfl ?_
   refine aa (mu:=fun _=>false) ?_
   repeat' (first |refine u1 ?_ |refine u2 ?_ |refine af.call hc rfl rfl ?_ |fail)
   exact ⟨[_],⟨Fz.deep rfl,trivial⟩,rfl⟩
  ·have d2:decide ((8:Int) < ((l.map aM).length:Int))=false:=by rw [el];exact decide_eq_false h2
   rw [if_neg h2]
   refine af.body (fn:=Tryz.f63) rfl rfl rfl rfl ?_
   refine aa (mu:=fun _=>false) ?_
   repeat' (first |refine u1 ?_ |refine u2 ?_ |refine af.call hc rfl rfl ?_ |refine af.call c3 rfl rfl ?_ |fail)
   exact ⟨[_],⟨Fz.deep rfl,trivial⟩,rfl⟩
 ·have d1:(!decide (c.2.2=0))=true:=by simpa using h1
  rw [if_pos h1]
  refine af.body (fn:=Tryz.f63) rfl rfl rfl rfl ?_
  refine aa (mu:=fun _=>false) ?_
  repeat' (first |refine u1 ?_ |refine u2 ?_ |refine af.call hc rfl rfl ?_ |fail)
  exact ⟨[_],⟨Fz.deep rfl,trivial⟩,rfl⟩
theorem AL {s:aC} {l:List Count} (h:gv s l=0):Good s∧l.length≤8∧∀ c ∈ l,(0≤c.kind∧c.kind < s.kinds.length)∧(0≤c.day∧c.day≤s.ah.length)∧(0≤c.cE.lo∧c.cE.lo≤c.cE.hi∧c.cE.hi≤600):=by
 unfold gv at h
 by_cases h1:(iD s).2.2=0
 ·rw [if_neg (by simpa using h1)] at h
  by_cases h2:8 < (l.length:Int)
  ·rw [if_pos h2] at h;exact absurd h (by decide)
  ·rw [if_neg h2] at h
   refine ⟨qF h1,by omega,fun c hc=>?_⟩
   obtain ⟨i,hi,rfl⟩:=List.getElem_of_mem hc
   have:=fV h i hi
   unfold FA at this
   simp only [List.getElem?_eq_getElem hi] at this
   unfold ve at this
   split at this
   ·exact absurd this (by decide)
   ·rename_i h4
    split at this
    ·exact absurd this (by decide)
    ·rename_i h7
     split at this
     ·exact absurd this (by decide)
     ·rename_i h3
      simp only [Bool.not_eq_true,Bool.or_eq_false_iff,ic,decide_eq_false_iff_not,List.mem_cons,List.not_mem_nil,or_false,forall_eq_or_imp,forall_eq] at h4 h7 h3
      omega
 ·rw [if_pos h1] at h;exact absurd h h1
def bY (l:List Count) (i:Nat):List Count:=l.filter (fun c=>decide (c.kind=(i:Int)))
theorem FC {s:aC} {l:List Count} (h:gv s l=0) {i:Nat} (hi:i < s.kinds.length):qI s s.kinds[i] (av i s.ai) (bY l i):=by
 obtain ⟨hg,hl,hc⟩:=AL h
 refine ⟨hg,hg.kinds _ (List.getElem_mem hi),hg.row i,fun c hx=>?_,?_⟩
 ·exact (hc c ((List.mem_filter.1 hx).1)).2.1
 ·have:=List.length_filter_le (fun c=>decide (c.kind=(i:Int))) l
  unfold bY
  omega
theorem J2 (one:Bool) (s:aC) (h:s.Ok) (l:List Count) (h0:gv s l=0) (i:Nat) (hi:i < s.kinds.length) :
  Pu one 44 [.ag (aF s),.sl (l.map aM) false,ak i] (.tp [.ag (aL s s.kinds[i] (av i s.ai) (.sl ((bY l i).map aM) false)),ak 0]):=by
 obtain ⟨hg,hl,hc⟩:=AL h0
 have hh:=FC h0 hi
 have h30:=hh.row.len
 have h8:=lW hg.sizes
 have hcn:=HG one s h l (by unfold maxLen;omega)
 rw [h0] at hcn
 have ek:((s.kinds.map bD).length:Int)=s.kinds.length:=by simp
 have hop:=BV one s l false i hi (fun c hc=>by have:=hg.ai c hc;omega) h8.2.2 (by omega)
 have hou:=jo one 0 (((s.kinds.map bD).length:Int) - 1) [eI i] true rfl (Nat.le_of_ble_eq_true rfl)
 rw [show bH 0 (((s.kinds.map bD).length:Int) - 1) ([eI (i:Int)].map I3)=false by rw [ek];show bH 0 ((s.kinds.length:Int) - 1) [(i:Int)]=false;rw [bp,bQ.2 (by omega)];rfl] at hou
 refine af.body (fn:=Tryz.f44) rfl rfl rfl (rT rfl) ?_
 refine aa (mu:=fun _=>false) ?_
 repeat' (first |refine ⟨_,_,rfl,rfl,l7,eW h30,Nat.le_of_ble_eq_true rfl,?_⟩ |refine u1 ?_ |refine u2 ?_ |refine af.call hcn rfl rfl ?_ |refine af.call hou rfl rfl ?_ |refine af.call hop rfl rfl ?_ |fail)
 rw [AK h30 (by rfl)]
 repeat' (first |(refine ⟨_,_,rfl,(by rw [eW h30];exact Nat.le_refl _),?_⟩) |fail)
 rw [nZ h30]
 exact ⟨[_,_],⟨Fz.deep (mG (c:=.sl _ false) rfl),Fz.deep rfl,trivial⟩,rfl⟩
end Go.Proofs.YtgdbfbalchdmcaaGreat.St
open Go Go.RM
namespace Go.Proofs.YtgdbfbalchdmcaaGreat.St
set_option maxRecDepth 100000
set_option maxHeartbeats 4000000
def D5 (lv:List Int) (c:Count):Bool:=gY (lv.getD c.day.toNat 0) c.cE.lo c.cE.hi
end Go.Proofs.YtgdbfbalchdmcaaGreat.St
open Go Go.RM
namespace Go.Proofs.YtgdbfbalchdmcaaGreat.St
set_option maxRecDepth 100000
set_option maxHeartbeats 4000000
def Nd (ah:List Int) (k:Kind) (row:List Int) (l:List Count) (i:Nat) (t:aN):Bool:=l.all fun c=>!decide (c.kind=(i:Int)) || D5 (lvl ah k row t) c
def Cb (k:Kind) (q:Nat):aN:=⟨k.first.lo+(q / ax k.ay / ax k.aR:Nat),k.aR.lo+(q / ax k.ay % ax k.aR:Nat),k.ay.lo+(q % ax k.ay:Nat)⟩
def Gq (ah:List Int) (k:Kind) (row:List Int) (l:List Count) (i:Nat) (n:Nat):List aN:=((List.range n).map (Cb k)).filter (Nd ah k row l i)
def nh (ah:List Int) (k:Kind) (row:List Int) (l:List Count) (i:Nat):List aN:=Gq ah k row l i (ax k.first * ax k.aR * ax k.ay)
theorem AM (k:Kind) {a m p:Nat} (hm:m < ax k.aR) (hp:p < ax k.ay):Cb k ((a * ax k.aR+m) * ax k.ay+p)=⟨k.first.lo+a,k.aR.lo+m,k.ay.lo+p⟩:=by
 unfold Cb
 rw [Nat.mul_comm _ (ax k.ay),Nat.mul_add_div (by omega),Nat.div_eq_of_lt hp,Nat.mul_add_mod,Nat.mod_eq_of_lt hp,Nat.add_zero,Nat.mul_comm a,Nat.mul_add_div (by omega),Nat.div_eq_of_lt hm,Nat.mul_add_mod,Nat.mod_eq_of_lt hm,Nat.add_zero]
end Go.Proofs.YtgdbfbalchdmcaaGreat.St
