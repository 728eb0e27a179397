/-
  Contracts of the program's functions and of the document's. Lemmas alone; their conditions stand in them.
-/
import Derived.Test.YtichbhmnhkegiaaGreatK14
import Derived.Test.YtichbhmnhkegiaaGreatK15
import Derived.Test.YtichbhmnhkegiaaGreatK17
import Derived.Test.YtichbhmnhkegiaaGreatK20
import Derived.Test.YtichbhmnhkegiaaGreatK21
open Go Go.RM Go.AirLaw
namespace Go.Proofs.YtichbhmnhkegiaaGreat
set_option maxRecDepth 100000
set_option maxHeartbeats 4000000
theorem I5 {P:Program} {t:TypeId} {x y:Operand} {m n:Int} (hm:-4000000000000000000≤m∧m≤4000000000000000000) (h2:1≤n):fe P .quo t x y (.int .i64 m) (.int .i64 n)=some (.int .i64 (m.tdiv n),.none):=by
 have hn:n ≠ 0:=by omega
 have h:fe P .quo t x y (.int .i64 m) (.int .i64 n)=some (.int .i64 (IntKind.i64.wrap (m.tdiv n)),.none):=by
  show cK P .quo t x y (.int .i64 m) (.int .i64 n)=_
  unfold cK
  simp only [flat,bl,Bool.and_self,cond_true]
  have:(do eqGuard BinOp.quo t x y (Value.int IntKind.i64 m) (Value.int IntKind.i64 n);binOp BinOp.quo t (Value.int IntKind.i64 m) (Value.int IntKind.i64 n):Sem Value)=pure (.int .i64 (IntKind.i64.wrap (m.tdiv n))):=by
   show Op.intDiv .quo .i64 m n=_
   unfold Op.intDiv
   rw [if_neg hn]
  rw [this]
  rfl
 have h1:(m.tdiv n).natAbs=m.natAbs / n.natAbs:=Int.natAbs_tdiv m n
 have h4:=Nat.div_le_self m.natAbs n.natAbs
 rw [h,IntWalk.i64_in _ (by omega)]
section
variable {own : Bool} {fr : Nat → AV} {hp : List AB} {K : AV → List AB → Prop} {x y : Operand} {m n : Int} {a b : AV} {t : TypeId}
theorem KL (hx:aM fr x=LM n) (h:-32768≤n∧n≤32767) (k:K (ai n) hp):RM.wpOp TT own (.convert 88 3 x) fr hp K:=by
 show tG TT 88 3 (aM fr x) hp K
 rw [hx]
 have:cg (az TT.P (convert 88 3 (.int .i16 n)))=some (.int .i64 (IntKind.i64.wrap n),.none):=rfl
 rw [IntWalk.i64_in n (by omega)] at this
 exact ⟨_,rfl,_,this,rfl,k⟩
theorem MN (ha:a=ai m) (hb:b=ai n) (h:(-4000000000000000000≤m∧m≤4000000000000000000)∧1≤n) (k:K (ai (m.tdiv n)) hp):cI TT .quo t x y a b hp K:=by
 subst ha hb
 exact ⟨_,I5 h.1 h.2,rfl,k⟩
end
theorem I6 (vx vy t a b c d e f:Int) (hx:-32768≤vx∧vx≤32767) (hy:-32768≤vy∧vy≤32767) (ht:0≤t∧t≤255) (h0:0≤a∧a≤65535) (h1:0≤b∧b≤65535) (h2:0≤c∧c≤65535) (h3:0≤d∧d≤65535) (h4:0≤e∧e≤65535) (h5:0≤f∧f≤65535) :
  Pu false 10 [.ag [LM vx,LM vy],U8 t,.ag [ob a,ob b,ob c,ob d,ob e,ob f]] (BB true):=by
 have aw:=CR
 have p1:=Gu true (vx.tdiv (1+t)) (vy.tdiv (1+t))
 have p2:=Gu false (vx.tdiv (1+t) * (1+t)) (vy.tdiv (1+t) * (1+t))
 have bx:=Db (b:=1+t) hx
 have bY:=Db (b:=1+t) hy
 have m1:-9223372036854775808≤vx.tdiv (1+t) * (1+t)∧vx.tdiv (1+t) * (1+t)≤9223372036854775807:=by omega
 have m2:-9223372036854775808≤vy.tdiv (1+t) * (1+t)∧vy.tdiv (1+t) * (1+t)≤9223372036854775807:=by omega
 have s1:=qL false ⟨vx.tdiv (1+t) * (1+t),vy.tdiv (1+t) * (1+t)⟩ (1+a % 5000) (1+b % 300)
 have s2:=qL false ⟨vx.tdiv (1+t),vy.tdiv (1+t)⟩ (1+a % 5000) (1+b % 300)
 have s3:=qL false ⟨vx.tdiv (1+t) * (1+t),vy.tdiv (1+t) * (1+t)⟩ (min 5000 (1+a % 5000+c)) (min 300 (1+b % 300+d % 200))
 have s4:=pO false ⟨vx.tdiv (1+t) * (1+t),vy.tdiv (1+t) * (1+t)⟩ (1+e % 200) (f % 32)
 have s5:=pO false ⟨vx.tdiv (1+t),vy.tdiv (1+t)⟩ (1+e % 200) (f % 32)
 have s6:=pO false ⟨vx.tdiv (1+t) * (1+t),vy.tdiv (1+t) * (1+t)⟩ (min 200 (1+e % 200+d % 50)) (f % 32)
 rw [C4 _ _ _ (by dsimp only;omega) (by dsimp only;omega) (by omega) (by omega)] at s1 s2 s3
 rw [zl _ _ _ (by dsimp only;omega) (by dsimp only;omega) (by omega) (by omega)] at s4 s5 s6
 have i1:=GB (k:=1+t) (x:=vx.tdiv (1+t)) (y:=vy.tdiv (1+t)) (c:=1+a % 5000) (r:=1+b % 300) (by omega) (by omega) (by omega)
 have i2:=GC (x:=vx.tdiv (1+t) * (1+t)) (y:=vy.tdiv (1+t) * (1+t)) (c:=1+a % 5000) (r:=1+b % 300) (c':=min 5000 (1+a % 5000+c)) (r':=min 300 (1+b % 300+d % 200)) (by omega) (by omega) (by omega) (by omega)
 have i3:=Ek (k:=1+t) (x:=vx.tdiv (1+t)) (y:=vy.tdiv (1+t)) (l:=1+e % 200) (w:=f % 32) (by omega)
 have i4:=Em (x:=vx.tdiv (1+t) * (1+t)) (y:=vy.tdiv (1+t) * (1+t)) (l:=1+e % 200) (l':=min 200 (1+e % 200+d % 50)) (w:=f % 32) (by omega) (by omega)
 dsimp only at s1 s2 s3 s4 s5 s6
 generalize bz (vx.tdiv (1+t) * (1+t)) (vy.tdiv (1+t) * (1+t)) (1+a % 5000) (1+b % 300)=A at *
 generalize bz (vx.tdiv (1+t)) (vy.tdiv (1+t)) (1+a % 5000) (1+b % 300)=B at *
 generalize bz (vx.tdiv (1+t) * (1+t)) (vy.tdiv (1+t) * (1+t)) (min 5000 (1+a % 5000+c)) (min 300 (1+b % 300+d % 200))=C at *
 generalize aY (vx.tdiv (1+t) * (1+t)) (vy.tdiv (1+t) * (1+t)) (1+e % 200) (f % 32)=P at *
 generalize aY (vx.tdiv (1+t)) (vy.tdiv (1+t)) (1+e % 200) (f % 32)=Q at *
 generalize aY (vx.tdiv (1+t) * (1+t)) (vy.tdiv (1+t) * (1+t)) (min 200 (1+e % 200+d % 50)) (f % 32)=R at *
 have d0:decide ((0:Int)=0)=true:=rfl
 refine af.body (fn:=Tryz.f10) rfl rfl rfl rfl ?_
 refine aa (mu:=fun _=>false) ?_
 repeat' (first |((with_reducible show RM.wpOp _ _ (.convert _ _ _) _ _ _);refine Nn rfl ht ?_) |((with_reducible show RM.wpOp _ _ (.convert _ _ _) _ _ _);refine KL rfl hx ?_) |((with_reducible show RM.wpOp _ _ (.convert _ _ _) _ _ _);refine KL rfl hy ?_) |((with_reducible show RM.wpOp _ _ (.convert _ _ _) _ _ _);refine qc rfl h0 ?_) |((with_reducible show RM.wpOp _ _ (.convert _ _ _) _ _ _);refine qc rfl h1 ?_) |((with_reducible show RM.wpOp _ _ (.convert _ _ _) _ _ _);refine qc rfl h2 ?_) |((with_reducible show RM.wpOp _ _ (.convert _ _ _) _ _ _);refine qc rfl h3 ?_) |((with_reducible show RM.wpOp _ _ (.convert _ _ _) _ _ _);refine qc rfl h4 ?_) |((with_reducible show RM.wpOp _ _ (.convert _ _ _) _ _ _);refine qc rfl h5 ?_) |((with_reducible show cI _ _ _ _ _ _ _ _ _);refine MN rfl rfl (by omega) ?_) |(refine RM.b3 rfl rfl m1 ?_) |(refine RM.b3 rfl rfl m2 ?_) |refine u1 ?_ |refine u2 ?_ |fail)
 cases A with
 | true =>
  obtain rfl:=i1 rfl
  obtain rfl:=i2 rfl
  cases P with
  | true =>
   obtain rfl:=i3 rfl
   obtain rfl:=i4 rfl
   repeat' (first |refine u1 ?_ |refine u2 ?_ |fail)
   exact ⟨[_],⟨Fz.deep rfl,trivial⟩,rfl⟩
  | false =>
   repeat' (first |refine u1 ?_ |refine u2 ?_ |fail)
   exact ⟨[_],⟨Fz.deep rfl,trivial⟩,rfl⟩
 | false =>
  cases P with
  | true =>
   obtain rfl:=i3 rfl
   obtain rfl:=i4 rfl
   repeat' (first |refine u1 ?_ |refine u2 ?_ |fail)
   exact ⟨[_],⟨Fz.deep rfl,trivial⟩,rfl⟩
  | false =>
   repeat' (first |refine u1 ?_ |refine u2 ?_ |fail)
   exact ⟨[_],⟨Fz.deep rfl,trivial⟩,rfl⟩
end Go.Proofs.YtichbhmnhkegiaaGreat
open Go Go.RM Go.AirLaw
namespace Go.Proofs.YtichbhmnhkegiaaGreat
set_option maxRecDepth 100000
theorem GD {s:au} {n:aA} {rs:List av}:(aD s n rs).2=0 ↔ (aD s n []).2=0∧rs.length≤8∧∀ r ∈ rs,fN r.pos 30000=true:=by
 have hn:¬ 0≤lY mL ([]:List av):=by decide
 have h1:(0≤lY mL rs) ↔ ¬ ∀ r ∈ rs,fN r.pos 30000=true:=by
  have h:=sD mL rs
  rw [←decide_eq_true_eq (p:=0≤lY mL rs),h,List.any_eq_true]
  constructor
  ·rintro ⟨r,hr,hf⟩ hall
   rw [AN,hall r hr] at hf
   cases hf
  ·intro hall
   refine Classical.byContradiction fun hno=>hall fun r hr=>?_
   cases hw:fN r.pos 30000 with
   | true=>rfl
   | false=>exact (hno ⟨r,hr,by rw [AN,hw];rfl⟩).elim
 unfold aD
 by_cases e0:(jV s).2.2 ≠ 0
 ·rw [if_pos e0,if_pos e0]
  exact ⟨fun h=>absurd h e0,fun h=>absurd h.1 e0⟩
 rw [if_neg e0,if_neg e0]
 by_cases e1:aX 0 ((s.ak.length:Int) - 1) [n.bK]=true
 ·rw [if_pos e1,if_pos e1]
  exact ⟨fun h=>absurd h (by decide),fun h=>absurd h.1 (by decide)⟩
 rw [if_neg e1,if_neg e1]
 by_cases e2:(aX (-30000) 30000 [n.pos.x,n.pos.y] || aX 0 31 [n.dc] || aX 1 32 [n.bX])=true
 ·rw [if_pos e2,if_pos e2]
  exact ⟨fun h=>absurd h (by decide),fun h=>absurd h.1 (by decide)⟩
 rw [if_neg e2,if_neg e2,if_neg (show ¬ 8 < ([]:List av).length by decide),if_neg hn]
 by_cases e3:8 < rs.length
 ·rw [if_pos e3]
  exact ⟨fun h=>absurd h (by decide),fun h=>absurd h.2.1 (by omega)⟩
 rw [if_neg e3]
 by_cases e4:0≤lY mL rs
 ·rw [if_pos e4]
  exact ⟨fun h=>absurd (show (7:Int)=0 from h) (by decide),fun h=>absurd h.2.2 (h1.1 e4)⟩
 rw [if_neg e4]
 refine ⟨fun _=>⟨rfl,by omega,?_⟩,fun _=>rfl⟩
 exact Classical.byContradiction fun h=>e4 (h1.2 h)
theorem Dc {p:Pt} (hx:-30000≤p.x∧p.x≤30000) (hy:-30000≤p.y∧p.y≤30000):fN p 30000=true:=by
 unfold fN
 rw [Bool.and_eq_true,fF,fF]
 exact ⟨hx,hy⟩
def qd (s:au) (n:aA) (rs:List av) (aB:Bool):Int:=if (aD s n rs).2 ≠ 0 then (aD s n rs).2 else if aJ s n rs aB=[] then 9 else 0
theorem zn {s:au} {n:aA} {rs:List av} {aB:Bool}:qd s n rs aB=0 ↔ (aD s n rs).2=0∧aJ s n rs aB ≠ []:=by
 unfold qd
 by_cases h0:(aD s n rs).2 ≠ 0
 ·rw [if_pos h0];exact ⟨fun h=>absurd h h0,fun h=>absurd h.1 h0⟩
 ·rw [if_neg h0]
  by_cases h1:aJ s n rs aB=[]
  ·rw [if_pos h1];exact ⟨fun h=>absurd h (by decide),fun h=>absurd h1 h.2⟩
  ·rw [if_neg h1];exact ⟨fun _=>⟨by omega,h1⟩,fun _=>rfl⟩
theorem I7 (s:au) (n:aA) (rs:List av):(iR s n rs).2.2=qd s n rs false∧(qd s n rs false=0→iR s n rs=((aH Prod.fst (aJ s n rs false)).1,(aH Prod.snd (aJ s n rs false)).1,0)):=by
 unfold iR qd
 rw [←mQ]
 by_cases h0:(aD s n rs).2 ≠ 0
 ·rw [if_pos h0,if_pos h0];exact ⟨rfl,fun h=>absurd h h0⟩
 ·rw [if_neg h0,if_neg h0]
  by_cases h1:aJ s n rs false=[]
  ·rw [if_pos h1,h1,mU];exact ⟨rfl,fun h=>absurd h (by decide)⟩
  ·rw [if_neg h1,dI _ h1,if_neg (by simp)];exact ⟨rfl,fun _=>rfl⟩
theorem I8 (s:au) (n:aA) (rs:List av):(fy s n rs).2.2=qd s n rs true∧(qd s n rs true=0→fy s n rs=((aH Prod.fst (aJ s n rs true)).1,aW (aJ s n rs true) 32,0))∧(qd s n rs true ≠ 0→(fy s n rs).2.1=[]):=by
 unfold fy qd
 rw [←wV]
 by_cases h0:(aD s n rs).2 ≠ 0
 ·rw [if_pos h0,if_pos h0];exact ⟨rfl,fun h=>absurd h h0,fun _=>rfl⟩
 ·rw [if_neg h0,if_neg h0]
  by_cases h1:aJ s n rs true=[]
  ·rw [if_pos h1,h1,mU];exact ⟨rfl,fun h=>absurd h (by decide),fun _=>rfl⟩
  ·rw [if_neg h1,dI _ h1,if_neg (by simp)];exact ⟨rfl,fun _=>rfl,fun h=>absurd rfl h⟩
theorem I9 (s:au) (n:aA) (rs:List av):(qR s n rs).2.2=qd s n rs false∧(qd s n rs false=0→qR s n rs=((aH bE (aJ s n rs false)).1.lo,(aH bE (aJ s n rs false)).1.hi,0)):=by
 unfold qR qd Fg
 rw [←mQ]
 by_cases h0:(aD s n rs).2 ≠ 0
 ·rw [if_pos h0,if_pos h0];exact ⟨rfl,fun h=>absurd h h0⟩
 ·rw [if_neg h0,if_neg h0]
  by_cases h1:aJ s n rs false=[]
  ·rw [if_pos h1,h1,mU];exact ⟨rfl,fun h=>absurd h (by decide)⟩
  ·rw [if_neg h1,dI _ h1,if_neg (by simp)];exact ⟨rfl,fun _=>rfl⟩
theorem GF {L:List (Int × Int)} {w:Int}:w ∈ aW L 32 ↔ (0≤w∧w≤31)∧∃ x ∈ L,x.2=w:=by
 unfold aW
 rw [List.mem_map]
 have hc:∀ k:Nat,decide (0 < ir L k)=true ↔ ∃ x ∈ L,x.2=(k:Int):=by
  intro k
  rw [decide_eq_true_eq]
  unfold ir
  rw [Int.natCast_pos,List.length_pos_iff_exists_mem]
  exact exists_congr fun x=>by rw [List.mem_filter,beq_iff_eq]
 constructor
 ·rintro ⟨k,hk,rfl⟩
  rw [List.mem_filter,List.mem_range,hc] at hk
  exact ⟨by simp;omega,hk.2⟩
 ·rintro ⟨h1,h2⟩
  refine ⟨w.toNat,?_,by simp;omega⟩
  rw [List.mem_filter,List.mem_range,hc,Int.toNat_of_nonneg h1.1]
  exact ⟨by omega,h2⟩
theorem GG {c l:Nat} (h:nY c l=2):c=l:=by
 unfold nY at h
 split at h
 ·cases h
 ·split at h
  ·assumption
  ·cases h
theorem Dd {c l:Nat} (h:nY c l=0):c=0:=by
 unfold nY at h
 split at h
 ·assumption
 ·split at h <;> cases h
theorem Km (c l:Nat):nY c l=2∨nY c l=0∨nY c l=1:=by
 unfold nY
 split
 ·exact .inr (.inl rfl)
 ·split
  ·exact .inl rfl
  ·exact .inr (.inr rfl)
theorem Kn {p:Int × Int→Bool} {L:List (Int × Int)} (h:k6 p L=L.length):∀ x ∈ L,p x=true:=by
 unfold k6 at h
 exact List.length_filter_eq_length_iff.1 h
theorem Ja {p:Int × Int→Bool} {L:List (Int × Int)} (h:k6 p L=0):∀ x ∈ L,p x=false:=by
 unfold k6 at h
 intro x hx
 have:=List.length_eq_zero_iff.1 h
 rw [List.filter_eq_nil_iff] at this
 simpa using this x hx
theorem iV {s:au} {n:aA} {rs:List av} {aB:Bool} {x:Int × Int}:x ∈ aJ s n rs aB ↔ x ∈ oa s n aB∧∀ r ∈ rs,sQ aB n x r=true:=by
 unfold aJ
 rw [List.mem_filter,List.all_eq_true]
theorem A9 {p:Nat→Bool} {m:Nat}:aO p 0 m=[] ↔ ∀ i,i < m→p i=false:=by
 constructor
 ·intro h i hi
  cases hp:p i with
  | false=>rfl
  | true =>
   have:(i:Int) ∈ aO p 0 m:=pN.2 ⟨i,rfl,Nat.zero_le _,by omega,hp⟩
   rw [h] at this
   cases this
 ·intro h
  cases hl:aO p 0 m with
  | nil=>rfl
  | cons a l =>
   have hm:a ∈ aO p 0 m:=by rw [hl];exact List.mem_cons_self
   obtain ⟨i,_,_,hi,hp⟩:=pN.1 hm
   rw [h i (by omega)] at hp
   cases hp
theorem zq {s:au} {n:aA} {rs:List av} {aB:Bool} {x:Int × Int} (h:x ∈ aJ s n rs aB):aO (bL aB n rs x) 0 rs.length=[]:=by
 rw [A9]
 intro i hi
 unfold bL
 rw [List.getElem?_eq_getElem hi]
 simp [(iV.1 h).2 _ (List.getElem_mem hi)]
theorem uI {x:List Int} (h:¬ gv [] x):x=[]:=by
 cases x with
 | nil=>rfl
 | cons a l=>exact (h (.inl (by simp))).elim
theorem En {s:au} {n:aA} {rs:List av} {tl th:Int × Int} (hb:uF s n rs tl th) (h0:aJ s n rs false ≠ []) (h1:aJ s n rs true ≠ []):gJ n rs tl th=[]:=by
 obtain ⟨x,hx⟩:=List.exists_mem_of_ne_nil _ h0
 obtain ⟨y,hy⟩:=List.exists_mem_of_ne_nil _ h1
 have e1:aO (bL false n rs tl) 0 rs.length=[]:=uI (by rw [←zq hx];exact hb.JX x (iV.1 hx).1)
 have e2:aO (bL true n rs th) 0 rs.length=[]:=uI (by rw [←zq hy];exact hb.hmin y (iV.1 hy).1)
 rw [A9] at e1 e2
 unfold gJ
 rw [A9]
 intro i hi
 rw [e1 i hi,e2 i hi];rfl
theorem Eo {s:au} {n:aA} {x:iA} (h:(aD s n []).2=0):(aD s n (C7 s n x)).2=0:=by
 rw [GD]
 refine ⟨h,?_,fun r hr=>?_⟩
 ·have:=xd s n x (zm x)
  show (gp s n x (zm x)).length≤8
  rw [this]
  exact Nat.min_le_left _ _
 ·obtain ⟨j,_,rfl⟩:=List.mem_map.1 hr
  have hb:=xb n.pos (x.taken.getD (3 * j) 0) (x.taken.getD (3 * j+1) 0)
  exact Dc hb.1 hb.2
theorem xm {s:au} {n:aA} {rs:List av} (ho:jW s n rs) (x:iA) (aB:Bool):qV s n x aB ∈ aJ s n (C7 s n x) aB:=by
 rw [iV]
 refine ⟨xe ho x aB,fun r hr=>?_⟩
 obtain ⟨j,_,rfl⟩:=List.mem_map.1 hr
 unfold sQ C6
 dsimp only
 cases hh:(A7 x (3 * j) == aB) with
 | false=>rfl
 | true =>
  rw [beq_iff_eq] at hh
  rw [hh]
  simp
end Go.Proofs.YtichbhmnhkegiaaGreat
open Go Go.RM Go.AirLaw
namespace Go.Proofs.YtichbhmnhkegiaaGreat
set_option maxRecDepth 100000
set_option maxHeartbeats 4000000
section
variable {own : Bool} {fr : Nat → AV} {hp : List AB} {K : AV → List AB → Prop} {x : Operand} {n : Int}
theorem Jb (hx:aM fr x=ai n) (h:0≤n∧n≤65535) (k:K (ob n) hp):RM.wpOp TT own (.convert 3 67 x) fr hp K:=by
 show tG TT 3 67 (aM fr x) hp K
 rw [hx]
 have:cg (az TT.P (convert 3 67 (.int .i64 n)))=some (.int .u16 (IntKind.u16.wrap n),.none):=rfl
 have h5:IntKind.u16.wrap n=n:=by
  show n % 65536=n
  omega
 rw [h5] at this
 exact ⟨_,rfl,_,this,rfl,k⟩
end
theorem pX {l:List Int} (h:∀ y ∈ l,0≤y∧y≤65535) (n:Nat):0≤kV l n∧kV l n≤65535:=by
 unfold kV
 split
 ·omega
 ·rename_i h0
  have hl0:0 < l.length:=List.length_pos_iff.2 h0
  have hlt:n % l.length < l.length:=Nat.mod_lt _ hl0
  rw [List.getD_eq_getElem?_getD,List.getElem?_eq_getElem hlt]
  exact h _ (List.getElem_mem hlt)
theorem De {s:au} {n:aA} {rs:List av} {p:Pt} {aB:Bool} {t:Int × Int} (h0:(aD s n rs).2=0) (hp:fN p 30000=true) (ht:t ∈ aJ s n rs aB) :
  ∃ k,iy s n rs p aB=(k,0)∧(k=2→jn n p t aB=true)∧(k=0→jn n p t aB=false)∧(k=2∨k=0∨k=1):=by
 rw [za h0 hp,if_neg (List.ne_nil_of_mem ht)]
 refine ⟨_,rfl,fun h=>Kn (GG h) t ht,fun h=>Ja (Dd h) t ht,Km _ _⟩
theorem GH (s:au) (h:s.Ok) (n:aA) (x:iA) (f:Bool) (h0:(aD s n []).2 ≠ 0):Pu false 8 [.ag (ay s),.ag (aC n),.ag (nZ x f)] (BB true):=by
 have aw:=CR
 have c1:=IV false s h n [] false (by decide)
 have c2:=Fh false s h n [] false (by decide)
 have e1:=(I9 s n []).1
 have e2:qd s n [] false=(aD s n []).2:=by unfold qd;rw [if_pos h0]
 rw [e2] at e1
 rw [decide_eq_false h0] at c1
 rw [e1] at c2
 generalize qR s n []=z at *
 generalize (aD s n []).2=e at *
 have d1:(!decide (e=0))=true:=by rw [decide_eq_false h0];rfl
 refine af.body (fn:=Tryz.f8) rfl rfl rfl rfl ?_
 refine aa (mu:=fun _=>false) ?_
 repeat' (first |((with_reducible show aP _ _ _ _ _ _ _ _);refine af.DM c1 rfl (s7.three (Fz.deep rfl) (Fz.deep rfl) Fz.nil) (dY.fl _) ?_) |((with_reducible show aP _ _ _ _ _ _ _ _);refine af.DM c2 rfl (s7.three (Fz.deep rfl) (Fz.deep rfl) Fz.nil) (KF _ _ _) ?_) |refine u1 ?_ |refine u2 ?_ |fail)
 exact ⟨[_],⟨Fz.deep rfl,trivial⟩,rfl⟩
theorem Jc (s:au) (h:s.Ok) (n:aA) (x:iA) (hx:x.Ok) (f:Bool) (h0:(aD s n []).2=0):Pu false 8 [.ag (ay s),.ag (aC n),.ag (nZ x f)] (BB true):=by
 have aw:=CR
 have ho:=cc h0
 have c1:=IV false s h n [] false (by decide)
 rw [decide_eq_true h0] at c1
 have q1:=LD true ho x hx f
 have q2:=C5 true ho x hx f
 have q3:=Fs true ho x hx f
 have hl0:=Eo (x:=x) h0
 have ht:=xm ho x false
 have hu:=xm ho x true
 rw [show qV s n x false=l7 s n x from rfl] at ht
 rw [show qV s n x true=oY s n x from rfl] at hu
 have hp:=xb n.pos (kV x.taken 3) (kV x.taken 7)
 have hnx:=ho.x
 have hny:=ho.y
 have s1:=IW true n.pos (kV x.taken 3) (kV x.taken 7) (by omega) (by omega) (pX hx.t 3) (pX hx.t 7)
 have t1:=IX true x.taken f 3 hx.len hx.t (by decide)
 have t2:=IX true x.taken f 7 hx.len hx.t (by decide)
 have b1:=pX hx.t 3
 have b2:=pX hx.t 7
 have htb:=ho.lb _ (iV.1 ht).1
 have hub:=ho.hb _ (iV.1 hu).1
 generalize hL:C7 s n x=l at *
 clear hL
 have hol:=cc hl0
 have hlm:l.length≤maxLen:=by have:=hol.JL;unfold maxLen;omega
 have el:qd s n l false=0:=zn.2 ⟨hl0,List.ne_nil_of_mem ht⟩
 have eh:qd s n l true=0:=zn.2 ⟨hl0,List.ne_nil_of_mem hu⟩
 have r1:=AE false s h n l false hlm
 have r2:=AG false s h n l false hlm
 have r3:=Fh false s h n l false hlm
 rw [(I7 s n l).2 el] at r1
 rw [(I8 s n l).2.1 eh] at r2
 rw [(I9 s n l).2 el] at r3
 obtain ⟨tl,th,hb⟩:=zk hol
 have r4:=AZ s h n l false hl0 tl th hb
 rw [En hb (List.ne_nil_of_mem ht) (List.ne_nil_of_mem hu)] at r4
 have v1:=(gS Prod.fst (List.ne_nil_of_mem ht)).2.2 _ ht
 have v2:=(gS Prod.snd (List.ne_nil_of_mem ht)).2.2 _ ht
 have v3:=(gS Prod.fst (List.ne_nil_of_mem hu)).2.2 _ hu
 have v4:=(gS bE (List.ne_nil_of_mem ht)).2.2 _ ht
 have v5:(oY s n x).2 ∈ aW (aJ s n l true) 32:=GF.2 ⟨hub.2,_,hu,rfl⟩
 have v6:=pU (aJ s n l true) 32
 have hwp:fN (mX n.pos (kV x.taken 3) (kV x.taken 7)) 30000=true:=Dc hp.1 hp.2
 have htm:=ht
 have hum:=hu
 generalize mX n.pos (kV x.taken 3) (kV x.taken 7)=p at *
 generalize kV x.taken 3=y1 at *
 generalize kV x.taken 7=y2 at *
 generalize l7 s n x=t at *
 generalize oY s n x=u at *
 have rr:=CL false t (by omega) (by omega)
 rw [show gn t.1 t.2=bE t from rfl] at rr
 have i1:=sY false t.1 (aH Prod.fst (aJ s n l false)).1
 have i2:=sY false t.2 (aH Prod.snd (aJ s n l false)).1
 have i3:=sY false u.1 (aH Prod.fst (aJ s n l true)).1
 have i4:=sY false (bE t) (aH bE (aJ s n l false)).1
 have i5:=Mf false (aW (aJ s n l true) 32) false u.2 (by unfold maxLen;omega)
 rw [decide_eq_true v1.1,decide_eq_true v1.2] at i1
 rw [decide_eq_true v2.1,decide_eq_true v2.2] at i2
 rw [decide_eq_true v3.1,decide_eq_true v3.2] at i3
 rw [decide_eq_true v4.1,decide_eq_true v4.2] at i4
 rw [show ((aW (aJ s n l true) 32).any fun x=>decide (x=u.2))=true from List.any_eq_true.2 ⟨_,v5,decide_eq_true rfl⟩] at i5
 have sp:=oU false (aH bE (aJ s n l false)).1.lo (aH bE (aJ s n l false)).1.hi
 clear v1 v2 v3 v4 v5 v6 hb
 generalize (aH Prod.fst (aJ s n l false)).1=A at *
 generalize (aH Prod.snd (aJ s n l false)).1=B at *
 generalize (aH Prod.fst (aJ s n l true)).1=C at *
 generalize (aH bE (aJ s n l false)).1=D at *
 generalize aW (aJ s n l true) 32=W at *
 refine af.body (fn:=Tryz.f8) rfl rfl rfl rfl ?_
 refine aa (mu:=fun _=>false) ?_
 repeat' (first |((with_reducible show aP _ _ _ _ _ _ _ _);refine af.DM c1 rfl (s7.three (Fz.deep rfl) (Fz.deep rfl) Fz.nil) (dY.fl _) ?_) |((with_reducible show RM.wpOp _ _ (.convert _ _ _) _ _ _);refine Jb rfl b1 ?_) |((with_reducible show RM.wpOp _ _ (.convert _ _ _) _ _ _);refine Jb rfl b2 ?_) |refine u1 ?_ |refine u2 ?_ |fail)
 refine ax.aK (ah.to (l:=[(3,.pt (ay s) 0),(4,.pt (aC n) 0),(10,.sl (l.map aj) false),(11,.ptr 0 0 0),(12,.ptr 1 0 0),(24,.ptr 5 0 0),(25,ai ((0:Nat):Int))]) (hp:=[.cells (eP t) 0 0,.cells (eP u) 0 0,.cells (aG A) 0 0,.cells (aG B) 0 0,.cells (aG C) 0 0,.cells (oG p) 0 0]) 6 rfl ⟨rfl,rfl,rfl,rfl,rfl,rfl,rfl,trivial⟩ (Nat.zero_le _) rfl rfl) ?_
 refine ax.loop (fun i:Nat=>i≤2) (fun i=>⟨aF [(3,.pt (ay s) 0),(4,.pt (aC n) 0),(10,.sl (l.map aj) false),(11,.ptr 0 0 0),(12,.ptr 1 0 0),(24,.ptr 5 0 0),(25,ai (i:Nat))],[.cells (eP t) 0 0,.cells (eP u) 0 0,.cells (aG A) 0 0,.cells (aG B) 0 0,.cells (aG C) 0 0,.cells (oG p) 0 0],aV.none,false,0⟩) (fun i=>2 - i) ?_ 0 (by decide)
 intro i hi
 refine aa (mu:=fun _=>false) ?_
 match i,hi with
 | 0,_ =>
  obtain ⟨k,c1,c2,c3,c4⟩:=De (aB:=false) hl0 hwp htm
  have w1:=vj false s h n l false hlm p false
  rw [c1] at w1
  have w2:=KJ true n p t false (by omega) (by omega) (by first|(rw [if_pos rfl];omega)|(rw [if_neg (by simp)];omega))
  generalize jn n p t false=m at *
  rcases c4 with rfl|rfl|rfl
  ·rw [c2 rfl] at w2
   repeat' (first |refine u1 ?_ |refine u2 ?_ |fail)
   exact ⟨1,by decide,(by dsimp only;omega),ah.to 6 rfl ⟨rfl,rfl,rfl,rfl,rfl,rfl,rfl,trivial⟩ (Nat.zero_le _) rfl rfl⟩
  ·rw [c3 rfl] at w2
   repeat' (first |refine u1 ?_ |refine u2 ?_ |fail)
   exact ⟨1,by decide,(by dsimp only;omega),ah.to 6 rfl ⟨rfl,rfl,rfl,rfl,rfl,rfl,rfl,trivial⟩ (Nat.zero_le _) rfl rfl⟩
  ·cases m with
   | true =>
    repeat' (first |refine u1 ?_ |refine u2 ?_ |fail)
    exact ⟨1,by decide,(by dsimp only;omega),ah.to 6 rfl ⟨rfl,rfl,rfl,rfl,rfl,rfl,rfl,trivial⟩ (Nat.zero_le _) rfl rfl⟩
   | false =>
    repeat' (first |refine u1 ?_ |refine u2 ?_ |fail)
    exact ⟨1,by decide,(by dsimp only;omega),ah.to 6 rfl ⟨rfl,rfl,rfl,rfl,rfl,rfl,rfl,trivial⟩ (Nat.zero_le _) rfl rfl⟩
 | 1,_ =>
  obtain ⟨k,c1,c2,c3,c4⟩:=De (aB:=true) hl0 hwp hum
  have w1:=vj false s h n l false hlm p true
  rw [c1] at w1
  have w2:=KJ true n p u true (by omega) (by omega) (by first|(rw [if_pos rfl];omega)|(rw [if_neg (by simp)];omega))
  generalize jn n p u true=m at *
  rcases c4 with rfl|rfl|rfl
  ·rw [c2 rfl] at w2
   repeat' (first |refine u1 ?_ |refine u2 ?_ |fail)
   exact ⟨2,by decide,(by dsimp only;omega),ah.to 6 rfl ⟨rfl,rfl,rfl,rfl,rfl,rfl,rfl,trivial⟩ (Nat.zero_le _) rfl rfl⟩
  ·rw [c3 rfl] at w2
   repeat' (first |refine u1 ?_ |refine u2 ?_ |fail)
   exact ⟨2,by decide,(by dsimp only;omega),ah.to 6 rfl ⟨rfl,rfl,rfl,rfl,rfl,rfl,rfl,trivial⟩ (Nat.zero_le _) rfl rfl⟩
  ·cases m with
   | true =>
    repeat' (first |refine u1 ?_ |refine u2 ?_ |fail)
    exact ⟨2,by decide,(by dsimp only;omega),ah.to 6 rfl ⟨rfl,rfl,rfl,rfl,rfl,rfl,rfl,trivial⟩ (Nat.zero_le _) rfl rfl⟩
   | false =>
    repeat' (first |refine u1 ?_ |refine u2 ?_ |fail)
    exact ⟨2,by decide,(by dsimp only;omega),ah.to 6 rfl ⟨rfl,rfl,rfl,rfl,rfl,rfl,rfl,trivial⟩ (Nat.zero_le _) rfl rfl⟩
 | 2,_ =>
  repeat' (first |refine u1 ?_ |refine u2 ?_ |fail)
  exact ⟨[_],⟨Fz.deep rfl,trivial⟩,rfl⟩
theorem Ko (s:au) (h:s.Ok) (n:aA) (x:iA) (hx:x.Ok) (f:Bool):Pu false 8 [.ag (ay s),.ag (aC n),.ag (nZ x f)] (BB true):=by
 by_cases h0:(aD s n []).2=0
 ·exact Jc s h n x hx f h0
 ·exact GH s h n x f h0
end Go.Proofs.YtichbhmnhkegiaaGreat
