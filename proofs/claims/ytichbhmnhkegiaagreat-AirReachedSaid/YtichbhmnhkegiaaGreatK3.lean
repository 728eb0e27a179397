/-
  Contracts of the program's functions and of the document's. Lemmas alone; their conditions stand in them.
-/
import Derived.Test.YtichbhmnhkegiaaGreatA3
import Derived.Test.YtichbhmnhkegiaaGreatK2
import Derived.Laws.StructEq
open Go Go.RM Go.AirLaw
namespace Go.Proofs.YtichbhmnhkegiaaGreat
set_option maxRecDepth 100000
set_option maxHeartbeats 4000000
theorem HK {P:Program} {t:TypeId} {x y:Operand} {n:Int}:fe P .shr t x y (.int .i64 n) (.int .u64 1)=some (.int .i64 (n / 2),.none):=by
 have h:fe P .shr t x y (.int .i64 n) (.int .u64 1)=some (.int .i64 (n.fdiv (2 ^ 1)),.none):=rfl
 rw [h,Int.fdiv_eq_ediv_of_nonneg n (by decide)]
 rfl
theorem LV {a b:AV} {t:TypeId} {x y:Operand} {hp:List AB} {K:AV→List AB→Prop} {n:Int} (ha:a=ai n) (hb:b=.fl (.int .u64 1)) (h:K (ai (n / 2)) hp):cI TT .shr t x y a b hp K:=by
 subst ha hb
 exact ⟨_,_,rfl,rfl,.int .i64 (n / 2),HK,rfl,h⟩
theorem kP {x:Int} {b:Int} (h:-b≤x∧x≤b):0≤x * x∧x * x≤b * b:=by
 constructor
 ·rcases Int.le_total 0 x with h0|h0
  ·exact Int.mul_nonneg h0 h0
  ·exact Int.mul_nonneg_of_nonpos_of_nonpos h0 h0
 ·rcases Int.le_total 0 x with h0|h0
  ·exact ep h0 h.2
  ·have:=ep (a:=-x) (b:=b) (by omega) (by omega)
   rwa [Int.neg_mul_neg] at this
theorem wQ (one:Bool) (c r x y:Int) (hc:0≤c∧c≤5000) (hr:0≤r∧r≤300) (hx:-60000≤x∧x≤60000) (hy:-60000≤y∧y≤60000):Pu one 62 [.ag [ai c,ai r],.ag [ai x,ai y]] (BB (bz x y c r)):=by
 have hxx:=kP hx
 have hyy:=kP hy
 unfold bz sq kO AirLaw.leftOf
 generalize hX:x * x=X at *
 generalize hY:y * y=Y at *
 refine af.body (fn:=Tryz.f62) rfl rfl rfl rfl ?_
 refine aa (mu:=fun _=>false) ?_
 repeat' (first |refine u1 ?_ |refine u2 ?_ |fail)
 rw [hX,hY]
 generalize hfar:X+Y=far at *
 have hfb:0≤far∧far≤7200000000:=by omega
 clear hfar hX hY hxx hyy
 generalize hR:iC 13 (r * 100) (r * 100) c far=R
 refine ax.aK (ah.to (l:=[(5,ai far),(6,ai (r * 100)),(7,ai (c)),(8,ai ((r * 100)))]) (hp:=[]) 0 rfl ⟨rfl,rfl,rfl,rfl,trivial⟩ (Nat.zero_le _) rfl rfl) ?_
 refine ax.loop (fun z:Nat × Int × Int=>(z.2.2 < 2 ^ z.1∧iC z.1 z.2.1 (r * 100) z.2.2 far=R)∧(0≤z.2.2∧z.2.2≤5000)∧0≤z.2.1∧z.2.1≤130000) (fun z=>⟨aF [(5,ai far),(6,ai (r * 100)),(7,ai (z.2.2)),(8,ai (z.2.1))],[],aV.none,false,0⟩) (fun z=>z.1) ?_ (13,r * 100,c) ⟨⟨by dsimp only;omega,hR⟩,hc,by dsimp only;omega,by dsimp only;omega⟩
 rintro ⟨n,w,l⟩ ⟨⟨hl2,hh⟩,hl,hw⟩
 dsimp only at hl2 hh hl hw
 have hww:=kP (x:=w) (b:=130000) (by omega)
 show ax _ _ _ _ ⟨aF [(5,ai far),(6,ai (r * 100)),(7,ai (l)),(8,ai (w))],[],aV.none,false,0⟩ _
 refine aa (mu:=fun _=>false) ?_
 by_cases h0:0 < l
 ·have d1:decide ((0:Int) < l)=true:=decide_eq_true h0
  by_cases hwf:w * w≤far
  ·have d2:decide (w * w≤far)=true:=decide_eq_true hwf
   obtain ⟨m,rfl,h1,h2⟩:=Cr hl2 h0 hwf
   have hw9:w≤90000:=by
    apply Classical.byContradiction
    intro hn
    have:=ep (a:=90000) (b:=w) (by omega) (by omega)
    omega
   repeat' (first |refine LV rfl rfl ?_ |refine u1 ?_ |fail)
   refine ⟨(m,w+r * 100,l / 2),⟨⟨h1,by dsimp only;rw [←h2];exact hh⟩,by dsimp only;omega,by dsimp only;omega⟩,(by dsimp only;omega),?_⟩
   exact ah.to 0 rfl ⟨rfl,rfl,rfl,rfl,trivial⟩ (Nat.zero_le _) rfl rfl
  ·have d2:decide (w * w≤far)=false:=decide_eq_false hwf
   have hs:=nC (n:=n) (w:=w) (len:=r * 100) (l:=l) (far:=far) (fun h=>hwf h.2)
   rw [hs] at hh
   subst hh
   repeat' (first |refine u1 ?_ |fail)
   exact ⟨[_],⟨Fz.deep rfl,trivial⟩,rfl⟩
 ·have d1:decide ((0:Int) < l)=false:=decide_eq_false h0
  have hs:=nC (n:=n) (w:=w) (len:=r * 100) (l:=l) (far:=far) (fun h=>h0 h.1)
  rw [hs] at hh
  subst hh
  repeat' (first |refine u1 ?_ |fail)
  exact ⟨[_],⟨Fz.deep rfl,trivial⟩,rfl⟩
end Go.Proofs.YtichbhmnhkegiaaGreat
open Go Go.RM Go.AirLaw
namespace Go.Proofs.YtichbhmnhkegiaaGreat
set_option maxRecDepth 100000
set_option maxHeartbeats 4000000
theorem LW {n:Int} (h0:-9223372036854775808≤n) (h1:n < 9223372036854775808):IntKind.wrap .i64 n=n:=by
 by_cases h:0≤n
 ·exact wrap_i64 h h1
 ·have hm:n % 18446744073709551616=n+18446744073709551616:=by omega
  show (if (true && decide (n % 18446744073709551616 ≥ 9223372036854775808))=true then n % 18446744073709551616 - 18446744073709551616 else n % 18446744073709551616)=n
  rw [hm,if_pos (by simp;omega)]
  omega
theorem K4 {P:Program} {n:Int} (h0:-9223372036854775807≤n) (h1:n≤9223372036854775807):cg (az P (Op.unary .neg (.int .i64 n)))=some (.int .i64 (-n),.none):=by
 have h:cg (az P (Op.unary .neg (.int .i64 n)))=some (.int .i64 (IntKind.wrap .i64 (0 - n)),.none):=rfl
 rw [h,Int.zero_sub,LW (by omega) (by omega)]
theorem JI {own:Bool} {fr:Nat→AV} {hp:List AB} {K:AV→List AB→Prop} {x:Operand} {t:TypeId} {n:Int} (hx:aM fr x=ai n) (h0:-9223372036854775807≤n∧n≤9223372036854775807) (h:K (ai (-n)) hp):RM.wpOp TT own (.unOp .neg t x) fr hp K:=by
 show Hj TT .neg (aM fr x) hp K
 rw [hx]
 exact ⟨_,rfl,.int .i64 (-n),K4 h0.1 h0.2,rfl,h⟩
def HL:List AV:=[ai 0,ai 1000,ai 195,ai 981,ai 383,ai 924,ai 556,ai 831,ai 707,ai 707,ai 831,ai 556,ai 924,ai 383,ai 981,ai 195]
theorem Gb (one:Bool):Pu one 140 [] (.ag HL):=by
 refine af.body (fn:=Tryz.f140) rfl rfl rfl rfl ?_
 refine aa (mu:=fun _=>false) ?_
 repeat' (first |refine u1 ?_ |refine u2 ?_ |fail)
 exact ⟨[_],⟨Fz.deep rfl,trivial⟩,rfl⟩
theorem Mw {own:Bool} {fr:Nat→AV} {hp:List AB} {K:AV→List AB→Prop} {a x:Operand} {m:Nat} (ha:aM fr a=.ag HL) (hx:aM fr x=ai (m:Nat)) (hm:m < 8) (hK:K (.ag [ai (cF.getD m (0,0)).1,ai (cF.getD m (0,0)).2]) hp):RM.wpOp TT own (.index 194 a x) fr hp K:=by
 show u0 TT 194 (aM fr a) (aM fr x) hp K
 rw [ha,hx]
 refine ⟨_,_,rfl,rfl,?_⟩
 match m,hm with
 | 0,_|1,_|2,_|3,_|4,_|5,_|6,_|7,_=>exact ⟨.agg #[.int .i64 _,.int .i64 _],rfl,rfl,hK⟩
def tn:Nat→Int × Int→Int × Int
 | 0,v=>v
 | k+1,v=>wP (tn k v)
theorem DW {p:Nat} (hp:p < 32):jN p=tn (p / 8) (cF.getD (p % 8) (0,0)):=by
 unfold jN
 have:p / 8=0∨p / 8=1∨p / 8=2∨p / 8=3:=by omega
 rcases this with h|h|h|h <;> rw [h] <;> rfl
theorem Aw {v:Int × Int} (h:(-1000≤v.1∧v.1≤1000)∧-1000≤v.2∧v.2≤1000):∀ k,(-1000≤(tn k v).1∧(tn k v).1≤1000)∧-1000≤(tn k v).2∧(tn k v).2≤1000
 | 0=>h
 | k+1=>by
  have ih:=Aw h k
  show (-1000≤(tn k v).2∧(tn k v).2≤1000)∧-1000≤-(tn k v).1∧-(tn k v).1≤1000
  omega
theorem oI {m:Nat} (h:m < 8):(-1000≤(cF.getD m (0,0)).1∧(cF.getD m (0,0)).1≤1000)∧-1000≤(cF.getD m (0,0)).2∧(cF.getD m (0,0)).2≤1000:=by
 match m,h with
 | 0,_|1,_|2,_|3,_|4,_|5,_|6,_|7,_=>decide
theorem ve {p:Nat} (hp:p < 32):(-1000≤(jN p).1∧(jN p).1≤1000)∧-1000≤(jN p).2∧(jN p).2≤1000:=by
 rw [DW hp]
 exact Aw (oI (Nat.mod_lt _ (by decide))) _
theorem DX (one:Bool) (n lo hi:Int):af TT TB one (.fn 158 [] [.pt [ai lo] 0,.pt [ai hi] 0]) [ai n] (BB (decide (n < lo) || decide (hi < n))):=by
 refine af.body (fn:=Tryz.f158) rfl rfl rfl rfl ?_
 refine aa (mu:=fun _=>false) ?_
 repeat' (first |refine u1 ?_ |((with_reducible show cM _ _ _ _ _);refine x6 rfl rfl (fun h=>?_) (fun h=>?_)) |fail)
 all_goals refine ⟨[_],⟨Fz.deep rfl,trivial⟩,?_⟩
 all_goals simp_all [Aj]
 all_goals (intro _;omega)
theorem DY (one:Bool) (lo hi n:Int):Pu one 139 [ai lo,ai hi,.sl [eI n] true] (BB (aX lo hi [n])):=by
 have h:=mH one 158 [] [.pt [ai lo] 0,.pt [ai hi] 0] rfl (fun n=>decide (n < lo) || decide (hi < n)) [n] true (by simp [maxLen]) (fun n _=>DX one n lo hi)
 refine af.body (fn:=Tryz.f139) rfl rfl rfl rfl ?_
 refine aa (mu:=fun _=>false) ?_
 repeat' (first |refine u1 ?_ |refine u2 ?_ |refine af.call h rfl rfl ?_ |fail)
 exact ⟨[_],⟨Fz.deep rfl,trivial⟩,rfl⟩
theorem Ct (one:Bool) (p:Nat) (hp:p < 32):Pu one 112 [ai (p:Nat)] (.tp [.ag [ai (jN p).1,ai (jN p).2],ai 0]):=by
 have ho:=DY one 0 31 (p:Int)
 rw [show aX 0 31 [(p:Int)]=false by simp [aX];omega] at ho
 have hq:=Gb one
 rw [DW hp]
 have hm:p % 8 < 8:=Nat.mod_lt _ (by decide)
 have hb:=Aw (oI hm)
 have hq3:p / 8≤3:=by omega
 have e1:((p:Nat):Int) % 8=((p % 8:Nat):Int):=by omega
 have e2:((p:Nat):Int) / 8=((p / 8:Nat):Int):=by omega
 refine af.body (fn:=Tryz.f112) rfl rfl rfl rfl ?_
 refine RM.fm (mu:=fun _=>false) ?_
 repeat' (first |refine u1 ?_ |fail)
 refine RM.fm (mu:=fun _=>false) ?_
 repeat' (first |refine u1 ?_ |refine u2 ?_ |refine af.call ho rfl rfl ?_ |fail)
 refine RM.fm (mu:=fun _=>false) ?_
 repeat' (first |refine Mw rfl (aR e1) hm ?_ |refine u1 ?_ |refine u2 ?_ |refine af.call hq rfl rfl ?_ |fail)
 refine ax.seq ?_
 refine RM.fm (mu:=fun _=>false) ?_
 repeat' (first |refine u1 ?_ |fail)
 generalize cF.getD (p % 8) (0,0)=v at *
 refine ax.block ?_
 refine ax.aK (ah.to (l:=[(0,ai (p:Nat)),(2,.ptr 0 0 0),(3,ai 0),(4,.ptr 1 0 0),(14,ai ((p / 8:Nat):Int)),(15,ai (0:Nat))]) (hp:=[.cells [ai 0,ai 0] 0 0,.cells [ai (tn 0 v).1,ai (tn 0 v).2] 0 0]) 2 rfl ⟨rfl,rfl,rfl,rfl,aR e2,rfl,trivial⟩ (Nat.zero_le _) rfl rfl) ?_
 refine ax.loop (fun k:Nat=>k≤p / 8) (fun k=>⟨aF [(0,ai (p:Nat)),(2,.ptr 0 0 0),(3,ai 0),(4,.ptr 1 0 0),(14,ai ((p / 8:Nat):Int)),(15,ai (k:Nat))],[.cells [ai 0,ai 0] 0 0,.cells [ai (tn k v).1,ai (tn k v).2] 0 0],aV.none,false,0⟩) (fun k=>p / 8 - k) ?_ 0 (Nat.zero_le _)
 intro k hk
 have hbk:=hb k
 refine aa (mu:=fun _=>false) ?_
 by_cases hlt:k < p / 8
 ·have d1:decide ((k:Int) < ((p / 8:Nat):Int))=true:=decide_eq_true (by omega)
  have hs:tn (k+1) v=((tn k v).2,-(tn k v).1):=rfl
  repeat' (first |refine JI rfl (by omega) ?_ |refine u1 ?_ |refine u2 ?_ |fail)
  refine ⟨k+1,hlt,(by dsimp only;omega),?_⟩
  show ah _ ⟨aF [(0,ai (p:Nat)),(2,.ptr 0 0 0),(3,ai 0),(4,.ptr 1 0 0),(14,ai ((p / 8:Nat):Int)),(15,ai ((k+1):Nat))],[.cells [ai 0,ai 0] 0 0,.cells [ai (tn (k+1) v).1,ai (tn (k+1) v).2] 0 0],aV.none,false,0⟩
  rw [hs]
  exact ah.to 2 rfl ⟨rfl,rfl,rfl,rfl,rfl,aR (by simp),trivial⟩ (Nat.zero_le _) rfl rfl
 ·have d1:decide ((k:Int) < ((p / 8:Nat):Int))=false:=decide_eq_false (by omega)
  have hkq:k=p / 8:=by omega
  subst hkq
  repeat' (first |refine u1 ?_ |fail)
  refine aa (mu:=fun _=>false) ?_
  repeat' (first |refine u1 ?_ |refine u2 ?_ |fail)
  exact ⟨[_,_],⟨Fz.deep rfl,Fz.deep rfl,trivial⟩,rfl⟩
end Go.Proofs.YtichbhmnhkegiaaGreat
open Go Go.RM
namespace Go.Proofs.YtichbhmnhkegiaaGreat
set_option maxRecDepth 100000
set_option maxHeartbeats 4000000
theorem ij {P:Program} {α β:Type} (m:Sem α) (f:α→Sem β):az P (m >>= f)=(az P m).bind fun a=>az P (f a):=by
 show az P (Sem.bind m f)=_
 induction m with
 | pure a=>rfl
 | program k ih=>exact ih P
 | mark _ k ih=>exact ih
 | _=>rfl
theorem Gc {P:Program} (d:Nat) (t:TypeId) (xs ys:Array Value) (ht:P.underlying t=some (.struct (P.fieldsOf t))) (hp:P.stoodInHeld t=false) :
  az P (Op.equalIn (d+1) t (.agg xs) (.agg ys))=az P (Op.eqFields d xs ys (P.fieldsOf t).toList):=by
 have hu:az P (underlying t)=some (.struct (P.fieldsOf t)):=by
  unfold underlying
  simp only [ij]
  show az P _=_
  simp [ht]
  rfl
 have hg:az P program=some P:=rfl
 simp only [Op.equalIn,ij,hu,hg,hp,Option.bind_some,Bool.false_eq_true,if_false]
 rw [←Array.forIn_toList]
 generalize (P.fieldsOf t).toList=fs
 clear ht hu
 induction fs with
 | nil=>rfl
 | cons f fs ih =>
  simp only [List.forIn_cons,Op.eqFields,ij]
  split
  ·simp only [ij]
   cases az P (part f.type xs f.offset) with
   | none=>rfl
   | some a =>
    simp only [Option.bind_some]
    cases az P (part f.type ys f.offset) with
    | none=>rfl
    | some b =>
     simp only [Option.bind_some]
     cases az P (Op.equalIn d f.type a b) with
     | none=>rfl
     | some r =>
      cases r
      ·rfl
      ·exact ih
  ·exact ih
def vI (n:Int):Value:=.int .i64 n
theorem EW {d:Nat} (a b:Int):az TT.P (Op.equalIn (d+1) 3 (vI a) (vI b))=some (decide (a=b)):=by
 show some (a == b)=_
 congr 1
theorem HM {t : TypeId} (hf : (TT.P.fieldsOf t).toList.map (fun f => (f.type, f.offset, f.name == "_")) = [(3, 0, false), (3, 1, false)]) (hu : TT.P.underlying t = some (.struct (TT.P.fieldsOf t))) (hs : TT.P.stoodInHeld t = false) (a b c d : Int) : az TT.P (Op.equalIn 10000 t (.agg #[vI a, vI b]) (.agg #[vI c, vI d])) = some (decide (a = c) && decide (b = d)) := by
  rw [Gc 9999 t _ _ hu hs]
  generalize (TT.P.fieldsOf t).toList = L at hf
  cases L with
  | nil => cases hf
  | cons f L =>
    cases L with
    | nil => simp at hf
    | cons g L =>
      cases L with
      | cons => simp at hf
      | nil =>
        simp only [List.map_cons, List.map_nil, List.cons.injEq, Prod.mk.injEq, and_true] at hf
        obtain ⟨⟨f1, f2, f3⟩, g1, g2, g3⟩ := hf
        have f3 : f.name ≠ "_" := by simpa using f3
        have g3 : g.name ≠ "_" := by simpa using g3
        have p1 : az TT.P (part f.type #[vI a, vI b] f.offset) = some (vI a) := by rw [f1, f2]; rfl
        have p2 : az TT.P (part f.type #[vI c, vI d] f.offset) = some (vI c) := by rw [f1, f2]; rfl
        have p3 : az TT.P (part g.type #[vI a, vI b] g.offset) = some (vI b) := by rw [g1, g2]; rfl
        have p4 : az TT.P (part g.type #[vI c, vI d] g.offset) = some (vI d) := by rw [g1, g2]; rfl
        have q1 : az TT.P (Op.equalIn 9999 f.type (vI a) (vI c)) = some (decide (a = c)) := by rw [f1]; exact EW a c
        have q2 : az TT.P (Op.equalIn 9999 g.type (vI b) (vI d)) = some (decide (b = d)) := by rw [g1]; exact EW b d
        unfold Op.eqFields
        rw [if_pos f3]
        simp only [ij, p1, p2, q1, Option.bind_some]
        by_cases h1 : a = c
        · rw [decide_eq_true h1]
          unfold Op.eqFields
          simp only [Bool.not_true, Bool.false_eq_true, if_false, if_pos g3, ij, p3, p4, q2, Option.bind_some]
          by_cases h2 : b = d
          · rw [decide_eq_true h2]; rfl
          · rw [decide_eq_false h2]; rfl
        · rw [decide_eq_false h1]; rfl
theorem EX {t : TypeId} (hf : (TT.P.fieldsOf t).toList.map (fun f => (f.type, f.offset, f.name == "_")) = [(3, 0, false), (3, 1, false)]) (hu : TT.P.underlying t = some (.struct (TT.P.fieldsOf t))) (hs : TT.P.stoodInHeld t = false) (hg : TT.P.eqGuardType TT.P.depth t = false) {x y : Operand} (a b c d : Int) :
    fe TT.P .eql t x y (.agg #[vI a, vI b]) (.agg #[vI c, vI d]) = some (.bool (decide (a = c) && decide (b = d)), .none) ∧ fe TT.P .neq t x y (.agg #[vI a, vI b]) (.agg #[vI c, vI d]) = some (.bool (!(decide (a = c) && decide (b = d))), .none) := by
  constructor
  · show cK TT.P .eql t x y (.agg #[vI a, vI b]) (.agg #[vI c, vI d]) = _
    unfold cK
    rw [show (flat (.agg #[vI a, vI b]) && flat (.agg #[vI c, vI d])) = true from rfl, cond_true, ij]
    rw [show az TT.P (eqGuard .eql t x y (.agg #[vI a, vI b]) (.agg #[vI c, vI d])) = some () by
      show az TT.P (if (!(TT.P.eqGuardType TT.P.depth t)) = true then _ else _) = _
      rw [hg]; rfl]
    show cg (az TT.P (Op.equal t _ _ >>= fun r => pure (Value.bool r))) = _
    rw [ij]
    show cg ((az TT.P (Op.equalIn 10000 t _ _)).bind _) = _
    rw [HM hf hu hs]
    rfl
  · show cK TT.P .neq t x y (.agg #[vI a, vI b]) (.agg #[vI c, vI d]) = _
    unfold cK
    rw [show (flat (.agg #[vI a, vI b]) && flat (.agg #[vI c, vI d])) = true from rfl, cond_true, ij]
    rw [show az TT.P (eqGuard .neq t x y (.agg #[vI a, vI b]) (.agg #[vI c, vI d])) = some () by
      show az TT.P (if (!(TT.P.eqGuardType TT.P.depth t)) = true then _ else _) = _
      rw [hg]; rfl]
    show cg (az TT.P (Op.equal t _ _ >>= fun r => pure (Value.bool (!r)))) = _
    rw [ij]
    show cg ((az TT.P (Op.equalIn 10000 t _ _)).bind _) = _
    rw [HM hf hu hs]
    rfl
section
variable {a b : AV} {x y : Operand} {hp : List AB} {K : AV → List AB → Prop} {m n p q : Int}
theorem K5:∀ {x y:Operand} (a b c d:Int),fe TT.P .eql 23 x y (.agg #[vI a,vI b]) (.agg #[vI c,vI d])=some (.bool (decide (a=c) && decide (b=d)),.none)∧fe TT.P .neq 23 x y (.agg #[vI a,vI b]) (.agg #[vI c,vI d])=some (.bool (!(decide (a=c) && decide (b=d))),.none) :=
 fun a b c d=>EX (by kernel_rfl) (by kernel_rfl) (by kernel_rfl) (by kernel_rfl) a b c d
theorem Mi (ha:a=.ag [ai m,ai n]) (hb:b=.ag [ai p,ai q]) (h:K (BB (decide (m=p) && decide (n=q))) hp):cI TT .eql 23 x y a b hp K:=by
 subst ha hb
 exact ⟨_,_,rfl,rfl,.bool (decide (m=p) && decide (n=q)),(K5 m n p q).1,rfl,h⟩
end
end Go.Proofs.YtichbhmnhkegiaaGreat
open Go Go.RM Go.AirLaw
namespace Go.Proofs.YtichbhmnhkegiaaGreat
set_option maxRecDepth 100000
set_option maxHeartbeats 4000000
theorem fZ {x y a b:Int} (ha:-a≤x∧x≤a) (hb:-b≤y∧y≤b):-(a * b)≤x * y∧x * y≤a * b:=by
 have h1:(x * y).natAbs=x.natAbs * y.natAbs:=Int.natAbs_mul x y
 have h2:x.natAbs * y.natAbs≤a.natAbs * b.natAbs:=Nat.mul_le_mul (by omega) (by omega)
 have h3:(a * b).natAbs=a.natAbs * b.natAbs:=Int.natAbs_mul a b
 have h4:0≤a * b:=Int.mul_nonneg (by omega) (by omega)
 omega
theorem Ay (one:Bool) (aN w x y:Int) (hl:0≤aN∧aN≤300) (hw:0≤w∧w≤31) (hx:-60000≤x∧x≤60000) (hy:-60000≤y∧y≤60000):Pu one 66 [.ag [ai aN,ai w],.ag [ai x,ai y]] (BB (aY x y aN w)):=by
 by_cases h0:x=0∧y=0
 ·have d1:(decide (x=0) && decide (y=0))=true:=by rw [decide_eq_true h0.1,decide_eq_true h0.2];rfl
  have hv:aY x y aN w=true:=by unfold aY;rw [decide_eq_true h0];rfl
  rw [hv]
  refine af.body (fn:=Tryz.f66) rfl rfl rfl rfl ?_
  refine aa (mu:=fun _=>false) ?_
  repeat' (first |refine Mi rfl rfl ?_ |refine u1 ?_ |refine u2 ?_ |fail)
  exact ⟨[_],⟨Fz.deep rfl,trivial⟩,rfl⟩
 ·have d1:(decide (x=0) && decide (y=0))=false:=by
   rw [Bool.and_eq_false_iff]
   by_cases hx0:x=0
   ·exact .inr (decide_eq_false fun hy0=>h0 ⟨hx0,hy0⟩)
   ·exact .inl (decide_eq_false hx0)
  obtain ⟨hs1,hs2,hs3⟩:=nD h0
  have hv:aY x y aN w=decide (x * x+y * y≤nE aN (di x y) w * nE aN (di x y) w):=by
   unfold aY sq
   rw [decide_eq_false h0,Bool.false_or]
  rw [hv]
  generalize di x y=q at *
  have hxx:=kP hx
  have hyy:=kP hy
  refine af.body (fn:=Tryz.f66) rfl rfl rfl rfl ?_
  refine aa (mu:=fun _=>false) ?_
  repeat' (first |refine Mi rfl rfl ?_ |refine u1 ?_ |refine u2 ?_ |fail)
  refine ax.aK (ah.to (l:=[(2,.pt [ai aN,ai w] 0),(3,.pt [ai x,ai y] 0),(15,ai (0:Nat))]) (hp:=[]) 0 rfl ⟨rfl,rfl,rfl,trivial⟩ (Nat.zero_le _) rfl rfl) ?_
  refine ax.loop (fun p:Nat=>p≤q) (fun p=>⟨aF [(2,.pt [ai aN,ai w] 0),(3,.pt [ai x,ai y] 0),(15,ai (p:Nat))],[],aV.none,false,0⟩) (fun p=>q - p) ?_ 0 (Nat.zero_le _)
  intro p hp
  have hp32:p < 32:=by omega
  have d2:decide ((p:Int) < 32)=true:=decide_eq_true (by omega)
  have hv1:=Ct one p hp32
  have hv2:=Ct one ((p+1) % 32) (Nat.mod_lt _ (by decide))
  rw [show (((p+1) % 32:Nat):Int)=((p:Int)+1) % 32 by omega] at hv2
  have b1:=ve hp32
  have b2:=ve (p:=(p+1) % 32) (Nat.mod_lt _ (by decide))
  have hin:fM x y p=(decide ((jN p).1 * y - (jN p).2 * x≤0) && decide (0 < (jN ((p+1) % 32)).1 * y - (jN ((p+1) % 32)).2 * x)):=rfl
  generalize jN p=c at *
  generalize jN ((p+1) % 32)=d at *
  have m1:=fZ b1.1 hy
  have m2:=fZ b1.2 hx
  have m3:=fZ b2.1 hy
  have m4:=fZ b2.2 hx
  refine aa (mu:=fun _=>false) ?_
  by_cases hpq:p < q
  ·have hf:=hs3 p hpq
   rw [hin,Bool.and_eq_false_iff] at hf
   by_cases hc:0 < c.1 * y - c.2 * x
   ·have d3:decide (0 < c.1 * y - c.2 * x)=true:=decide_eq_true hc
    repeat' (first |refine u1 ?_ |refine u2 ?_ |refine af.call hv1 rfl rfl ?_ |refine af.call hv2 rfl rfl ?_ |fail)
    exact ⟨p+1,hpq,(by dsimp only;omega),ah.to 0 rfl ⟨rfl,rfl,aR (by simp),trivial⟩ (Nat.zero_le _) rfl rfl⟩
   ·have d3:decide (0 < c.1 * y - c.2 * x)=false:=decide_eq_false hc
    have d4:decide (d.1 * y - d.2 * x≤0)=true:=by
     rcases hf with hf|hf
     ·rw [decide_eq_false_iff_not] at hf;omega
     ·rw [decide_eq_false_iff_not] at hf;exact decide_eq_true (by omega)
    repeat' (first |refine u1 ?_ |refine u2 ?_ |refine af.call hv1 rfl rfl ?_ |refine af.call hv2 rfl rfl ?_ |fail)
    exact ⟨p+1,hpq,(by dsimp only;omega),ah.to 0 rfl ⟨rfl,rfl,aR (by simp),trivial⟩ (Nat.zero_le _) rfl rfl⟩
  ·have hpe:p=q:=by omega
   subst hpe
   rw [hin,Bool.and_eq_true,decide_eq_true_eq,decide_eq_true_eq] at hs2
   have d3:decide (0 < c.1 * y - c.2 * x)=false:=decide_eq_false (by omega)
   have d4:decide (d.1 * y - d.2 * x≤0)=false:=decide_eq_false (by omega)
   have hB:0≤dj (p:Int) w∧dj (p:Int) w≤16:=by
    unfold dj
    split <;> omega
   have mB:=fZ (x:=aN) (y:=1400 - 50 * dj (p:Int) w) (a:=300) (b:=1400) (by omega) (by omega)
   have pB:0≤aN * (1400 - 50 * dj (p:Int) w):=Int.mul_nonneg hl.1 (by omega)
   have mR:=kP (x:=aN * (1400 - 50 * dj (p:Int) w) / 10) (b:=42000) (by omega)
   unfold nE
   by_cases h16:16 < max ((p:Int) - w) (w - (p:Int))
   ·have d5:decide (16 < max ((p:Int) - w) (w - (p:Int)))=true:=decide_eq_true h16
    have hbe:dj (p:Int) w=32 - max ((p:Int) - w) (w - (p:Int)):=by unfold dj;rw [if_pos h16]
    rw [hbe] at mB pB mR ⊢
    repeat' (first |refine u1 ?_ |refine u2 ?_ |refine af.call hv1 rfl rfl ?_ |refine af.call hv2 rfl rfl ?_ |fail)
    exact ⟨[_],⟨Fz.deep rfl,trivial⟩,rfl⟩
   ·have d5:decide (16 < max ((p:Int) - w) (w - (p:Int)))=false:=decide_eq_false h16
    have hbe:dj (p:Int) w=max ((p:Int) - w) (w - (p:Int)):=by unfold dj;rw [if_neg h16]
    rw [hbe] at mB pB mR ⊢
    repeat' (first |refine u1 ?_ |refine u2 ?_ |refine af.call hv1 rfl rfl ?_ |refine af.call hv2 rfl rfl ?_ |fail)
    exact ⟨[_],⟨Fz.deep rfl,trivial⟩,rfl⟩
def vg (v:Pt) (c r:Int):Bool:=aX (-60000) 60000 [v.x,v.y] || aX 1 5000 [c] || aX 1 300 [r]
def oJ (v:Pt) (c r:Int):Bool × Int:=if vg v c r=true then (false,7) else (bz v.x v.y c r,0)
theorem aZ {lo hi:Int} {l:List Int}:aX lo hi l=false ↔ ∀ n ∈ l,lo≤n∧n≤hi:=by
 unfold aX
 rw [List.any_eq_false]
 simp
theorem qL (one:Bool) (v:Pt) (c r:Int):Pu one 17 [.ag (oG v),ai c,ai r] (.tp [BB (oJ v c r).1,ai (oJ v c r).2]):=by
 have o1:=iN one (-60000) 60000 [eI v.x,eI v.y] true rfl (by simp [maxLen])
 have o2:=iN one 1 5000 [eI c] true rfl (by simp [maxLen])
 have o3:=iN one 1 300 [eI r] true rfl (by simp [maxLen])
 change Pu one 61 _ (BB (aX (-60000) 60000 [v.x,v.y])) at o1
 change Pu one 61 _ (BB (aX 1 5000 [c])) at o2
 change Pu one 61 _ (BB (aX 1 300 [r])) at o3
 unfold oJ vg
 cases e1:aX (-60000) 60000 [v.x,v.y] with
 | true =>
  rw [e1] at o1
  refine af.body (fn:=Tryz.f17) rfl rfl rfl rfl ?_
  refine aa (mu:=fun _=>false) ?_
  repeat' (first |refine u1 ?_ |refine u2 ?_ |refine af.call o1 rfl rfl ?_ |fail)
  exact ⟨[_,_],⟨Fz.deep rfl,Fz.deep rfl,trivial⟩,rfl⟩
 | false =>
  rw [e1] at o1
  cases e2:aX 1 5000 [c] with
  | true =>
   rw [e2] at o2
   refine af.body (fn:=Tryz.f17) rfl rfl rfl rfl ?_
   refine aa (mu:=fun _=>false) ?_
   repeat' (first |refine u1 ?_ |refine u2 ?_ |refine af.call o1 rfl rfl ?_ |refine af.call o2 rfl rfl ?_ |fail)
   exact ⟨[_,_],⟨Fz.deep rfl,Fz.deep rfl,trivial⟩,rfl⟩
  | false =>
   rw [e2] at o2
   cases e3:aX 1 300 [r] with
   | true =>
    rw [e3] at o3
    refine af.body (fn:=Tryz.f17) rfl rfl rfl rfl ?_
    refine aa (mu:=fun _=>false) ?_
    repeat' (first |refine u1 ?_ |refine u2 ?_ |refine af.call o1 rfl rfl ?_ |refine af.call o2 rfl rfl ?_ |refine af.call o3 rfl rfl ?_ |fail)
    exact ⟨[_,_],⟨Fz.deep rfl,Fz.deep rfl,trivial⟩,rfl⟩
   | false =>
    rw [e3] at o3
    rw [aZ] at e1 e2 e3
    have a1:=e1 v.x (by simp)
    have a2:=e1 v.y (by simp)
    have a3:=e2 c (by simp)
    have a4:=e3 r (by simp)
    have hm:=wQ one c r v.x v.y (by omega) (by omega) a1 a2
    refine af.body (fn:=Tryz.f17) rfl rfl rfl rfl ?_
    refine aa (mu:=fun _=>false) ?_
    repeat' (first |refine u1 ?_ |refine u2 ?_ |refine af.call o1 rfl rfl ?_ |refine af.call o2 rfl rfl ?_ |refine af.call o3 rfl rfl ?_ |refine af.call hm rfl rfl ?_ |fail)
    exact ⟨[_,_],⟨Fz.deep rfl,Fz.deep rfl,trivial⟩,rfl⟩
def sH (v:Pt) (l w:Int):Bool:=aX (-60000) 60000 [v.x,v.y] || aX 1 200 [l] || aX 0 31 [w]
def lZ (v:Pt) (l w:Int):Bool × Int:=if sH v l w=true then (false,7) else (aY v.x v.y l w,0)
theorem pO (one:Bool) (v:Pt) (l w:Int):Pu one 19 [.ag (oG v),ai l,ai w] (.tp [BB (lZ v l w).1,ai (lZ v l w).2]):=by
 have o1:=iN one (-60000) 60000 [eI v.x,eI v.y] true rfl (by simp [maxLen])
 have o2:=iN one 1 200 [eI l] true rfl (by simp [maxLen])
 have o3:=iN one 0 31 [eI w] true rfl (by simp [maxLen])
 change Pu one 61 _ (BB (aX (-60000) 60000 [v.x,v.y])) at o1
 change Pu one 61 _ (BB (aX 1 200 [l])) at o2
 change Pu one 61 _ (BB (aX 0 31 [w])) at o3
 unfold lZ sH
 cases e1:aX (-60000) 60000 [v.x,v.y] with
 | true =>
  rw [e1] at o1
  refine af.body (fn:=Tryz.f19) rfl rfl rfl rfl ?_
  refine aa (mu:=fun _=>false) ?_
  repeat' (first |refine u1 ?_ |refine u2 ?_ |refine af.call o1 rfl rfl ?_ |fail)
  exact ⟨[_,_],⟨Fz.deep rfl,Fz.deep rfl,trivial⟩,rfl⟩
 | false =>
  rw [e1] at o1
  cases e2:aX 1 200 [l] with
  | true =>
   rw [e2] at o2
   refine af.body (fn:=Tryz.f19) rfl rfl rfl rfl ?_
   refine aa (mu:=fun _=>false) ?_
   repeat' (first |refine u1 ?_ |refine u2 ?_ |refine af.call o1 rfl rfl ?_ |refine af.call o2 rfl rfl ?_ |fail)
   exact ⟨[_,_],⟨Fz.deep rfl,Fz.deep rfl,trivial⟩,rfl⟩
  | false =>
   rw [e2] at o2
   cases e3:aX 0 31 [w] with
   | true =>
    rw [e3] at o3
    refine af.body (fn:=Tryz.f19) rfl rfl rfl rfl ?_
    refine aa (mu:=fun _=>false) ?_
    repeat' (first |refine u1 ?_ |refine u2 ?_ |refine af.call o1 rfl rfl ?_ |refine af.call o2 rfl rfl ?_ |refine af.call o3 rfl rfl ?_ |fail)
    exact ⟨[_,_],⟨Fz.deep rfl,Fz.deep rfl,trivial⟩,rfl⟩
   | false =>
    rw [e3] at o3
    rw [aZ] at e1 e2 e3
    have a1:=e1 v.x (by simp)
    have a2:=e1 v.y (by simp)
    have a3:=e2 l (by simp)
    have a4:=e3 w (by simp)
    have hm:=Ay one l w v.x v.y (by omega) a4 a1 a2
    refine af.body (fn:=Tryz.f19) rfl rfl rfl rfl ?_
    refine aa (mu:=fun _=>false) ?_
    repeat' (first |refine u1 ?_ |refine u2 ?_ |refine af.call o1 rfl rfl ?_ |refine af.call o2 rfl rfl ?_ |refine af.call o3 rfl rfl ?_ |refine af.call hm rfl rfl ?_ |fail)
    exact ⟨[_,_],⟨Fz.deep rfl,Fz.deep rfl,trivial⟩,rfl⟩
end Go.Proofs.YtichbhmnhkegiaaGreat
