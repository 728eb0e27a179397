/-
  Contracts of the program's functions and of the document's. Lemmas alone; their conditions stand in them.
-/
import Derived.Test.YtlpmfgmldmdggaaGreatK12
import Derived.Test.YtlpmfgmldmdggaaGreatK13
open Go Go.RM
namespace Go.Proofs.YtlpmfgmldmdggaaGreat
set_option maxRecDepth 100000
set_option maxHeartbeats 4000000
abbrev gQ (n:Nat):AV:=.fl (.int .u64 (n:Int))
theorem MY (one:Bool) (S:List Int) {k:Nat} {v:Nat} {aF:bq} {Q:AV→List AB→bq→Prop} (hQ:∀ z k':Nat,z < 18446744073709551616→k' < 18446744073709551616→Q (gQ z) [aA S v,.cells [gQ k'] 0 0] aF) :
  au TT TB one (.fn 147 [] []) [.ptr 1 0 0] [aA S v,.cells [gQ k] 0 0] aF Q:=by
 refine au.body (fn:=Tryz.f147) rfl rfl rfl ?_;refine qq1 ?_;repeat' first|(refine RM.MW rfl rfl (fun z hz=>?_))|((with_reducible show aU _ _ _ _ _ _ _ _ _);refine RM.LB rfl rfl (fun z hz=>?_))|((with_reducible show aU _ _ _ _ _ _ _ _ _);refine RM.LC rfl rfl (fun z hz=>?_))|((with_reducible show aU _ _ _ _ _ _ _ _ _);refine RM.MX rfl rfl (fun z hz=>?_) (by omega))|refine u1 ?_|refine u2 ?_|fail
 exact hQ _ _ (by omega) (by omega)
theorem JB (one:Bool):Pu one 141 [gQ 8] (af 4):=by
 refine ak.body (fn:=Tryz.f141) rfl rfl rfl rfl ?_;refine qq1 ?_;repeat' first|refine u1 ?_|refine u2 ?_|fail
 show aU TT BinOp.add 3 (Operand.tmp 19) (Operand.tmp 23) (af 0) (af 4) _ _;repeat' first|refine u1 ?_|refine u2 ?_|fail
 exact ⟨[_],⟨Fz.deep rfl,trivial⟩,rfl⟩
theorem JC (one:Bool):Pu one 141 [gQ 9] (af 4):=by
 refine ak.body (fn:=Tryz.f141) rfl rfl rfl rfl ?_;refine qq1 ?_;repeat' first|refine u1 ?_|refine u2 ?_|fail
 show aU TT BinOp.add 3 (Operand.tmp 19) (Operand.tmp 23) (af 0) (af 4) _ _;repeat' first|refine u1 ?_|refine u2 ?_|fail
 exact ⟨[_],⟨Fz.deep rfl,trivial⟩,rfl⟩
theorem HF (one:Bool):Pu one 141 [gQ 10] (af 4):=by
 refine ak.body (fn:=Tryz.f141) rfl rfl rfl rfl ?_;refine qq1 ?_;repeat' first|refine u1 ?_|refine u2 ?_|fail
 show aU TT BinOp.add 3 (Operand.tmp 19) (Operand.tmp 23) (af 0) (af 4) _ _;repeat' first|refine u1 ?_|refine u2 ?_|fail
 exact ⟨[_],⟨Fz.deep rfl,trivial⟩,rfl⟩
theorem HG (one:Bool):Pu one 141 [gQ 11] (af 4):=by
 refine ak.body (fn:=Tryz.f141) rfl rfl rfl rfl ?_;refine qq1 ?_;repeat' first|refine u1 ?_|refine u2 ?_|fail
 show aU TT BinOp.add 3 (Operand.tmp 19) (Operand.tmp 23) (af 0) (af 4) _ _;repeat' first|refine u1 ?_|refine u2 ?_|fail
 exact ⟨[_],⟨Fz.deep rfl,trivial⟩,rfl⟩
theorem HH (one:Bool):Pu one 141 [gQ 12] (af 4):=by
 refine ak.body (fn:=Tryz.f141) rfl rfl rfl rfl ?_;refine qq1 ?_;repeat' first|refine u1 ?_|refine u2 ?_|fail
 show aU TT BinOp.add 3 (Operand.tmp 19) (Operand.tmp 23) (af 0) (af 4) _ _;repeat' first|refine u1 ?_|refine u2 ?_|fail
 exact ⟨[_],⟨Fz.deep rfl,trivial⟩,rfl⟩
theorem HI (one:Bool):Pu one 141 [gQ 13] (af 4):=by
 refine ak.body (fn:=Tryz.f141) rfl rfl rfl rfl ?_;refine qq1 ?_;repeat' first|refine u1 ?_|refine u2 ?_|fail
 show aU TT BinOp.add 3 (Operand.tmp 19) (Operand.tmp 23) (af 0) (af 4) _ _;repeat' first|refine u1 ?_|refine u2 ?_|fail
 exact ⟨[_],⟨Fz.deep rfl,trivial⟩,rfl⟩
theorem HJ (one:Bool):Pu one 141 [gQ 14] (af 4):=by
 refine ak.body (fn:=Tryz.f141) rfl rfl rfl rfl ?_;refine qq1 ?_;repeat' first|refine u1 ?_|refine u2 ?_|fail
 show aU TT BinOp.add 3 (Operand.tmp 19) (Operand.tmp 23) (af 0) (af 4) _ _;repeat' first|refine u1 ?_|refine u2 ?_|fail
 exact ⟨[_],⟨Fz.deep rfl,trivial⟩,rfl⟩
theorem HK (one:Bool):Pu one 141 [gQ 15] (af 4):=by
 refine ak.body (fn:=Tryz.f141) rfl rfl rfl rfl ?_;refine qq1 ?_;repeat' first|refine u1 ?_|refine u2 ?_|fail
 show aU TT BinOp.add 3 (Operand.tmp 19) (Operand.tmp 23) (af 0) (af 4) _ _;repeat' first|refine u1 ?_|refine u2 ?_|fail
 exact ⟨[_],⟨Fz.deep rfl,trivial⟩,rfl⟩
theorem HL (one:Bool):Pu one 141 [gQ 16] (af 5):=by
 refine ak.body (fn:=Tryz.f141) rfl rfl rfl rfl ?_;refine qq1 ?_;repeat' first|refine u1 ?_|refine u2 ?_|fail
 show aU TT BinOp.add 3 (Operand.tmp 19) (Operand.tmp 23) (af 0) (af 5) _ _;repeat' first|refine u1 ?_|refine u2 ?_|fail
 exact ⟨[_],⟨Fz.deep rfl,trivial⟩,rfl⟩
theorem HM (one:Bool):Pu one 141 [gQ 17] (af 5):=by
 refine ak.body (fn:=Tryz.f141) rfl rfl rfl rfl ?_;refine qq1 ?_;repeat' first|refine u1 ?_|refine u2 ?_|fail
 show aU TT BinOp.add 3 (Operand.tmp 19) (Operand.tmp 23) (af 0) (af 5) _ _;repeat' first|refine u1 ?_|refine u2 ?_|fail
 exact ⟨[_],⟨Fz.deep rfl,trivial⟩,rfl⟩
theorem HN (one:Bool):Pu one 141 [gQ 18] (af 5):=by
 refine ak.body (fn:=Tryz.f141) rfl rfl rfl rfl ?_;refine qq1 ?_;repeat' first|refine u1 ?_|refine u2 ?_|fail
 show aU TT BinOp.add 3 (Operand.tmp 19) (Operand.tmp 23) (af 0) (af 5) _ _;repeat' first|refine u1 ?_|refine u2 ?_|fail
 exact ⟨[_],⟨Fz.deep rfl,trivial⟩,rfl⟩
theorem HO (one:Bool):Pu one 141 [gQ 19] (af 5):=by
 refine ak.body (fn:=Tryz.f141) rfl rfl rfl rfl ?_;refine qq1 ?_;repeat' first|refine u1 ?_|refine u2 ?_|fail
 show aU TT BinOp.add 3 (Operand.tmp 19) (Operand.tmp 23) (af 0) (af 5) _ _;repeat' first|refine u1 ?_|refine u2 ?_|fail
 exact ⟨[_],⟨Fz.deep rfl,trivial⟩,rfl⟩
theorem HP (one:Bool):Pu one 141 [gQ 20] (af 5):=by
 refine ak.body (fn:=Tryz.f141) rfl rfl rfl rfl ?_;refine qq1 ?_;repeat' first|refine u1 ?_|refine u2 ?_|fail
 show aU TT BinOp.add 3 (Operand.tmp 19) (Operand.tmp 23) (af 0) (af 5) _ _;repeat' first|refine u1 ?_|refine u2 ?_|fail
 exact ⟨[_],⟨Fz.deep rfl,trivial⟩,rfl⟩
theorem HQ (one:Bool):Pu one 141 [gQ 21] (af 5):=by
 refine ak.body (fn:=Tryz.f141) rfl rfl rfl rfl ?_;refine qq1 ?_;repeat' first|refine u1 ?_|refine u2 ?_|fail
 show aU TT BinOp.add 3 (Operand.tmp 19) (Operand.tmp 23) (af 0) (af 5) _ _;repeat' first|refine u1 ?_|refine u2 ?_|fail
 exact ⟨[_],⟨Fz.deep rfl,trivial⟩,rfl⟩
theorem HS (one:Bool):Pu one 141 [gQ 22] (af 5):=by
 refine ak.body (fn:=Tryz.f141) rfl rfl rfl rfl ?_;refine qq1 ?_;repeat' first|refine u1 ?_|refine u2 ?_|fail
 show aU TT BinOp.add 3 (Operand.tmp 19) (Operand.tmp 23) (af 0) (af 5) _ _;repeat' first|refine u1 ?_|refine u2 ?_|fail
 exact ⟨[_],⟨Fz.deep rfl,trivial⟩,rfl⟩
theorem HT (one:Bool):Pu one 141 [gQ 23] (af 5):=by
 refine ak.body (fn:=Tryz.f141) rfl rfl rfl rfl ?_;refine qq1 ?_;repeat' first|refine u1 ?_|refine u2 ?_|fail
 show aU TT BinOp.add 3 (Operand.tmp 19) (Operand.tmp 23) (af 0) (af 5) _ _;repeat' first|refine u1 ?_|refine u2 ?_|fail
 exact ⟨[_],⟨Fz.deep rfl,trivial⟩,rfl⟩
theorem HU (one:Bool):Pu one 141 [gQ 24] (af 5):=by
 refine ak.body (fn:=Tryz.f141) rfl rfl rfl rfl ?_;refine qq1 ?_;repeat' first|refine u1 ?_|refine u2 ?_|fail
 show aU TT BinOp.add 3 (Operand.tmp 19) (Operand.tmp 23) (af 0) (af 5) _ _;repeat' first|refine u1 ?_|refine u2 ?_|fail
 exact ⟨[_],⟨Fz.deep rfl,trivial⟩,rfl⟩
theorem HV (one:Bool):Pu one 141 [gQ 25] (af 5):=by
 refine ak.body (fn:=Tryz.f141) rfl rfl rfl rfl ?_;refine qq1 ?_;repeat' first|refine u1 ?_|refine u2 ?_|fail
 show aU TT BinOp.add 3 (Operand.tmp 19) (Operand.tmp 23) (af 0) (af 5) _ _;repeat' first|refine u1 ?_|refine u2 ?_|fail
 exact ⟨[_],⟨Fz.deep rfl,trivial⟩,rfl⟩
theorem Aa (one:Bool) {n:Nat} (h:8≤n∧n≤25):∃ k:Nat,(k=4∨k=5)∧n < 2 ^ k∧2 ^ k≤2 * n∧Pu one 141 [gQ n] (af (k:Nat)):=by
 obtain rfl|rfl|rfl|rfl|rfl|rfl|rfl|rfl|rfl|rfl|rfl|rfl|rfl|rfl|rfl|rfl|rfl|rfl:n=8∨n=9∨n=10∨n=11∨n=12∨n=13∨n=14∨n=15∨n=16∨n=17∨n=18∨n=19∨n=20∨n=21∨n=22∨n=23∨n=24∨n=25:=by omega
 ·exact ⟨4,.inl rfl,by decide,by decide,JB one⟩
 ·exact ⟨4,.inl rfl,by decide,by decide,JC one⟩
 ·exact ⟨4,.inl rfl,by decide,by decide,HF one⟩
 ·exact ⟨4,.inl rfl,by decide,by decide,HG one⟩
 ·exact ⟨4,.inl rfl,by decide,by decide,HH one⟩
 ·exact ⟨4,.inl rfl,by decide,by decide,HI one⟩
 ·exact ⟨4,.inl rfl,by decide,by decide,HJ one⟩
 ·exact ⟨4,.inl rfl,by decide,by decide,HK one⟩
 ·exact ⟨5,.inr rfl,by decide,by decide,HL one⟩
 ·exact ⟨5,.inr rfl,by decide,by decide,HM one⟩
 ·exact ⟨5,.inr rfl,by decide,by decide,HN one⟩
 ·exact ⟨5,.inr rfl,by decide,by decide,HO one⟩
 ·exact ⟨5,.inr rfl,by decide,by decide,HP one⟩
 ·exact ⟨5,.inr rfl,by decide,by decide,HQ one⟩
 ·exact ⟨5,.inr rfl,by decide,by decide,HS one⟩
 ·exact ⟨5,.inr rfl,by decide,by decide,HT one⟩
 ·exact ⟨5,.inr rfl,by decide,by decide,HU one⟩
 ·exact ⟨5,.inr rfl,by decide,by decide,HV one⟩
theorem HW (one:Bool) {n k:Nat} (h:Pu one 141 [gQ n] (af (k:Nat))):Pu one 117 [gQ n] (af (k:Nat)):=by
 refine ak.body (fn:=Tryz.f117) rfl rfl rfl rfl ?_;refine qq1 ?_;repeat' first|refine u1 ?_|((with_reducible refine qq3 ?_);refine ak.call h rfl rfl ?_)|refine u2 ?_|fail
 exact ⟨[_],⟨Fz.deep rfl,trivial⟩,rfl⟩
section
variable {own : Bool} {fr : Nat → AV} {hp : List AB} {K : AV → List AB → Prop} {x : Operand} {n : Nat}
theorem HX {d:TypeId} (hd:∀ n:Int,cS (aP TT.P (convert 3 d (.int .i64 n)))=some (.int .u64 (IntKind.wrap .u64 n),.none)) (hx:bg fr x=.fl (.int .i64 ((n:Nat):Int))) (h:n < 18446744073709551616) (k:K (gQ n) hp):RM.wpOp TT own (.convert 3 d x) fr hp K:=by show vW TT 3 d (bg fr x) hp K;rw [hx];have:=hd ((n:Nat):Int);rw [wrap_u64 h] at this;exact ⟨_,rfl,_,this,rfl,k⟩
theorem JD {d:TypeId} (hd:∀ n:Int,cS (aP TT.P (convert d 3 (.int .u64 n)))=some (.int .i64 (IntKind.wrap .i64 n),.none)) (hx:bg fr x=.fl (.int .u64 ((n:Nat):Int))) (h:n < 1000000) (k:K (af (n:Nat)) hp):RM.wpOp TT own (.convert d 3 x) fr hp K:=by show vW TT d 3 (bg fr x) hp K;rw [hx];have:=hd ((n:Nat):Int);rw [IntWalk.i64_in ((n:Nat):Int) (by omega)] at this;exact ⟨_,rfl,_,this,rfl,k⟩
end
theorem Ku (one:Bool) {n k:Nat} (hn:n≤25) (hk:k=4∨k=5) (h:Pu one 141 [gQ n] (af (k:Nat))):Pu one 146 [af (n:Nat)] (gQ (2 ^ k)):=by
 have o1:=HW one h;have hk8:k < 8:=by omega
 refine ak.body (fn:=Tryz.f146) rfl rfl rfl rfl ?_;refine qq1 ?_;repeat' first|refine u1 ?_|((with_reducible show RM.wpOp _ _ (.convert _ _ _) _ _ _);refine HX (fun _=>rfl) rfl (by omega) ?_)|((with_reducible refine qq3 ?_);refine ak.call o1 rfl rfl ?_)|((with_reducible show aU _ _ _ _ _ _ _ _ _);refine RM.MF (j:=k) rfl rfl hk8 ?_)|refine u2 ?_|fail
 exact ⟨[_],⟨Fz.deep rfl,trivial⟩,rfl⟩
end Go.Proofs.YtlpmfgmldmdggaaGreat
open Go Go.RM
namespace Go.Proofs.YtlpmfgmldmdggaaGreat
set_option maxRecDepth 100000
set_option maxHeartbeats 4000000
theorem l8 (S:List Int) (v w:Nat):([aA S v,.cells [gQ w] 0 0]:List AB).all (AB.ig 2)=true:=by have h1:AB.ig 2 (aA S v)=true:=fG 2 (fun _=>rfl) _;have h2:AB.ig 2 (.cells [gQ w] 0 0)=true:=rfl;simp only [List.all_cons,List.all_nil,h1,h2,Bool.and_true]
theorem Ef {T:bG} {t:TypeId} {x y:Operand} {a b:AV} {hp:List AB} {K:AV→List AB→Prop} {m n o:Nat} (hO:m &&& n=o) (ha:a=.fl (.int .u64 (m:Int))) (hb:b=.fl (.int .u64 (n:Int))) (hm:m < 18446744073709551616) (hn:n < 18446744073709551616) (h:K (gQ o) hp):aU T .and t x y a b hp K:=RM.ME ha hb hm hn (by rw [hO];exact h)
theorem JE (one:Bool) (S0:List Int) {a b N:Nat} (hN:S0.length=N) (hb:b≤N) (hab:a+8≤b∧b≤a+25) (h9:N≤1000) {v cc:Nat} {aF:bq} {Q:AV→List AB→bq→Prop} (hQ:∀ (S:List Int) (w:Nat),PR S0 S a b→Q (.tp []) [aA S v,.cells [gQ w] 0 0] aF) :
  au TT TB one (.fn 134 [] []) [.aJ 0 v 0 N cc,af (a:Nat),af (b:Nat)] [aA S0 v] aF Q:=by
 have hlen:((b - a:Nat):Int)=(b:Int) - (a:Int):=by omega
 obtain ⟨k,hk,h1,h2,o0⟩:=Aa one (n:=b - a) (by omega);have o1:=Ku one (by omega) hk o0;rw [hlen] at o1;have d1:decide ((8:Int)≤(b:Int) - (a:Int))=true:=decide_eq_true (by omega);obtain ⟨q,hq⟩:∃ q:Nat,(q:Int)=((b:Int) - (a:Int)) / 4:=⟨(((b:Int) - (a:Int)) / 4).toNat,Int.toNat_of_nonneg (by omega)⟩;have h4:4 * q≤b - a∧b - a < 4 * q+4:=by omega
 have hp:2 ^ k≤32∧1≤2 ^ k:=by rcases hk with rfl|rfl <;> decide
 generalize hK:2 ^ k=K2 at *
 refine au.body (fn:=Tryz.f134) rfl rfl rfl ?_;refine aa (mu:=fun t=>Nat.beq t 7) ?_;repeat' first|refine u1 ?_|((with_reducible show RM.wpOp _ _ (.convert _ _ _) _ _ _);refine HX (n:=b - a) (fun _=>rfl) (by rw [hlen];rfl) (by omega) ?_)|((with_reducible refine qq3 ?_);refine ak.call o1 rfl rfl ?_)|refine u2 ?_|fail
 refine aB.aO (ah.to (l:=[(0,.aJ 0 v 0 N cc),(1,af (a:Nat)),(6,af ((b:Int) - (a:Int))),(7,.ptr 1 0 0),(8,gQ K2),(9,af ((a+2 * q - 1):Nat))]) (hp:=[aA S0 v,.cells [gQ (b - a)] 0 0]) 2 rfl ⟨rfl,rfl,rfl,rfl,rfl,aE (by omega),trivial⟩ (Nat.le_of_ble_eq_true rfl) rfl (l8 _ _ _)) ?_;refine aB.loop (fun x:Nat × List Int × Nat=>(a+2 * q - 1≤x.1∧x.1≤a+2 * q+2)∧PR S0 x.2.1 a b∧x.2.2 < 18446744073709551616) (fun x=>⟨aM [(0,.aJ 0 v 0 N cc),(1,af (a:Nat)),(6,af ((b:Int) - (a:Int))),(7,.ptr 1 0 0),(8,gQ K2),(9,af (x.1:Nat))],[aA x.2.1 v,.cells [gQ x.2.2] 0 0],aF,false,1⟩) (fun x=>N+10 - x.1) ?_ (a+2 * q - 1,S0,b - a) ⟨⟨qq6 _,by dsimp only;omega⟩,PR.refl _ _ _,by dsimp only;omega⟩;rintro ⟨i,R,w⟩ ⟨⟨i1,i2⟩,hpr,hw⟩;dsimp only at i1 i2 hpr hw;have hRl:R.length=N:=by rw [hpr.len,hN]
 show aB _ _ _ _ ⟨aM [(0,.aJ 0 v 0 N cc),(1,af (a:Nat)),(6,af ((b:Int) - (a:Int))),(7,.ptr 1 0 0),(8,gQ K2),(9,af (i:Nat))],[aA R v,.cells [gQ w] 0 0],aF,false,1⟩ _;by_cases hi:i≤a+2 * q+1
 ·have d2:decide ((i:Int)≤(a:Int)+((b:Int) - (a:Int)) / 4 * 2+1)=true:=decide_eq_true (by omega);refine qq1 ?_;repeat' first|refine u1 ?_|refine u2 ?_|fail
  refine MY one R (fun z k' hz hk'=>?_);have ho:z &&& (K2 - 1)≤K2 - 1:=Nat.and_le_right
  generalize hO:z &&& (K2 - 1)=o at *
  by_cases hol:o < b - a
  ·have d3:decide ((b:Int) - (a:Int)≤(o:Int))=false:=decide_eq_false (by omega);have b1:Nat.ble (0+((i:Nat):Int).toNat * 1+1) (ay R).length=true:=bS (k:=i) (by omega) (by omega);have b2:Nat.ble (0+(((a:Int)+(o:Int))).toNat * 1+1) (aQ (ay R) [af (aH R (a+o))] (0+((i:Nat):Int).toNat * 1)).length=true:=cH (i:=i) (j:=a+o) (by omega) (by omega) (by omega) (by omega) _;have e1:=bp (R:=R) (i:=i) (j:=a+o) (p:=0+((i:Nat):Int).toNat * 1) (q:=0+(((a:Int)+(o:Int))).toNat * 1) (by omega) (by omega) (by omega) (by omega);have y1:(ay R)[0+(((a:Int)+(o:Int))).toNat * 1]?=some (af (aH R (a+o))):=ax (by omega) (by omega);have y2:(ay R)[0+((i:Nat):Int).toNat * 1]?=some (af (aH R i)):=ax (by omega) (by omega);repeat' first|((with_reducible show aU _ _ _ _ _ _ _ _ _);refine RM.DT rfl rfl (by omega) (by omega) ?_)|(refine Ef hO rfl rfl (by omega) (by omega) ?_)|((with_reducible show RM.wpOp _ _ (.convert _ _ _) _ _ _);refine JD (n:=o) (fun _=>rfl) rfl (by omega) ?_)|((with_reducible show RM.wpOp _ _ (.load _ _) _ _ _);refine RM.bC rfl rfl rfl y1 ?_)|((with_reducible show RM.wpOp _ _ (.load _ _) _ _ _);refine RM.bC rfl rfl rfl y2 ?_)|((with_reducible show aG _ _ _ _ _ _);refine RM.e9 rfl rfl rfl rfl rfl rfl b1 ?_)|((with_reducible show aG _ _ _ _ _ _);refine RM.e9 rfl rfl rfl rfl rfl rfl b2 ?_)|refine u1 ?_|refine u2 ?_|fail
   exact ⟨(i+1,sw R i (a+o),k'),⟨⟨by dsimp only;omega,by dsimp only;omega⟩,hpr.trans (PR.sw (by omega) ⟨by omega,by omega⟩ ⟨by omega,by omega⟩),hk'⟩,(by dsimp only;omega),ah.to (l:=[(0,.aJ 0 v 0 N cc),(1,af (a:Nat)),(6,af ((b:Int) - (a:Int))),(7,.ptr 1 0 0),(8,gQ K2),(9,af ((i+1):Nat))]) (hp:=[aA (sw R i (a+o)) v,.cells [gQ k'] 0 0]) 2 (by show _=[AB.cells (ay (sw R i (a+o))) 1 v,_];rw [←e1];rfl) ⟨rfl,rfl,rfl,rfl,rfl,aE (by simp),trivial⟩ (Nat.le_of_ble_eq_true rfl) rfl (l8 _ _ _)⟩
  ·have d3:decide ((b:Int) - (a:Int)≤(o:Int))=true:=decide_eq_true (by omega);have b1:Nat.ble (0+((i:Nat):Int).toNat * 1+1) (ay R).length=true:=bS (k:=i) (by omega) (by omega);have b2:Nat.ble (0+(((a:Int)+((o:Int) - ((b:Int) - (a:Int))))).toNat * 1+1) (aQ (ay R) [af (aH R (a+(o - (b - a))))] (0+((i:Nat):Int).toNat * 1)).length=true:=cH (i:=i) (j:=a+(o - (b - a))) (by omega) (by omega) (by omega) (by omega) _;have e1:=bp (R:=R) (i:=i) (j:=a+(o - (b - a))) (p:=0+((i:Nat):Int).toNat * 1) (q:=0+(((a:Int)+((o:Int) - ((b:Int) - (a:Int))))).toNat * 1) (by omega) (by omega) (by omega) (by omega);have y1:(ay R)[0+(((a:Int)+((o:Int) - ((b:Int) - (a:Int))))).toNat * 1]?=some (af (aH R (a+(o - (b - a))))):=ax (by omega) (by omega);have y2:(ay R)[0+((i:Nat):Int).toNat * 1]?=some (af (aH R i)):=ax (by omega) (by omega);repeat' first|((with_reducible show aU _ _ _ _ _ _ _ _ _);refine RM.DT rfl rfl (by omega) (by omega) ?_)|(refine Ef hO rfl rfl (by omega) (by omega) ?_)|((with_reducible show RM.wpOp _ _ (.convert _ _ _) _ _ _);refine JD (n:=o) (fun _=>rfl) rfl (by omega) ?_)|((with_reducible show RM.wpOp _ _ (.load _ _) _ _ _);refine RM.bC rfl rfl rfl y1 ?_)|((with_reducible show RM.wpOp _ _ (.load _ _) _ _ _);refine RM.bC rfl rfl rfl y2 ?_)|((with_reducible show aG _ _ _ _ _ _);refine RM.e9 rfl rfl rfl rfl rfl rfl b1 ?_)|((with_reducible show aG _ _ _ _ _ _);refine RM.e9 rfl rfl rfl rfl rfl rfl b2 ?_)|refine u1 ?_|refine u2 ?_|fail
   exact ⟨(i+1,sw R i (a+(o - (b - a))),k'),⟨⟨by dsimp only;omega,by dsimp only;omega⟩,hpr.trans (PR.sw (by omega) ⟨by omega,by omega⟩ ⟨by omega,by omega⟩),hk'⟩,(by dsimp only;omega),ah.to (l:=[(0,.aJ 0 v 0 N cc),(1,af (a:Nat)),(6,af ((b:Int) - (a:Int))),(7,.ptr 1 0 0),(8,gQ K2),(9,af ((i+1):Nat))]) (hp:=[aA (sw R i (a+(o - (b - a)))) v,.cells [gQ k'] 0 0]) 2 (by show _=[AB.cells (ay (sw R i (a+(o - (b - a))))) 1 v,_];rw [←e1];rfl) ⟨rfl,rfl,rfl,rfl,rfl,aE (by simp),trivial⟩ (Nat.le_of_ble_eq_true rfl) rfl (l8 _ _ _)⟩
 ·have d2:decide ((i:Int)≤(a:Int)+((b:Int) - (a:Int)) / 4 * 2+1)=false:=decide_eq_false (by omega);have hz:=hQ R w hpr;refine qq1 ?_;repeat' first|refine u1 ?_|refine u2 ?_|fail
  exact hz
theorem LD (one:Bool) (S0:List Int) {a b N:Nat} (hN:S0.length=N) (hb:b≤N) (hab:a+8≤b∧b≤a+25) (h9:N≤1000) {v cc:Nat} {aF:bq} {Q:AV→List AB→bq→Prop} (hQ:∀ S:List Int,PR S0 S a b→Q (.tp []) [aA S v] aF) :
  au TT TB one (.fn 134 [] []) [.aJ 0 v 0 N cc,af (a:Nat),af (b:Nat)] [aA S0 v] aF Q:=by
 refine (au.cut (Q:=fun w hp' amb'=>∃ (S:List Int) (k':Nat),PR S0 S a b∧w=.tp []∧hp'=[aA S v,.cells [gQ k'] 0 0]∧amb'=aF) (JE one S0 hN hb hab h9 fun S k' h1=>⟨S,k',h1,rfl,rfl,rfl⟩) ?_).mono ?_
 ·rintro w hp' amb' ⟨S,k',_,rfl,rfl,rfl⟩;exact ⟨rfl,av _ _⟩
 ·rintro w hp2 amb' ⟨hp',rfl,S,k',h1,rfl,rfl,rfl⟩;exact hQ S h1
end Go.Proofs.YtlpmfgmldmdggaaGreat
open Go Go.RM
namespace Go.Proofs.YtlpmfgmldmdggaaGreat
set_option maxRecDepth 100000
set_option maxHeartbeats 4000000
theorem JF (one:Bool) (S0:List Int) {a b N:Nat} (hN:S0.length=N) (hb:b≤N) (hab:a+8≤b∧b≤a+25) (h9:N≤1000) {v cc:Nat} {aF:bq} {Q:AV→List AB→bq→Prop} (hQ:∀ (S:List Int) (w:Nat),PR S0 S a b→Q (.tp []) [aA S v,.cells [gQ w] 0 0] aF) :
  au TT TB one (.fn 152 [] []) [.aJ 0 v 0 N cc,af (a:Nat),af (b:Nat),CF] [aA S0 v] aF Q:=by
 have hlen:((b - a:Nat):Int)=(b:Int) - (a:Int):=by omega
 obtain ⟨k,hk,h1,h2,o0⟩:=Aa one (n:=b - a) (by omega);have o1:=Ku one (by omega) hk o0;rw [hlen] at o1;have d1:decide ((8:Int)≤(b:Int) - (a:Int))=true:=decide_eq_true (by omega);obtain ⟨q,hq⟩:∃ q:Nat,(q:Int)=((b:Int) - (a:Int)) / 4:=⟨(((b:Int) - (a:Int)) / 4).toNat,Int.toNat_of_nonneg (by omega)⟩;have h4:4 * q≤b - a∧b - a < 4 * q+4:=by omega
 have hp:2 ^ k≤32∧1≤2 ^ k:=by rcases hk with rfl|rfl <;> decide
 generalize hK:2 ^ k=K2 at *
 refine au.body (fn:=Tryz.f152) rfl rfl rfl ?_;refine aa (mu:=fun t=>Nat.beq t 9) ?_;repeat' first|refine u1 ?_|((with_reducible show RM.wpOp _ _ (.convert _ _ _) _ _ _);refine HX (n:=b - a) (fun _=>rfl) (by rw [hlen];rfl) (by omega) ?_)|((with_reducible refine qq3 ?_);refine ak.call o1 rfl rfl ?_)|refine u2 ?_|fail
 refine aB.aO (ah.to (l:=[(0,.aJ 0 v 0 N cc),(1,af (a:Nat)),(8,af ((b:Int) - (a:Int))),(9,.ptr 1 0 0),(10,gQ K2),(11,af ((a+2 * q - 1):Nat))]) (hp:=[aA S0 v,.cells [gQ (b - a)] 0 0]) 2 rfl ⟨rfl,rfl,rfl,rfl,rfl,aE (by omega),trivial⟩ (Nat.le_of_ble_eq_true rfl) rfl (l8 _ _ _)) ?_;refine aB.loop (fun x:Nat × List Int × Nat=>(a+2 * q - 1≤x.1∧x.1≤a+2 * q+2)∧PR S0 x.2.1 a b∧x.2.2 < 18446744073709551616) (fun x=>⟨aM [(0,.aJ 0 v 0 N cc),(1,af (a:Nat)),(8,af ((b:Int) - (a:Int))),(9,.ptr 1 0 0),(10,gQ K2),(11,af (x.1:Nat))],[aA x.2.1 v,.cells [gQ x.2.2] 0 0],aF,false,1⟩) (fun x=>N+10 - x.1) ?_ (a+2 * q - 1,S0,b - a) ⟨⟨qq6 _,by dsimp only;omega⟩,PR.refl _ _ _,by dsimp only;omega⟩;rintro ⟨i,R,w⟩ ⟨⟨i1,i2⟩,hpr,hw⟩;dsimp only at i1 i2 hpr hw;have hRl:R.length=N:=by rw [hpr.len,hN]
 show aB _ _ _ _ ⟨aM [(0,.aJ 0 v 0 N cc),(1,af (a:Nat)),(8,af ((b:Int) - (a:Int))),(9,.ptr 1 0 0),(10,gQ K2),(11,af (i:Nat))],[aA R v,.cells [gQ w] 0 0],aF,false,1⟩ _;by_cases hi:i≤a+2 * q+1
 ·have d2:decide ((i:Int)≤(a:Int)+((b:Int) - (a:Int)) / 4 * 2+1)=true:=decide_eq_true (by omega);refine qq1 ?_;repeat' first|refine u1 ?_|refine u2 ?_|fail
  refine MY one R (fun z k' hz hk'=>?_);have ho:z &&& (K2 - 1)≤K2 - 1:=Nat.and_le_right
  generalize hO:z &&& (K2 - 1)=o at *
  by_cases hol:o < b - a
  ·have d3:decide ((b:Int) - (a:Int)≤(o:Int))=false:=decide_eq_false (by omega);have b1:Nat.ble (0+((i:Nat):Int).toNat * 1+1) (ay R).length=true:=bS (k:=i) (by omega) (by omega);have b2:Nat.ble (0+(((a:Int)+(o:Int))).toNat * 1+1) (aQ (ay R) [af (aH R (a+o))] (0+((i:Nat):Int).toNat * 1)).length=true:=cH (i:=i) (j:=a+o) (by omega) (by omega) (by omega) (by omega) _;have e1:=bp (R:=R) (i:=i) (j:=a+o) (p:=0+((i:Nat):Int).toNat * 1) (q:=0+(((a:Int)+(o:Int))).toNat * 1) (by omega) (by omega) (by omega) (by omega);have y1:(ay R)[0+(((a:Int)+(o:Int))).toNat * 1]?=some (af (aH R (a+o))):=ax (by omega) (by omega);have y2:(ay R)[0+((i:Nat):Int).toNat * 1]?=some (af (aH R i)):=ax (by omega) (by omega);repeat' first|((with_reducible show aU _ _ _ _ _ _ _ _ _);refine RM.DT rfl rfl (by omega) (by omega) ?_)|(refine Ef hO rfl rfl (by omega) (by omega) ?_)|((with_reducible show RM.wpOp _ _ (.convert _ _ _) _ _ _);refine JD (n:=o) (fun _=>rfl) rfl (by omega) ?_)|((with_reducible show RM.wpOp _ _ (.load _ _) _ _ _);refine RM.bC rfl rfl rfl y1 ?_)|((with_reducible show RM.wpOp _ _ (.load _ _) _ _ _);refine RM.bC rfl rfl rfl y2 ?_)|((with_reducible show aG _ _ _ _ _ _);refine RM.e9 rfl rfl rfl rfl rfl rfl b1 ?_)|((with_reducible show aG _ _ _ _ _ _);refine RM.e9 rfl rfl rfl rfl rfl rfl b2 ?_)|refine u1 ?_|refine u2 ?_|fail
   exact ⟨(i+1,sw R i (a+o),k'),⟨⟨by dsimp only;omega,by dsimp only;omega⟩,hpr.trans (PR.sw (by omega) ⟨by omega,by omega⟩ ⟨by omega,by omega⟩),hk'⟩,(by dsimp only;omega),ah.to (l:=[(0,.aJ 0 v 0 N cc),(1,af (a:Nat)),(8,af ((b:Int) - (a:Int))),(9,.ptr 1 0 0),(10,gQ K2),(11,af ((i+1):Nat))]) (hp:=[aA (sw R i (a+o)) v,.cells [gQ k'] 0 0]) 2 (by show _=[AB.cells (ay (sw R i (a+o))) 1 v,_];rw [←e1];rfl) ⟨rfl,rfl,rfl,rfl,rfl,aE (by simp),trivial⟩ (Nat.le_of_ble_eq_true rfl) rfl (l8 _ _ _)⟩
  ·have d3:decide ((b:Int) - (a:Int)≤(o:Int))=true:=decide_eq_true (by omega);have b1:Nat.ble (0+((i:Nat):Int).toNat * 1+1) (ay R).length=true:=bS (k:=i) (by omega) (by omega);have b2:Nat.ble (0+(((a:Int)+((o:Int) - ((b:Int) - (a:Int))))).toNat * 1+1) (aQ (ay R) [af (aH R (a+(o - (b - a))))] (0+((i:Nat):Int).toNat * 1)).length=true:=cH (i:=i) (j:=a+(o - (b - a))) (by omega) (by omega) (by omega) (by omega) _;have e1:=bp (R:=R) (i:=i) (j:=a+(o - (b - a))) (p:=0+((i:Nat):Int).toNat * 1) (q:=0+(((a:Int)+((o:Int) - ((b:Int) - (a:Int))))).toNat * 1) (by omega) (by omega) (by omega) (by omega);have y1:(ay R)[0+(((a:Int)+((o:Int) - ((b:Int) - (a:Int))))).toNat * 1]?=some (af (aH R (a+(o - (b - a))))):=ax (by omega) (by omega);have y2:(ay R)[0+((i:Nat):Int).toNat * 1]?=some (af (aH R i)):=ax (by omega) (by omega);repeat' first|((with_reducible show aU _ _ _ _ _ _ _ _ _);refine RM.DT rfl rfl (by omega) (by omega) ?_)|(refine Ef hO rfl rfl (by omega) (by omega) ?_)|((with_reducible show RM.wpOp _ _ (.convert _ _ _) _ _ _);refine JD (n:=o) (fun _=>rfl) rfl (by omega) ?_)|((with_reducible show RM.wpOp _ _ (.load _ _) _ _ _);refine RM.bC rfl rfl rfl y1 ?_)|((with_reducible show RM.wpOp _ _ (.load _ _) _ _ _);refine RM.bC rfl rfl rfl y2 ?_)|((with_reducible show aG _ _ _ _ _ _);refine RM.e9 rfl rfl rfl rfl rfl rfl b1 ?_)|((with_reducible show aG _ _ _ _ _ _);refine RM.e9 rfl rfl rfl rfl rfl rfl b2 ?_)|refine u1 ?_|refine u2 ?_|fail
   exact ⟨(i+1,sw R i (a+(o - (b - a))),k'),⟨⟨by dsimp only;omega,by dsimp only;omega⟩,hpr.trans (PR.sw (by omega) ⟨by omega,by omega⟩ ⟨by omega,by omega⟩),hk'⟩,(by dsimp only;omega),ah.to (l:=[(0,.aJ 0 v 0 N cc),(1,af (a:Nat)),(8,af ((b:Int) - (a:Int))),(9,.ptr 1 0 0),(10,gQ K2),(11,af ((i+1):Nat))]) (hp:=[aA (sw R i (a+(o - (b - a)))) v,.cells [gQ k'] 0 0]) 2 (by show _=[AB.cells (ay (sw R i (a+(o - (b - a))))) 1 v,_];rw [←e1];rfl) ⟨rfl,rfl,rfl,rfl,rfl,aE (by simp),trivial⟩ (Nat.le_of_ble_eq_true rfl) rfl (l8 _ _ _)⟩
 ·have d2:decide ((i:Int)≤(a:Int)+((b:Int) - (a:Int)) / 4 * 2+1)=false:=decide_eq_false (by omega);have hz:=hQ R w hpr;refine qq1 ?_;repeat' first|refine u1 ?_|refine u2 ?_|fail
  exact hz
theorem LF (one:Bool) (S0:List Int) {a b N:Nat} (hN:S0.length=N) (hb:b≤N) (hab:a+8≤b∧b≤a+25) (h9:N≤1000) {v cc:Nat} {aF:bq} {Q:AV→List AB→bq→Prop} (hQ:∀ S:List Int,PR S0 S a b→Q (.tp []) [aA S v] aF) :
  au TT TB one (.fn 152 [] []) [.aJ 0 v 0 N cc,af (a:Nat),af (b:Nat),CF] [aA S0 v] aF Q:=by
 refine (au.cut (Q:=fun w hp' amb'=>∃ (S:List Int) (k':Nat),PR S0 S a b∧w=.tp []∧hp'=[aA S v,.cells [gQ k'] 0 0]∧amb'=aF) (JF one S0 hN hb hab h9 fun S k' h1=>⟨S,k',h1,rfl,rfl,rfl⟩) ?_).mono ?_
 ·rintro w hp' amb' ⟨S,k',_,rfl,rfl,rfl⟩;exact ⟨rfl,av _ _⟩
 ·rintro w hp2 amb' ⟨hp',rfl,S,k',h1,rfl,rfl,rfl⟩;exact hQ S h1
