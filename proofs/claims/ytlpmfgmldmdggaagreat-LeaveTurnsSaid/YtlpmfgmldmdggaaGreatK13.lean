/-
  Contracts of the program's functions and of the document's. Lemmas alone; their conditions stand in them.
-/
import Derived.Test.YtlpmfgmldmdggaaGreatK10
open Go Go.RM
namespace Go.Proofs.YtlpmfgmldmdggaaGreat
set_option maxRecDepth 100000
set_option maxHeartbeats 4000000
abbrev gS (n:Nat):AV:=.fl (.int .u64 (n:Int))
theorem Mc (one:Bool) (S:List Int) {k:Nat} {v:Nat} {aC:bp} {Q:AV→List AB→bp→Prop} (hQ:∀ z k':Nat,z < 18446744073709551616→k' < 18446744073709551616→Q (gS z) [aA S v,.cells [gS k'] 0 0] aC) :
  au TT TB one (.fn 147 [] []) [.ptr 1 0 0] [aA S v,.cells [gS k] 0 0] aC Q:=by
 refine au.body (fn:=Tryz.f147) rfl rfl rfl ?_;refine qq1 ?_;repeat' first|(refine RM.L9 rfl rfl (fun z hz=>?_))|((with_reducible show aV _ _ _ _ _ _ _ _ _);refine RM.KP rfl rfl (fun z hz=>?_))|((with_reducible show aV _ _ _ _ _ _ _ _ _);refine RM.KQ rfl rfl (fun z hz=>?_))|((with_reducible show aV _ _ _ _ _ _ _ _ _);refine RM.Mb rfl rfl (fun z hz=>?_) (by omega))|refine u1 ?_|refine u2 ?_|fail
 exact hQ _ _ (by omega) (by omega)
theorem Jd (one:Bool):Pu one 141 [gS 8] (af 4):=by
 refine ak.body (fn:=Tryz.f141) rfl rfl rfl rfl ?_;refine qq1 ?_;repeat' first|refine u1 ?_|refine u2 ?_|fail
 show aV TT BinOp.add 3 (Operand.tmp 19) (Operand.tmp 23) (af 0) (af 4) _ _;repeat' first|refine u1 ?_|refine u2 ?_|fail
 exact ⟨[_],⟨Fz.deep rfl,trivial⟩,rfl⟩
theorem Je (one:Bool):Pu one 141 [gS 9] (af 4):=by
 refine ak.body (fn:=Tryz.f141) rfl rfl rfl rfl ?_;refine qq1 ?_;repeat' first|refine u1 ?_|refine u2 ?_|fail
 show aV TT BinOp.add 3 (Operand.tmp 19) (Operand.tmp 23) (af 0) (af 4) _ _;repeat' first|refine u1 ?_|refine u2 ?_|fail
 exact ⟨[_],⟨Fz.deep rfl,trivial⟩,rfl⟩
theorem GZ (one:Bool):Pu one 141 [gS 10] (af 4):=by
 refine ak.body (fn:=Tryz.f141) rfl rfl rfl rfl ?_;refine qq1 ?_;repeat' first|refine u1 ?_|refine u2 ?_|fail
 show aV TT BinOp.add 3 (Operand.tmp 19) (Operand.tmp 23) (af 0) (af 4) _ _;repeat' first|refine u1 ?_|refine u2 ?_|fail
 exact ⟨[_],⟨Fz.deep rfl,trivial⟩,rfl⟩
theorem G0 (one:Bool):Pu one 141 [gS 11] (af 4):=by
 refine ak.body (fn:=Tryz.f141) rfl rfl rfl rfl ?_;refine qq1 ?_;repeat' first|refine u1 ?_|refine u2 ?_|fail
 show aV TT BinOp.add 3 (Operand.tmp 19) (Operand.tmp 23) (af 0) (af 4) _ _;repeat' first|refine u1 ?_|refine u2 ?_|fail
 exact ⟨[_],⟨Fz.deep rfl,trivial⟩,rfl⟩
theorem G1 (one:Bool):Pu one 141 [gS 12] (af 4):=by
 refine ak.body (fn:=Tryz.f141) rfl rfl rfl rfl ?_;refine qq1 ?_;repeat' first|refine u1 ?_|refine u2 ?_|fail
 show aV TT BinOp.add 3 (Operand.tmp 19) (Operand.tmp 23) (af 0) (af 4) _ _;repeat' first|refine u1 ?_|refine u2 ?_|fail
 exact ⟨[_],⟨Fz.deep rfl,trivial⟩,rfl⟩
theorem G2 (one:Bool):Pu one 141 [gS 13] (af 4):=by
 refine ak.body (fn:=Tryz.f141) rfl rfl rfl rfl ?_;refine qq1 ?_;repeat' first|refine u1 ?_|refine u2 ?_|fail
 show aV TT BinOp.add 3 (Operand.tmp 19) (Operand.tmp 23) (af 0) (af 4) _ _;repeat' first|refine u1 ?_|refine u2 ?_|fail
 exact ⟨[_],⟨Fz.deep rfl,trivial⟩,rfl⟩
theorem G3 (one:Bool):Pu one 141 [gS 14] (af 4):=by
 refine ak.body (fn:=Tryz.f141) rfl rfl rfl rfl ?_;refine qq1 ?_;repeat' first|refine u1 ?_|refine u2 ?_|fail
 show aV TT BinOp.add 3 (Operand.tmp 19) (Operand.tmp 23) (af 0) (af 4) _ _;repeat' first|refine u1 ?_|refine u2 ?_|fail
 exact ⟨[_],⟨Fz.deep rfl,trivial⟩,rfl⟩
theorem G4 (one:Bool):Pu one 141 [gS 15] (af 4):=by
 refine ak.body (fn:=Tryz.f141) rfl rfl rfl rfl ?_;refine qq1 ?_;repeat' first|refine u1 ?_|refine u2 ?_|fail
 show aV TT BinOp.add 3 (Operand.tmp 19) (Operand.tmp 23) (af 0) (af 4) _ _;repeat' first|refine u1 ?_|refine u2 ?_|fail
 exact ⟨[_],⟨Fz.deep rfl,trivial⟩,rfl⟩
theorem G5 (one:Bool):Pu one 141 [gS 16] (af 5):=by
 refine ak.body (fn:=Tryz.f141) rfl rfl rfl rfl ?_;refine qq1 ?_;repeat' first|refine u1 ?_|refine u2 ?_|fail
 show aV TT BinOp.add 3 (Operand.tmp 19) (Operand.tmp 23) (af 0) (af 5) _ _;repeat' first|refine u1 ?_|refine u2 ?_|fail
 exact ⟨[_],⟨Fz.deep rfl,trivial⟩,rfl⟩
theorem G6 (one:Bool):Pu one 141 [gS 17] (af 5):=by
 refine ak.body (fn:=Tryz.f141) rfl rfl rfl rfl ?_;refine qq1 ?_;repeat' first|refine u1 ?_|refine u2 ?_|fail
 show aV TT BinOp.add 3 (Operand.tmp 19) (Operand.tmp 23) (af 0) (af 5) _ _;repeat' first|refine u1 ?_|refine u2 ?_|fail
 exact ⟨[_],⟨Fz.deep rfl,trivial⟩,rfl⟩
theorem G7 (one:Bool):Pu one 141 [gS 18] (af 5):=by
 refine ak.body (fn:=Tryz.f141) rfl rfl rfl rfl ?_;refine qq1 ?_;repeat' first|refine u1 ?_|refine u2 ?_|fail
 show aV TT BinOp.add 3 (Operand.tmp 19) (Operand.tmp 23) (af 0) (af 5) _ _;repeat' first|refine u1 ?_|refine u2 ?_|fail
 exact ⟨[_],⟨Fz.deep rfl,trivial⟩,rfl⟩
theorem G8 (one:Bool):Pu one 141 [gS 19] (af 5):=by
 refine ak.body (fn:=Tryz.f141) rfl rfl rfl rfl ?_;refine qq1 ?_;repeat' first|refine u1 ?_|refine u2 ?_|fail
 show aV TT BinOp.add 3 (Operand.tmp 19) (Operand.tmp 23) (af 0) (af 5) _ _;repeat' first|refine u1 ?_|refine u2 ?_|fail
 exact ⟨[_],⟨Fz.deep rfl,trivial⟩,rfl⟩
theorem G9 (one:Bool):Pu one 141 [gS 20] (af 5):=by
 refine ak.body (fn:=Tryz.f141) rfl rfl rfl rfl ?_;refine qq1 ?_;repeat' first|refine u1 ?_|refine u2 ?_|fail
 show aV TT BinOp.add 3 (Operand.tmp 19) (Operand.tmp 23) (af 0) (af 5) _ _;repeat' first|refine u1 ?_|refine u2 ?_|fail
 exact ⟨[_],⟨Fz.deep rfl,trivial⟩,rfl⟩
theorem He (one:Bool):Pu one 141 [gS 21] (af 5):=by
 refine ak.body (fn:=Tryz.f141) rfl rfl rfl rfl ?_;refine qq1 ?_;repeat' first|refine u1 ?_|refine u2 ?_|fail
 show aV TT BinOp.add 3 (Operand.tmp 19) (Operand.tmp 23) (af 0) (af 5) _ _;repeat' first|refine u1 ?_|refine u2 ?_|fail
 exact ⟨[_],⟨Fz.deep rfl,trivial⟩,rfl⟩
theorem Hf (one:Bool):Pu one 141 [gS 22] (af 5):=by
 refine ak.body (fn:=Tryz.f141) rfl rfl rfl rfl ?_;refine qq1 ?_;repeat' first|refine u1 ?_|refine u2 ?_|fail
 show aV TT BinOp.add 3 (Operand.tmp 19) (Operand.tmp 23) (af 0) (af 5) _ _;repeat' first|refine u1 ?_|refine u2 ?_|fail
 exact ⟨[_],⟨Fz.deep rfl,trivial⟩,rfl⟩
theorem Hg (one:Bool):Pu one 141 [gS 23] (af 5):=by
 refine ak.body (fn:=Tryz.f141) rfl rfl rfl rfl ?_;refine qq1 ?_;repeat' first|refine u1 ?_|refine u2 ?_|fail
 show aV TT BinOp.add 3 (Operand.tmp 19) (Operand.tmp 23) (af 0) (af 5) _ _;repeat' first|refine u1 ?_|refine u2 ?_|fail
 exact ⟨[_],⟨Fz.deep rfl,trivial⟩,rfl⟩
theorem Hh (one:Bool):Pu one 141 [gS 24] (af 5):=by
 refine ak.body (fn:=Tryz.f141) rfl rfl rfl rfl ?_;refine qq1 ?_;repeat' first|refine u1 ?_|refine u2 ?_|fail
 show aV TT BinOp.add 3 (Operand.tmp 19) (Operand.tmp 23) (af 0) (af 5) _ _;repeat' first|refine u1 ?_|refine u2 ?_|fail
 exact ⟨[_],⟨Fz.deep rfl,trivial⟩,rfl⟩
theorem Hi (one:Bool):Pu one 141 [gS 25] (af 5):=by
 refine ak.body (fn:=Tryz.f141) rfl rfl rfl rfl ?_;refine qq1 ?_;repeat' first|refine u1 ?_|refine u2 ?_|fail
 show aV TT BinOp.add 3 (Operand.tmp 19) (Operand.tmp 23) (af 0) (af 5) _ _;repeat' first|refine u1 ?_|refine u2 ?_|fail
 exact ⟨[_],⟨Fz.deep rfl,trivial⟩,rfl⟩
theorem zZ (one:Bool) {n:Nat} (h:8≤n∧n≤25):∃ k:Nat,(k=4∨k=5)∧n < 2 ^ k∧2 ^ k≤2 * n∧Pu one 141 [gS n] (af (k:Nat)):=by
 obtain rfl|rfl|rfl|rfl|rfl|rfl|rfl|rfl|rfl|rfl|rfl|rfl|rfl|rfl|rfl|rfl|rfl|rfl:n=8∨n=9∨n=10∨n=11∨n=12∨n=13∨n=14∨n=15∨n=16∨n=17∨n=18∨n=19∨n=20∨n=21∨n=22∨n=23∨n=24∨n=25:=by omega
 ·exact ⟨4,.inl rfl,by decide,by decide,Jd one⟩
 ·exact ⟨4,.inl rfl,by decide,by decide,Je one⟩
 ·exact ⟨4,.inl rfl,by decide,by decide,GZ one⟩
 ·exact ⟨4,.inl rfl,by decide,by decide,G0 one⟩
 ·exact ⟨4,.inl rfl,by decide,by decide,G1 one⟩
 ·exact ⟨4,.inl rfl,by decide,by decide,G2 one⟩
 ·exact ⟨4,.inl rfl,by decide,by decide,G3 one⟩
 ·exact ⟨4,.inl rfl,by decide,by decide,G4 one⟩
 ·exact ⟨5,.inr rfl,by decide,by decide,G5 one⟩
 ·exact ⟨5,.inr rfl,by decide,by decide,G6 one⟩
 ·exact ⟨5,.inr rfl,by decide,by decide,G7 one⟩
 ·exact ⟨5,.inr rfl,by decide,by decide,G8 one⟩
 ·exact ⟨5,.inr rfl,by decide,by decide,G9 one⟩
 ·exact ⟨5,.inr rfl,by decide,by decide,He one⟩
 ·exact ⟨5,.inr rfl,by decide,by decide,Hf one⟩
 ·exact ⟨5,.inr rfl,by decide,by decide,Hg one⟩
 ·exact ⟨5,.inr rfl,by decide,by decide,Hh one⟩
 ·exact ⟨5,.inr rfl,by decide,by decide,Hi one⟩
theorem Hj (one:Bool) {n k:Nat} (h:Pu one 141 [gS n] (af (k:Nat))):Pu one 117 [gS n] (af (k:Nat)):=by
 refine ak.body (fn:=Tryz.f117) rfl rfl rfl rfl ?_;refine qq1 ?_;repeat' first|refine u1 ?_|((with_reducible refine qq3 ?_);refine ak.call h rfl rfl ?_)|refine u2 ?_|fail
 exact ⟨[_],⟨Fz.deep rfl,trivial⟩,rfl⟩
section
variable {own : Bool} {fr : Nat → AV} {hp : List AB} {K : AV → List AB → Prop} {x : Operand} {n : Nat}
theorem Hl {d:TypeId} (hd:∀ n:Int,di (aO TT.P (convert 3 d (.int .i64 n)))=some (.int .u64 (IntKind.wrap .u64 n),.none)) (hx:bg fr x=.fl (.int .i64 ((n:Nat):Int))) (h:n < 18446744073709551616) (k:K (gS n) hp):RM.wpOp TT own (.convert 3 d x) fr hp K:=by show zk TT 3 d (bg fr x) hp K;rw [hx];have:=hd ((n:Nat):Int);rw [wrap_u64 h] at this;exact ⟨_,rfl,_,this,rfl,k⟩
theorem Jf {d:TypeId} (hd:∀ n:Int,di (aO TT.P (convert d 3 (.int .u64 n)))=some (.int .i64 (IntKind.wrap .i64 n),.none)) (hx:bg fr x=.fl (.int .u64 ((n:Nat):Int))) (h:n < 1000000) (k:K (af (n:Nat)) hp):RM.wpOp TT own (.convert d 3 x) fr hp K:=by show zk TT d 3 (bg fr x) hp K;rw [hx];have:=hd ((n:Nat):Int);rw [IntWalk.i64_in ((n:Nat):Int) (by omega)] at this;exact ⟨_,rfl,_,this,rfl,k⟩
end
theorem JV (one:Bool) {n k:Nat} (hn:n≤25) (hk:k=4∨k=5) (h:Pu one 141 [gS n] (af (k:Nat))):Pu one 146 [af (n:Nat)] (gS (2 ^ k)):=by
 have o1:=Hj one h;have hk8:k < 8:=by omega
 refine ak.body (fn:=Tryz.f146) rfl rfl rfl rfl ?_;refine qq1 ?_;repeat' first|refine u1 ?_|((with_reducible show RM.wpOp _ _ (.convert _ _ _) _ _ _);refine Hl (fun _=>rfl) rfl (by omega) ?_)|((with_reducible refine qq3 ?_);refine ak.call o1 rfl rfl ?_)|((with_reducible show aV _ _ _ _ _ _ _ _ _);refine RM.LU (j:=k) rfl rfl hk8 ?_)|refine u2 ?_|fail
 exact ⟨[_],⟨Fz.deep rfl,trivial⟩,rfl⟩
end Go.Proofs.YtlpmfgmldmdggaaGreat
open Go Go.RM
namespace Go.Proofs.YtlpmfgmldmdggaaGreat
set_option maxRecDepth 100000
set_option maxHeartbeats 4000000
theorem l9 (S:List Int) (v w:Nat):([aA S v,.cells [gS w] 0 0]:List AB).all (AB.i5 2)=true:=by have h1:AB.i5 2 (aA S v)=true:=iu 2 (fun _=>rfl) _;have h2:AB.i5 2 (.cells [gS w] 0 0)=true:=rfl;simp only [List.all_cons,List.all_nil,h1,h2,Bool.and_true]
theorem DN {T:bF} {t:TypeId} {x y:Operand} {a b:AV} {hp:List AB} {K:AV→List AB→Prop} {m n o:Nat} (hO:m &&& n=o) (ha:a=.fl (.int .u64 (m:Int))) (hb:b=.fl (.int .u64 (n:Int))) (hm:m < 18446744073709551616) (hn:n < 18446744073709551616) (h:K (gS o) hp):aV T .and t x y a b hp K:=RM.LR ha hb hm hn (by rw [hO];exact h)
theorem Jg (one:Bool) (S0:List Int) {a b N:Nat} (hN:S0.length=N) (hb:b≤N) (hab:a+8≤b∧b≤a+25) (h9:N≤1000) {v cc:Nat} {aC:bp} {Q:AV→List AB→bp→Prop} (hQ:∀ (S:List Int) (w:Nat),PR S0 S a b→Q (.tp []) [aA S v,.cells [gS w] 0 0] aC) :
  au TT TB one (.fn 134 [] []) [.aI 0 v 0 N cc,af (a:Nat),af (b:Nat)] [aA S0 v] aC Q:=by
 have hlen:((b - a:Nat):Int)=(b:Int) - (a:Int):=by omega
 obtain ⟨k,hk,h1,h2,o0⟩:=zZ one (n:=b - a) (by omega);have o1:=JV one (by omega) hk o0;rw [hlen] at o1;have d1:decide ((8:Int)≤(b:Int) - (a:Int))=true:=decide_eq_true (by omega);obtain ⟨q,hq⟩:∃ q:Nat,(q:Int)=((b:Int) - (a:Int)) / 4:=⟨(((b:Int) - (a:Int)) / 4).toNat,Int.toNat_of_nonneg (by omega)⟩;have h4:4 * q≤b - a∧b - a < 4 * q+4:=by omega
 have hp:2 ^ k≤32∧1≤2 ^ k:=by rcases hk with rfl|rfl <;> decide
 generalize hK:2 ^ k=K2 at *
 refine au.body (fn:=Tryz.f134) rfl rfl rfl ?_;refine aa (mu:=fun t=>Nat.beq t 7) ?_;repeat' first|refine u1 ?_|((with_reducible show RM.wpOp _ _ (.convert _ _ _) _ _ _);refine Hl (n:=b - a) (fun _=>rfl) (by rw [hlen];rfl) (by omega) ?_)|((with_reducible refine qq3 ?_);refine ak.call o1 rfl rfl ?_)|refine u2 ?_|fail
 refine aB.aP (ah.to (l:=[(0,.aI 0 v 0 N cc),(1,af (a:Nat)),(6,af ((b:Int) - (a:Int))),(7,.ptr 1 0 0),(8,gS K2),(9,af ((a+2 * q - 1):Nat))]) (hp:=[aA S0 v,.cells [gS (b - a)] 0 0]) 2 rfl ⟨rfl,rfl,rfl,rfl,rfl,aD (by omega),trivial⟩ (Nat.le_of_ble_eq_true rfl) rfl (l9 _ _ _)) ?_;refine aB.loop (fun x:Nat × List Int × Nat=>(a+2 * q - 1≤x.1∧x.1≤a+2 * q+2)∧PR S0 x.2.1 a b∧x.2.2 < 18446744073709551616) (fun x=>⟨aL [(0,.aI 0 v 0 N cc),(1,af (a:Nat)),(6,af ((b:Int) - (a:Int))),(7,.ptr 1 0 0),(8,gS K2),(9,af (x.1:Nat))],[aA x.2.1 v,.cells [gS x.2.2] 0 0],aC,false,1⟩) (fun x=>N+10 - x.1) ?_ (a+2 * q - 1,S0,b - a) ⟨⟨qq6 _,by dsimp only;omega⟩,PR.refl _ _ _,by dsimp only;omega⟩;rintro ⟨i,R,w⟩ ⟨⟨i1,i2⟩,hpr,hw⟩;dsimp only at i1 i2 hpr hw;have hRl:R.length=N:=by rw [hpr.len,hN]
 show aB _ _ _ _ ⟨aL [(0,.aI 0 v 0 N cc),(1,af (a:Nat)),(6,af ((b:Int) - (a:Int))),(7,.ptr 1 0 0),(8,gS K2),(9,af (i:Nat))],[aA R v,.cells [gS w] 0 0],aC,false,1⟩ _;by_cases hi:i≤a+2 * q+1
 ·have d2:decide ((i:Int)≤(a:Int)+((b:Int) - (a:Int)) / 4 * 2+1)=true:=decide_eq_true (by omega);refine qq1 ?_;repeat' first|refine u1 ?_|refine u2 ?_|fail
  refine Mc one R (fun z k' hz hk'=>?_);have ho:z &&& (K2 - 1)≤K2 - 1:=Nat.and_le_right
  generalize hO:z &&& (K2 - 1)=o at *
  by_cases hol:o < b - a
  ·have d3:decide ((b:Int) - (a:Int)≤(o:Int))=false:=decide_eq_false (by omega);have b1:Nat.ble (0+((i:Nat):Int).toNat * 1+1) (ay R).length=true:=bU (k:=i) (by omega) (by omega);have b2:Nat.ble (0+(((a:Int)+(o:Int))).toNat * 1+1) (aQ (ay R) [af (aG R (a+o))] (0+((i:Nat):Int).toNat * 1)).length=true:=cN (i:=i) (j:=a+o) (by omega) (by omega) (by omega) (by omega) _;have e1:=bu (R:=R) (i:=i) (j:=a+o) (p:=0+((i:Nat):Int).toNat * 1) (q:=0+(((a:Int)+(o:Int))).toNat * 1) (by omega) (by omega) (by omega) (by omega);have y1:(ay R)[0+(((a:Int)+(o:Int))).toNat * 1]?=some (af (aG R (a+o))):=ax (by omega) (by omega);have y2:(ay R)[0+((i:Nat):Int).toNat * 1]?=some (af (aG R i)):=ax (by omega) (by omega);repeat' first|((with_reducible show aV _ _ _ _ _ _ _ _ _);refine RM.Dy rfl rfl (by omega) (by omega) ?_)|(refine DN hO rfl rfl (by omega) (by omega) ?_)|((with_reducible show RM.wpOp _ _ (.convert _ _ _) _ _ _);refine Jf (n:=o) (fun _=>rfl) rfl (by omega) ?_)|((with_reducible show RM.wpOp _ _ (.load _ _) _ _ _);refine RM.bD rfl rfl rfl y1 ?_)|((with_reducible show RM.wpOp _ _ (.load _ _) _ _ _);refine RM.bD rfl rfl rfl y2 ?_)|((with_reducible show aF _ _ _ _ _ _);refine RM.fy rfl rfl rfl rfl rfl rfl b1 ?_)|((with_reducible show aF _ _ _ _ _ _);refine RM.fy rfl rfl rfl rfl rfl rfl b2 ?_)|refine u1 ?_|refine u2 ?_|fail
   exact ⟨(i+1,sw R i (a+o),k'),⟨⟨by dsimp only;omega,by dsimp only;omega⟩,hpr.trans (PR.sw (by omega) ⟨by omega,by omega⟩ ⟨by omega,by omega⟩),hk'⟩,(by dsimp only;omega),ah.to (l:=[(0,.aI 0 v 0 N cc),(1,af (a:Nat)),(6,af ((b:Int) - (a:Int))),(7,.ptr 1 0 0),(8,gS K2),(9,af ((i+1):Nat))]) (hp:=[aA (sw R i (a+o)) v,.cells [gS k'] 0 0]) 2 (by show _=[AB.cells (ay (sw R i (a+o))) 1 v,_];rw [←e1];rfl) ⟨rfl,rfl,rfl,rfl,rfl,aD (by simp),trivial⟩ (Nat.le_of_ble_eq_true rfl) rfl (l9 _ _ _)⟩
  ·have d3:decide ((b:Int) - (a:Int)≤(o:Int))=true:=decide_eq_true (by omega);have b1:Nat.ble (0+((i:Nat):Int).toNat * 1+1) (ay R).length=true:=bU (k:=i) (by omega) (by omega);have b2:Nat.ble (0+(((a:Int)+((o:Int) - ((b:Int) - (a:Int))))).toNat * 1+1) (aQ (ay R) [af (aG R (a+(o - (b - a))))] (0+((i:Nat):Int).toNat * 1)).length=true:=cN (i:=i) (j:=a+(o - (b - a))) (by omega) (by omega) (by omega) (by omega) _;have e1:=bu (R:=R) (i:=i) (j:=a+(o - (b - a))) (p:=0+((i:Nat):Int).toNat * 1) (q:=0+(((a:Int)+((o:Int) - ((b:Int) - (a:Int))))).toNat * 1) (by omega) (by omega) (by omega) (by omega);have y1:(ay R)[0+(((a:Int)+((o:Int) - ((b:Int) - (a:Int))))).toNat * 1]?=some (af (aG R (a+(o - (b - a))))):=ax (by omega) (by omega);have y2:(ay R)[0+((i:Nat):Int).toNat * 1]?=some (af (aG R i)):=ax (by omega) (by omega);repeat' first|((with_reducible show aV _ _ _ _ _ _ _ _ _);refine RM.Dy rfl rfl (by omega) (by omega) ?_)|(refine DN hO rfl rfl (by omega) (by omega) ?_)|((with_reducible show RM.wpOp _ _ (.convert _ _ _) _ _ _);refine Jf (n:=o) (fun _=>rfl) rfl (by omega) ?_)|((with_reducible show RM.wpOp _ _ (.load _ _) _ _ _);refine RM.bD rfl rfl rfl y1 ?_)|((with_reducible show RM.wpOp _ _ (.load _ _) _ _ _);refine RM.bD rfl rfl rfl y2 ?_)|((with_reducible show aF _ _ _ _ _ _);refine RM.fy rfl rfl rfl rfl rfl rfl b1 ?_)|((with_reducible show aF _ _ _ _ _ _);refine RM.fy rfl rfl rfl rfl rfl rfl b2 ?_)|refine u1 ?_|refine u2 ?_|fail
   exact ⟨(i+1,sw R i (a+(o - (b - a))),k'),⟨⟨by dsimp only;omega,by dsimp only;omega⟩,hpr.trans (PR.sw (by omega) ⟨by omega,by omega⟩ ⟨by omega,by omega⟩),hk'⟩,(by dsimp only;omega),ah.to (l:=[(0,.aI 0 v 0 N cc),(1,af (a:Nat)),(6,af ((b:Int) - (a:Int))),(7,.ptr 1 0 0),(8,gS K2),(9,af ((i+1):Nat))]) (hp:=[aA (sw R i (a+(o - (b - a)))) v,.cells [gS k'] 0 0]) 2 (by show _=[AB.cells (ay (sw R i (a+(o - (b - a))))) 1 v,_];rw [←e1];rfl) ⟨rfl,rfl,rfl,rfl,rfl,aD (by simp),trivial⟩ (Nat.le_of_ble_eq_true rfl) rfl (l9 _ _ _)⟩
 ·have d2:decide ((i:Int)≤(a:Int)+((b:Int) - (a:Int)) / 4 * 2+1)=false:=decide_eq_false (by omega);have hz:=hQ R w hpr;refine qq1 ?_;repeat' first|refine u1 ?_|refine u2 ?_|fail
  exact hz
theorem KR (one:Bool) (S0:List Int) {a b N:Nat} (hN:S0.length=N) (hb:b≤N) (hab:a+8≤b∧b≤a+25) (h9:N≤1000) {v cc:Nat} {aC:bp} {Q:AV→List AB→bp→Prop} (hQ:∀ S:List Int,PR S0 S a b→Q (.tp []) [aA S v] aC) :
  au TT TB one (.fn 134 [] []) [.aI 0 v 0 N cc,af (a:Nat),af (b:Nat)] [aA S0 v] aC Q:=by
 refine (au.cut (Q:=fun w hp' amb'=>∃ (S:List Int) (k':Nat),PR S0 S a b∧w=.tp []∧hp'=[aA S v,.cells [gS k'] 0 0]∧amb'=aC) (Jg one S0 hN hb hab h9 fun S k' h1=>⟨S,k',h1,rfl,rfl,rfl⟩) ?_).mono ?_
 ·rintro w hp' amb' ⟨S,k',_,rfl,rfl,rfl⟩;exact ⟨rfl,av _ _⟩
 ·rintro w hp2 amb' ⟨hp',rfl,S,k',h1,rfl,rfl,rfl⟩;exact hQ S h1
end Go.Proofs.YtlpmfgmldmdggaaGreat
open Go Go.RM
namespace Go.Proofs.YtlpmfgmldmdggaaGreat
set_option maxRecDepth 100000
set_option maxHeartbeats 4000000
theorem Jh (one:Bool) (S0:List Int) {a b N:Nat} (hN:S0.length=N) (hb:b≤N) (hab:a+8≤b∧b≤a+25) (h9:N≤1000) {v cc:Nat} {aC:bp} {Q:AV→List AB→bp→Prop} (hQ:∀ (S:List Int) (w:Nat),PR S0 S a b→Q (.tp []) [aA S v,.cells [gS w] 0 0] aC) :
  au TT TB one (.fn 152 [] []) [.aI 0 v 0 N cc,af (a:Nat),af (b:Nat),CF] [aA S0 v] aC Q:=by
 have hlen:((b - a:Nat):Int)=(b:Int) - (a:Int):=by omega
 obtain ⟨k,hk,h1,h2,o0⟩:=zZ one (n:=b - a) (by omega);have o1:=JV one (by omega) hk o0;rw [hlen] at o1;have d1:decide ((8:Int)≤(b:Int) - (a:Int))=true:=decide_eq_true (by omega);obtain ⟨q,hq⟩:∃ q:Nat,(q:Int)=((b:Int) - (a:Int)) / 4:=⟨(((b:Int) - (a:Int)) / 4).toNat,Int.toNat_of_nonneg (by omega)⟩;have h4:4 * q≤b - a∧b - a < 4 * q+4:=by omega
 have hp:2 ^ k≤32∧1≤2 ^ k:=by rcases hk with rfl|rfl <;> decide
 generalize hK:2 ^ k=K2 at *
 refine au.body (fn:=Tryz.f152) rfl rfl rfl ?_;refine aa (mu:=fun t=>Nat.beq t 9) ?_;repeat' first|refine u1 ?_|((with_reducible show RM.wpOp _ _ (.convert _ _ _) _ _ _);refine Hl (n:=b - a) (fun _=>rfl) (by rw [hlen];rfl) (by omega) ?_)|((with_reducible refine qq3 ?_);refine ak.call o1 rfl rfl ?_)|refine u2 ?_|fail
 refine aB.aP (ah.to (l:=[(0,.aI 0 v 0 N cc),(1,af (a:Nat)),(8,af ((b:Int) - (a:Int))),(9,.ptr 1 0 0),(10,gS K2),(11,af ((a+2 * q - 1):Nat))]) (hp:=[aA S0 v,.cells [gS (b - a)] 0 0]) 2 rfl ⟨rfl,rfl,rfl,rfl,rfl,aD (by omega),trivial⟩ (Nat.le_of_ble_eq_true rfl) rfl (l9 _ _ _)) ?_;refine aB.loop (fun x:Nat × List Int × Nat=>(a+2 * q - 1≤x.1∧x.1≤a+2 * q+2)∧PR S0 x.2.1 a b∧x.2.2 < 18446744073709551616) (fun x=>⟨aL [(0,.aI 0 v 0 N cc),(1,af (a:Nat)),(8,af ((b:Int) - (a:Int))),(9,.ptr 1 0 0),(10,gS K2),(11,af (x.1:Nat))],[aA x.2.1 v,.cells [gS x.2.2] 0 0],aC,false,1⟩) (fun x=>N+10 - x.1) ?_ (a+2 * q - 1,S0,b - a) ⟨⟨qq6 _,by dsimp only;omega⟩,PR.refl _ _ _,by dsimp only;omega⟩;rintro ⟨i,R,w⟩ ⟨⟨i1,i2⟩,hpr,hw⟩;dsimp only at i1 i2 hpr hw;have hRl:R.length=N:=by rw [hpr.len,hN]
 show aB _ _ _ _ ⟨aL [(0,.aI 0 v 0 N cc),(1,af (a:Nat)),(8,af ((b:Int) - (a:Int))),(9,.ptr 1 0 0),(10,gS K2),(11,af (i:Nat))],[aA R v,.cells [gS w] 0 0],aC,false,1⟩ _;by_cases hi:i≤a+2 * q+1
 ·have d2:decide ((i:Int)≤(a:Int)+((b:Int) - (a:Int)) / 4 * 2+1)=true:=decide_eq_true (by omega);refine qq1 ?_;repeat' first|refine u1 ?_|refine u2 ?_|fail
  refine Mc one R (fun z k' hz hk'=>?_);have ho:z &&& (K2 - 1)≤K2 - 1:=Nat.and_le_right
  generalize hO:z &&& (K2 - 1)=o at *
  by_cases hol:o < b - a
  ·have d3:decide ((b:Int) - (a:Int)≤(o:Int))=false:=decide_eq_false (by omega);have b1:Nat.ble (0+((i:Nat):Int).toNat * 1+1) (ay R).length=true:=bU (k:=i) (by omega) (by omega);have b2:Nat.ble (0+(((a:Int)+(o:Int))).toNat * 1+1) (aQ (ay R) [af (aG R (a+o))] (0+((i:Nat):Int).toNat * 1)).length=true:=cN (i:=i) (j:=a+o) (by omega) (by omega) (by omega) (by omega) _;have e1:=bu (R:=R) (i:=i) (j:=a+o) (p:=0+((i:Nat):Int).toNat * 1) (q:=0+(((a:Int)+(o:Int))).toNat * 1) (by omega) (by omega) (by omega) (by omega);have y1:(ay R)[0+(((a:Int)+(o:Int))).toNat * 1]?=some (af (aG R (a+o))):=ax (by omega) (by omega);have y2:(ay R)[0+((i:Nat):Int).toNat * 1]?=some (af (aG R i)):=ax (by omega) (by omega);repeat' first|((with_reducible show aV _ _ _ _ _ _ _ _ _);refine RM.Dy rfl rfl (by omega) (by omega) ?_)|(refine DN hO rfl rfl (by omega) (by omega) ?_)|((with_reducible show RM.wpOp _ _ (.convert _ _ _) _ _ _);refine Jf (n:=o) (fun _=>rfl) rfl (by omega) ?_)|((with_reducible show RM.wpOp _ _ (.load _ _) _ _ _);refine RM.bD rfl rfl rfl y1 ?_)|((with_reducible show RM.wpOp _ _ (.load _ _) _ _ _);refine RM.bD rfl rfl rfl y2 ?_)|((with_reducible show aF _ _ _ _ _ _);refine RM.fy rfl rfl rfl rfl rfl rfl b1 ?_)|((with_reducible show aF _ _ _ _ _ _);refine RM.fy rfl rfl rfl rfl rfl rfl b2 ?_)|refine u1 ?_|refine u2 ?_|fail
   exact ⟨(i+1,sw R i (a+o),k'),⟨⟨by dsimp only;omega,by dsimp only;omega⟩,hpr.trans (PR.sw (by omega) ⟨by omega,by omega⟩ ⟨by omega,by omega⟩),hk'⟩,(by dsimp only;omega),ah.to (l:=[(0,.aI 0 v 0 N cc),(1,af (a:Nat)),(8,af ((b:Int) - (a:Int))),(9,.ptr 1 0 0),(10,gS K2),(11,af ((i+1):Nat))]) (hp:=[aA (sw R i (a+o)) v,.cells [gS k'] 0 0]) 2 (by show _=[AB.cells (ay (sw R i (a+o))) 1 v,_];rw [←e1];rfl) ⟨rfl,rfl,rfl,rfl,rfl,aD (by simp),trivial⟩ (Nat.le_of_ble_eq_true rfl) rfl (l9 _ _ _)⟩
  ·have d3:decide ((b:Int) - (a:Int)≤(o:Int))=true:=decide_eq_true (by omega);have b1:Nat.ble (0+((i:Nat):Int).toNat * 1+1) (ay R).length=true:=bU (k:=i) (by omega) (by omega);have b2:Nat.ble (0+(((a:Int)+((o:Int) - ((b:Int) - (a:Int))))).toNat * 1+1) (aQ (ay R) [af (aG R (a+(o - (b - a))))] (0+((i:Nat):Int).toNat * 1)).length=true:=cN (i:=i) (j:=a+(o - (b - a))) (by omega) (by omega) (by omega) (by omega) _;have e1:=bu (R:=R) (i:=i) (j:=a+(o - (b - a))) (p:=0+((i:Nat):Int).toNat * 1) (q:=0+(((a:Int)+((o:Int) - ((b:Int) - (a:Int))))).toNat * 1) (by omega) (by omega) (by omega) (by omega);have y1:(ay R)[0+(((a:Int)+((o:Int) - ((b:Int) - (a:Int))))).toNat * 1]?=some (af (aG R (a+(o - (b - a))))):=ax (by omega) (by omega);have y2:(ay R)[0+((i:Nat):Int).toNat * 1]?=some (af (aG R i)):=ax (by omega) (by omega);repeat' first|((with_reducible show aV _ _ _ _ _ _ _ _ _);refine RM.Dy rfl rfl (by omega) (by omega) ?_)|(refine DN hO rfl rfl (by omega) (by omega) ?_)|((with_reducible show RM.wpOp _ _ (.convert _ _ _) _ _ _);refine Jf (n:=o) (fun _=>rfl) rfl (by omega) ?_)|((with_reducible show RM.wpOp _ _ (.load _ _) _ _ _);refine RM.bD rfl rfl rfl y1 ?_)|((with_reducible show RM.wpOp _ _ (.load _ _) _ _ _);refine RM.bD rfl rfl rfl y2 ?_)|((with_reducible show aF _ _ _ _ _ _);refine RM.fy rfl rfl rfl rfl rfl rfl b1 ?_)|((with_reducible show aF _ _ _ _ _ _);refine RM.fy rfl rfl rfl rfl rfl rfl b2 ?_)|refine u1 ?_|refine u2 ?_|fail
   exact ⟨(i+1,sw R i (a+(o - (b - a))),k'),⟨⟨by dsimp only;omega,by dsimp only;omega⟩,hpr.trans (PR.sw (by omega) ⟨by omega,by omega⟩ ⟨by omega,by omega⟩),hk'⟩,(by dsimp only;omega),ah.to (l:=[(0,.aI 0 v 0 N cc),(1,af (a:Nat)),(8,af ((b:Int) - (a:Int))),(9,.ptr 1 0 0),(10,gS K2),(11,af ((i+1):Nat))]) (hp:=[aA (sw R i (a+(o - (b - a)))) v,.cells [gS k'] 0 0]) 2 (by show _=[AB.cells (ay (sw R i (a+(o - (b - a))))) 1 v,_];rw [←e1];rfl) ⟨rfl,rfl,rfl,rfl,rfl,aD (by simp),trivial⟩ (Nat.le_of_ble_eq_true rfl) rfl (l9 _ _ _)⟩
 ·have d2:decide ((i:Int)≤(a:Int)+((b:Int) - (a:Int)) / 4 * 2+1)=false:=decide_eq_false (by omega);have hz:=hQ R w hpr;refine qq1 ?_;repeat' first|refine u1 ?_|refine u2 ?_|fail
  exact hz
theorem KT (one:Bool) (S0:List Int) {a b N:Nat} (hN:S0.length=N) (hb:b≤N) (hab:a+8≤b∧b≤a+25) (h9:N≤1000) {v cc:Nat} {aC:bp} {Q:AV→List AB→bp→Prop} (hQ:∀ S:List Int,PR S0 S a b→Q (.tp []) [aA S v] aC) :
  au TT TB one (.fn 152 [] []) [.aI 0 v 0 N cc,af (a:Nat),af (b:Nat),CF] [aA S0 v] aC Q:=by
 refine (au.cut (Q:=fun w hp' amb'=>∃ (S:List Int) (k':Nat),PR S0 S a b∧w=.tp []∧hp'=[aA S v,.cells [gS k'] 0 0]∧amb'=aC) (Jh one S0 hN hb hab h9 fun S k' h1=>⟨S,k',h1,rfl,rfl,rfl⟩) ?_).mono ?_
 ·rintro w hp' amb' ⟨S,k',_,rfl,rfl,rfl⟩;exact ⟨rfl,av _ _⟩
 ·rintro w hp2 amb' ⟨hp',rfl,S,k',h1,rfl,rfl,rfl⟩;exact hQ S h1
