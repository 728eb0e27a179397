/-
  Contracts of the program's functions and of the document's. Lemmas alone; their conditions stand in them.
-/
import Derived.Test.YtlpmfgmldmdggaaGreatK13
open Go Go.RM
namespace Go.Proofs.YtlpmfgmldmdggaaGreat
set_option maxRecDepth 100000
set_option maxHeartbeats 4000000
abbrev jv (n:Nat):AV:=.fl (.int .u64 (n:Int))
theorem Mg (one:Bool) (S:List Int) {k:Nat} {v:Nat} {aC:bJ} {Q:AV→List AB→bJ→Prop} (hQ:∀ z k':Nat,z < 18446744073709551616→k' < 18446744073709551616→Q (jv z) [aM S v,.cells [jv k'] 0 0] aC) :
  au TT TB one (.fn 147 [] []) [.ptr 1 0 0] [aM S v,.cells [jv k] 0 0] aC Q:=by
 refine au.body (fn:=Tryz.f147) rfl rfl rfl ?_;refine qq1 ?_;repeat' first|(refine RM.LA rfl rfl (fun z hz=>?_))|((with_reducible show aQ _ _ _ _ _ _ _ _ _);refine RM.Kq rfl rfl (fun z hz=>?_))|((with_reducible show aQ _ _ _ _ _ _ _ _ _);refine RM.Kr rfl rfl (fun z hz=>?_))|((with_reducible show aQ _ _ _ _ _ _ _ _ _);refine RM.LB rfl rfl (fun z hz=>?_) (by omega))|refine u1 ?_|refine u2 ?_|fail
 exact hQ _ _ (by omega) (by omega)
theorem IK (one:Bool):Pu one 141 [jv 8] (af 4):=by
 refine ah.body (fn:=Tryz.f141) rfl rfl rfl rfl ?_;refine qq1 ?_;repeat' first|refine u1 ?_|refine u2 ?_|fail
 show aQ TT BinOp.add 3 (Operand.tmp 19) (Operand.tmp 23) (af 0) (af 4) _ _;repeat' first|refine u1 ?_|refine u2 ?_|fail
 exact ⟨[_],⟨Fz.deep rfl,trivial⟩,rfl⟩
theorem IL (one:Bool):Pu one 141 [jv 9] (af 4):=by
 refine ah.body (fn:=Tryz.f141) rfl rfl rfl rfl ?_;refine qq1 ?_;repeat' first|refine u1 ?_|refine u2 ?_|fail
 show aQ TT BinOp.add 3 (Operand.tmp 19) (Operand.tmp 23) (af 0) (af 4) _ _;repeat' first|refine u1 ?_|refine u2 ?_|fail
 exact ⟨[_],⟨Fz.deep rfl,trivial⟩,rfl⟩
theorem GU (one:Bool):Pu one 141 [jv 10] (af 4):=by
 refine ah.body (fn:=Tryz.f141) rfl rfl rfl rfl ?_;refine qq1 ?_;repeat' first|refine u1 ?_|refine u2 ?_|fail
 show aQ TT BinOp.add 3 (Operand.tmp 19) (Operand.tmp 23) (af 0) (af 4) _ _;repeat' first|refine u1 ?_|refine u2 ?_|fail
 exact ⟨[_],⟨Fz.deep rfl,trivial⟩,rfl⟩
theorem GV (one:Bool):Pu one 141 [jv 11] (af 4):=by
 refine ah.body (fn:=Tryz.f141) rfl rfl rfl rfl ?_;refine qq1 ?_;repeat' first|refine u1 ?_|refine u2 ?_|fail
 show aQ TT BinOp.add 3 (Operand.tmp 19) (Operand.tmp 23) (af 0) (af 4) _ _;repeat' first|refine u1 ?_|refine u2 ?_|fail
 exact ⟨[_],⟨Fz.deep rfl,trivial⟩,rfl⟩
theorem GW (one:Bool):Pu one 141 [jv 12] (af 4):=by
 refine ah.body (fn:=Tryz.f141) rfl rfl rfl rfl ?_;refine qq1 ?_;repeat' first|refine u1 ?_|refine u2 ?_|fail
 show aQ TT BinOp.add 3 (Operand.tmp 19) (Operand.tmp 23) (af 0) (af 4) _ _;repeat' first|refine u1 ?_|refine u2 ?_|fail
 exact ⟨[_],⟨Fz.deep rfl,trivial⟩,rfl⟩
theorem GX (one:Bool):Pu one 141 [jv 13] (af 4):=by
 refine ah.body (fn:=Tryz.f141) rfl rfl rfl rfl ?_;refine qq1 ?_;repeat' first|refine u1 ?_|refine u2 ?_|fail
 show aQ TT BinOp.add 3 (Operand.tmp 19) (Operand.tmp 23) (af 0) (af 4) _ _;repeat' first|refine u1 ?_|refine u2 ?_|fail
 exact ⟨[_],⟨Fz.deep rfl,trivial⟩,rfl⟩
theorem GY (one:Bool):Pu one 141 [jv 14] (af 4):=by
 refine ah.body (fn:=Tryz.f141) rfl rfl rfl rfl ?_;refine qq1 ?_;repeat' first|refine u1 ?_|refine u2 ?_|fail
 show aQ TT BinOp.add 3 (Operand.tmp 19) (Operand.tmp 23) (af 0) (af 4) _ _;repeat' first|refine u1 ?_|refine u2 ?_|fail
 exact ⟨[_],⟨Fz.deep rfl,trivial⟩,rfl⟩
theorem GZ (one:Bool):Pu one 141 [jv 15] (af 4):=by
 refine ah.body (fn:=Tryz.f141) rfl rfl rfl rfl ?_;refine qq1 ?_;repeat' first|refine u1 ?_|refine u2 ?_|fail
 show aQ TT BinOp.add 3 (Operand.tmp 19) (Operand.tmp 23) (af 0) (af 4) _ _;repeat' first|refine u1 ?_|refine u2 ?_|fail
 exact ⟨[_],⟨Fz.deep rfl,trivial⟩,rfl⟩
theorem G0 (one:Bool):Pu one 141 [jv 16] (af 5):=by
 refine ah.body (fn:=Tryz.f141) rfl rfl rfl rfl ?_;refine qq1 ?_;repeat' first|refine u1 ?_|refine u2 ?_|fail
 show aQ TT BinOp.add 3 (Operand.tmp 19) (Operand.tmp 23) (af 0) (af 5) _ _;repeat' first|refine u1 ?_|refine u2 ?_|fail
 exact ⟨[_],⟨Fz.deep rfl,trivial⟩,rfl⟩
theorem G1 (one:Bool):Pu one 141 [jv 17] (af 5):=by
 refine ah.body (fn:=Tryz.f141) rfl rfl rfl rfl ?_;refine qq1 ?_;repeat' first|refine u1 ?_|refine u2 ?_|fail
 show aQ TT BinOp.add 3 (Operand.tmp 19) (Operand.tmp 23) (af 0) (af 5) _ _;repeat' first|refine u1 ?_|refine u2 ?_|fail
 exact ⟨[_],⟨Fz.deep rfl,trivial⟩,rfl⟩
theorem G2 (one:Bool):Pu one 141 [jv 18] (af 5):=by
 refine ah.body (fn:=Tryz.f141) rfl rfl rfl rfl ?_;refine qq1 ?_;repeat' first|refine u1 ?_|refine u2 ?_|fail
 show aQ TT BinOp.add 3 (Operand.tmp 19) (Operand.tmp 23) (af 0) (af 5) _ _;repeat' first|refine u1 ?_|refine u2 ?_|fail
 exact ⟨[_],⟨Fz.deep rfl,trivial⟩,rfl⟩
theorem G3 (one:Bool):Pu one 141 [jv 19] (af 5):=by
 refine ah.body (fn:=Tryz.f141) rfl rfl rfl rfl ?_;refine qq1 ?_;repeat' first|refine u1 ?_|refine u2 ?_|fail
 show aQ TT BinOp.add 3 (Operand.tmp 19) (Operand.tmp 23) (af 0) (af 5) _ _;repeat' first|refine u1 ?_|refine u2 ?_|fail
 exact ⟨[_],⟨Fz.deep rfl,trivial⟩,rfl⟩
theorem G4 (one:Bool):Pu one 141 [jv 20] (af 5):=by
 refine ah.body (fn:=Tryz.f141) rfl rfl rfl rfl ?_;refine qq1 ?_;repeat' first|refine u1 ?_|refine u2 ?_|fail
 show aQ TT BinOp.add 3 (Operand.tmp 19) (Operand.tmp 23) (af 0) (af 5) _ _;repeat' first|refine u1 ?_|refine u2 ?_|fail
 exact ⟨[_],⟨Fz.deep rfl,trivial⟩,rfl⟩
theorem G5 (one:Bool):Pu one 141 [jv 21] (af 5):=by
 refine ah.body (fn:=Tryz.f141) rfl rfl rfl rfl ?_;refine qq1 ?_;repeat' first|refine u1 ?_|refine u2 ?_|fail
 show aQ TT BinOp.add 3 (Operand.tmp 19) (Operand.tmp 23) (af 0) (af 5) _ _;repeat' first|refine u1 ?_|refine u2 ?_|fail
 exact ⟨[_],⟨Fz.deep rfl,trivial⟩,rfl⟩
theorem G6 (one:Bool):Pu one 141 [jv 22] (af 5):=by
 refine ah.body (fn:=Tryz.f141) rfl rfl rfl rfl ?_;refine qq1 ?_;repeat' first|refine u1 ?_|refine u2 ?_|fail
 show aQ TT BinOp.add 3 (Operand.tmp 19) (Operand.tmp 23) (af 0) (af 5) _ _;repeat' first|refine u1 ?_|refine u2 ?_|fail
 exact ⟨[_],⟨Fz.deep rfl,trivial⟩,rfl⟩
theorem G7 (one:Bool):Pu one 141 [jv 23] (af 5):=by
 refine ah.body (fn:=Tryz.f141) rfl rfl rfl rfl ?_;refine qq1 ?_;repeat' first|refine u1 ?_|refine u2 ?_|fail
 show aQ TT BinOp.add 3 (Operand.tmp 19) (Operand.tmp 23) (af 0) (af 5) _ _;repeat' first|refine u1 ?_|refine u2 ?_|fail
 exact ⟨[_],⟨Fz.deep rfl,trivial⟩,rfl⟩
theorem G8 (one:Bool):Pu one 141 [jv 24] (af 5):=by
 refine ah.body (fn:=Tryz.f141) rfl rfl rfl rfl ?_;refine qq1 ?_;repeat' first|refine u1 ?_|refine u2 ?_|fail
 show aQ TT BinOp.add 3 (Operand.tmp 19) (Operand.tmp 23) (af 0) (af 5) _ _;repeat' first|refine u1 ?_|refine u2 ?_|fail
 exact ⟨[_],⟨Fz.deep rfl,trivial⟩,rfl⟩
theorem G9 (one:Bool):Pu one 141 [jv 25] (af 5):=by
 refine ah.body (fn:=Tryz.f141) rfl rfl rfl rfl ?_;refine qq1 ?_;repeat' first|refine u1 ?_|refine u2 ?_|fail
 show aQ TT BinOp.add 3 (Operand.tmp 19) (Operand.tmp 23) (af 0) (af 5) _ _;repeat' first|refine u1 ?_|refine u2 ?_|fail
 exact ⟨[_],⟨Fz.deep rfl,trivial⟩,rfl⟩
theorem DE (one:Bool) {n:Nat} (h:8≤n∧n≤25):∃ k:Nat,(k=4∨k=5)∧n < 2 ^ k∧2 ^ k≤2 * n∧Pu one 141 [jv n] (af (k:Nat)):=by
 obtain rfl|rfl|rfl|rfl|rfl|rfl|rfl|rfl|rfl|rfl|rfl|rfl|rfl|rfl|rfl|rfl|rfl|rfl:n=8∨n=9∨n=10∨n=11∨n=12∨n=13∨n=14∨n=15∨n=16∨n=17∨n=18∨n=19∨n=20∨n=21∨n=22∨n=23∨n=24∨n=25:=by omega
 ·exact ⟨4,.inl rfl,by decide,by decide,IK one⟩
 ·exact ⟨4,.inl rfl,by decide,by decide,IL one⟩
 ·exact ⟨4,.inl rfl,by decide,by decide,GU one⟩
 ·exact ⟨4,.inl rfl,by decide,by decide,GV one⟩
 ·exact ⟨4,.inl rfl,by decide,by decide,GW one⟩
 ·exact ⟨4,.inl rfl,by decide,by decide,GX one⟩
 ·exact ⟨4,.inl rfl,by decide,by decide,GY one⟩
 ·exact ⟨4,.inl rfl,by decide,by decide,GZ one⟩
 ·exact ⟨5,.inr rfl,by decide,by decide,G0 one⟩
 ·exact ⟨5,.inr rfl,by decide,by decide,G1 one⟩
 ·exact ⟨5,.inr rfl,by decide,by decide,G2 one⟩
 ·exact ⟨5,.inr rfl,by decide,by decide,G3 one⟩
 ·exact ⟨5,.inr rfl,by decide,by decide,G4 one⟩
 ·exact ⟨5,.inr rfl,by decide,by decide,G5 one⟩
 ·exact ⟨5,.inr rfl,by decide,by decide,G6 one⟩
 ·exact ⟨5,.inr rfl,by decide,by decide,G7 one⟩
 ·exact ⟨5,.inr rfl,by decide,by decide,G8 one⟩
 ·exact ⟨5,.inr rfl,by decide,by decide,G9 one⟩
theorem Jw (one:Bool) {n k:Nat} (h:Pu one 141 [jv n] (af (k:Nat))):Pu one 117 [jv n] (af (k:Nat)):=by
 refine ah.body (fn:=Tryz.f117) rfl rfl rfl rfl ?_;refine qq1 ?_;repeat' first|refine u1 ?_|((with_reducible refine qq3 ?_);refine ah.call h rfl rfl ?_)|refine u2 ?_|fail
 exact ⟨[_],⟨Fz.deep rfl,trivial⟩,rfl⟩
section
variable {own : Bool} {fr : Nat → AV} {hp : List AB} {K : AV → List AB → Prop} {x : Operand} {n : Nat}
theorem Ks {d:TypeId} (hd:∀ n:Int,cR (aK TT.P (convert 3 d (.int .i64 n)))=some (.int .u64 (IntKind.wrap .u64 n),.none)) (hx:bh fr x=.fl (.int .i64 ((n:Nat):Int))) (h:n < 18446744073709551616) (k:K (jv n) hp):RM.wpOp TT own (.convert 3 d x) fr hp K:=by show yY TT 3 d (bh fr x) hp K;rw [hx];have:=hd ((n:Nat):Int);rw [wrap_u64 h] at this;exact ⟨_,rfl,_,this,rfl,k⟩
theorem LC {d:TypeId} (hd:∀ n:Int,cR (aK TT.P (convert d 3 (.int .u64 n)))=some (.int .i64 (IntKind.wrap .i64 n),.none)) (hx:bh fr x=.fl (.int .u64 ((n:Nat):Int))) (h:n < 1000000) (k:K (af (n:Nat)) hp):RM.wpOp TT own (.convert d 3 x) fr hp K:=by show yY TT d 3 (bh fr x) hp K;rw [hx];have:=hd ((n:Nat):Int);rw [IntWalk.i64_in ((n:Nat):Int) (by omega)] at this;exact ⟨_,rfl,_,this,rfl,k⟩
end
theorem LD (one:Bool) {n k:Nat} (hn:n≤25) (hk:k=4∨k=5) (h:Pu one 141 [jv n] (af (k:Nat))):Pu one 146 [af (n:Nat)] (jv (2 ^ k)):=by
 have o1:=Jw one h;have hk8:k < 8:=by omega
 refine ah.body (fn:=Tryz.f146) rfl rfl rfl rfl ?_;refine qq1 ?_;repeat' first|refine u1 ?_|((with_reducible show RM.wpOp _ _ (.convert _ _ _) _ _ _);refine Ks (fun _=>rfl) rfl (by omega) ?_)|((with_reducible refine qq3 ?_);refine ah.call o1 rfl rfl ?_)|((with_reducible show aQ _ _ _ _ _ _ _ _ _);refine RM.Lg (j:=k) rfl rfl hk8 ?_)|refine u2 ?_|fail
 exact ⟨[_],⟨Fz.deep rfl,trivial⟩,rfl⟩
end Go.Proofs.YtlpmfgmldmdggaaGreat
open Go Go.RM
namespace Go.Proofs.YtlpmfgmldmdggaaGreat
set_option maxRecDepth 100000
set_option maxHeartbeats 4000000
theorem wH (S:List Int) (v w:Nat):([aM S v,.cells [jv w] 0 0]:List AB).all (AB.gZ 2)=true:=by have h1:AB.gZ 2 (aM S v)=true:=eC 2 (fun _=>rfl) _;have h2:AB.gZ 2 (.cells [jv w] 0 0)=true:=rfl;simp only [List.all_cons,List.all_nil,h1,h2,Bool.and_true]
theorem Jx {T:bC} {t:TypeId} {x y:Operand} {a b:AV} {hp:List AB} {K:AV→List AB→Prop} {m n o:Nat} (hO:m &&& n=o) (ha:a=.fl (.int .u64 (m:Int))) (hb:b=.fl (.int .u64 (n:Int))) (hm:m < 18446744073709551616) (hn:n < 18446744073709551616) (h:K (jv o) hp):aQ T .and t x y a b hp K:=RM.Lf ha hb hm hn (by rw [hO];exact h)
end Go.Proofs.YtlpmfgmldmdggaaGreat
open Go Go.RM
namespace Go.Proofs.YtlpmfgmldmdggaaGreat
set_option maxRecDepth 100000
set_option maxHeartbeats 4000000
theorem IM (one:Bool) (S0:List Int) {a b N:Nat} (hN:S0.length=N) (hb:b≤N) (hab:a+8≤b∧b≤a+25) (h9:N≤1000) {v cc:Nat} {aC:bJ} {Q:AV→List AB→bJ→Prop} (hQ:∀ (S:List Int) (w:Nat),PR S0 S a b→Q (.tp []) [aM S v,.cells [jv w] 0 0] aC) :
  au TT TB one (.fn 152 [] []) [.aL 0 v 0 N cc,af (a:Nat),af (b:Nat),CF] [aM S0 v] aC Q:=by
 have hlen:((b - a:Nat):Int)=(b:Int) - (a:Int):=by omega
 obtain ⟨k,hk,h1,h2,o0⟩:=DE one (n:=b - a) (by omega);have o1:=LD one (by omega) hk o0;rw [hlen] at o1;have d1:decide ((8:Int)≤(b:Int) - (a:Int))=true:=decide_eq_true (by omega);obtain ⟨q,hq⟩:∃ q:Nat,(q:Int)=((b:Int) - (a:Int)) / 4:=⟨(((b:Int) - (a:Int)) / 4).toNat,Int.toNat_of_nonneg (by omega)⟩;have h4:4 * q≤b - a∧b - a < 4 * q+4:=by omega
 have hp:2 ^ k≤32∧1≤2 ^ k:=by rcases hk with rfl|rfl <;> decide
 generalize hK:2 ^ k=K2 at *
 refine au.body (fn:=Tryz.f152) rfl rfl rfl ?_;refine aa (mu:=fun t=>Nat.beq t 9) ?_;repeat' first|refine u1 ?_|((with_reducible show RM.wpOp _ _ (.convert _ _ _) _ _ _);refine Ks (n:=b - a) (fun _=>rfl) (by rw [hlen];rfl) (by omega) ?_)|((with_reducible refine qq3 ?_);refine ah.call o1 rfl rfl ?_)|refine u2 ?_|fail
 refine ay.aN (ak.to (l:=[(0,.aL 0 v 0 N cc),(1,af (a:Nat)),(8,af ((b:Int) - (a:Int))),(9,.ptr 1 0 0),(10,jv K2),(11,af ((a+2 * q - 1):Nat))]) (hp:=[aM S0 v,.cells [jv (b - a)] 0 0]) 2 rfl ⟨rfl,rfl,rfl,rfl,rfl,aH (by omega),trivial⟩ (Nat.le_of_ble_eq_true rfl) rfl (wH _ _ _)) ?_;refine ay.loop (fun x:Nat × List Int × Nat=>(a+2 * q - 1≤x.1∧x.1≤a+2 * q+2)∧PR S0 x.2.1 a b∧x.2.2 < 18446744073709551616) (fun x=>⟨aT [(0,.aL 0 v 0 N cc),(1,af (a:Nat)),(8,af ((b:Int) - (a:Int))),(9,.ptr 1 0 0),(10,jv K2),(11,af (x.1:Nat))],[aM x.2.1 v,.cells [jv x.2.2] 0 0],aC,false,1⟩) (fun x=>N+10 - x.1) ?_ (a+2 * q - 1,S0,b - a) ⟨⟨qq6 _,by dsimp only;omega⟩,PR.refl _ _ _,by dsimp only;omega⟩;rintro ⟨i,R,w⟩ ⟨⟨i1,i2⟩,hpr,hw⟩;dsimp only at i1 i2 hpr hw;have hRl:R.length=N:=by rw [hpr.len,hN]
 show ay _ _ _ _ ⟨aT [(0,.aL 0 v 0 N cc),(1,af (a:Nat)),(8,af ((b:Int) - (a:Int))),(9,.ptr 1 0 0),(10,jv K2),(11,af (i:Nat))],[aM R v,.cells [jv w] 0 0],aC,false,1⟩ _;by_cases hi:i≤a+2 * q+1
 ·have d2:decide ((i:Int)≤(a:Int)+((b:Int) - (a:Int)) / 4 * 2+1)=true:=decide_eq_true (by omega);refine qq1 ?_;repeat' first|refine u1 ?_|refine u2 ?_|fail
  refine Mg one R (fun z k' hz hk'=>?_);have ho:z &&& (K2 - 1)≤K2 - 1:=Nat.and_le_right
  generalize hO:z &&& (K2 - 1)=o at *
  by_cases hol:o < b - a
  ·have d3:decide ((b:Int) - (a:Int)≤(o:Int))=false:=decide_eq_false (by omega);have b1:Nat.ble (0+((i:Nat):Int).toNat * 1+1) (av R).length=true:=ej (k:=i) (by omega) (by omega);have b2:Nat.ble (0+(((a:Int)+(o:Int))).toNat * 1+1) (bg (av R) [af (aO R (a+o))] (0+((i:Nat):Int).toNat * 1)).length=true:=gz (i:=i) (j:=a+o) (by omega) (by omega) (by omega) (by omega) _;have e1:=dh (R:=R) (i:=i) (j:=a+o) (p:=0+((i:Nat):Int).toNat * 1) (q:=0+(((a:Int)+(o:Int))).toNat * 1) (by omega) (by omega) (by omega) (by omega);have y1:(av R)[0+(((a:Int)+(o:Int))).toNat * 1]?=some (af (aO R (a+o))):=aJ (by omega) (by omega);have y2:(av R)[0+((i:Nat):Int).toNat * 1]?=some (af (aO R i)):=aJ (by omega) (by omega);repeat' first|((with_reducible show aQ _ _ _ _ _ _ _ _ _);refine RM.Jp rfl rfl (by omega) (by omega) ?_)|(refine Jx hO rfl rfl (by omega) (by omega) ?_)|((with_reducible show RM.wpOp _ _ (.convert _ _ _) _ _ _);refine LC (n:=o) (fun _=>rfl) rfl (by omega) ?_)|((with_reducible show RM.wpOp _ _ (.load _ _) _ _ _);refine RM.cU rfl rfl rfl y1 ?_)|((with_reducible show RM.wpOp _ _ (.load _ _) _ _ _);refine RM.cU rfl rfl rfl y2 ?_)|((with_reducible show aR _ _ _ _ _ _);refine RM.lY rfl rfl rfl rfl rfl rfl b1 ?_)|((with_reducible show aR _ _ _ _ _ _);refine RM.lY rfl rfl rfl rfl rfl rfl b2 ?_)|refine u1 ?_|refine u2 ?_|fail
   exact ⟨(i+1,sw R i (a+o),k'),⟨⟨by dsimp only;omega,by dsimp only;omega⟩,hpr.trans (PR.sw (by omega) ⟨by omega,by omega⟩ ⟨by omega,by omega⟩),hk'⟩,(by dsimp only;omega),ak.to (l:=[(0,.aL 0 v 0 N cc),(1,af (a:Nat)),(8,af ((b:Int) - (a:Int))),(9,.ptr 1 0 0),(10,jv K2),(11,af ((i+1):Nat))]) (hp:=[aM (sw R i (a+o)) v,.cells [jv k'] 0 0]) 2 (by show _=[AB.cells (av (sw R i (a+o))) 1 v,_];rw [←e1];rfl) ⟨rfl,rfl,rfl,rfl,rfl,aH (by simp),trivial⟩ (Nat.le_of_ble_eq_true rfl) rfl (wH _ _ _)⟩
  ·have d3:decide ((b:Int) - (a:Int)≤(o:Int))=true:=decide_eq_true (by omega);have b1:Nat.ble (0+((i:Nat):Int).toNat * 1+1) (av R).length=true:=ej (k:=i) (by omega) (by omega);have b2:Nat.ble (0+(((a:Int)+((o:Int) - ((b:Int) - (a:Int))))).toNat * 1+1) (bg (av R) [af (aO R (a+(o - (b - a))))] (0+((i:Nat):Int).toNat * 1)).length=true:=gz (i:=i) (j:=a+(o - (b - a))) (by omega) (by omega) (by omega) (by omega) _;have e1:=dh (R:=R) (i:=i) (j:=a+(o - (b - a))) (p:=0+((i:Nat):Int).toNat * 1) (q:=0+(((a:Int)+((o:Int) - ((b:Int) - (a:Int))))).toNat * 1) (by omega) (by omega) (by omega) (by omega);have y1:(av R)[0+(((a:Int)+((o:Int) - ((b:Int) - (a:Int))))).toNat * 1]?=some (af (aO R (a+(o - (b - a))))):=aJ (by omega) (by omega);have y2:(av R)[0+((i:Nat):Int).toNat * 1]?=some (af (aO R i)):=aJ (by omega) (by omega);repeat' first|((with_reducible show aQ _ _ _ _ _ _ _ _ _);refine RM.Jp rfl rfl (by omega) (by omega) ?_)|(refine Jx hO rfl rfl (by omega) (by omega) ?_)|((with_reducible show RM.wpOp _ _ (.convert _ _ _) _ _ _);refine LC (n:=o) (fun _=>rfl) rfl (by omega) ?_)|((with_reducible show RM.wpOp _ _ (.load _ _) _ _ _);refine RM.cU rfl rfl rfl y1 ?_)|((with_reducible show RM.wpOp _ _ (.load _ _) _ _ _);refine RM.cU rfl rfl rfl y2 ?_)|((with_reducible show aR _ _ _ _ _ _);refine RM.lY rfl rfl rfl rfl rfl rfl b1 ?_)|((with_reducible show aR _ _ _ _ _ _);refine RM.lY rfl rfl rfl rfl rfl rfl b2 ?_)|refine u1 ?_|refine u2 ?_|fail
   exact ⟨(i+1,sw R i (a+(o - (b - a))),k'),⟨⟨by dsimp only;omega,by dsimp only;omega⟩,hpr.trans (PR.sw (by omega) ⟨by omega,by omega⟩ ⟨by omega,by omega⟩),hk'⟩,(by dsimp only;omega),ak.to (l:=[(0,.aL 0 v 0 N cc),(1,af (a:Nat)),(8,af ((b:Int) - (a:Int))),(9,.ptr 1 0 0),(10,jv K2),(11,af ((i+1):Nat))]) (hp:=[aM (sw R i (a+(o - (b - a)))) v,.cells [jv k'] 0 0]) 2 (by show _=[AB.cells (av (sw R i (a+(o - (b - a))))) 1 v,_];rw [←e1];rfl) ⟨rfl,rfl,rfl,rfl,rfl,aH (by simp),trivial⟩ (Nat.le_of_ble_eq_true rfl) rfl (wH _ _ _)⟩
 ·have d2:decide ((i:Int)≤(a:Int)+((b:Int) - (a:Int)) / 4 * 2+1)=false:=decide_eq_false (by omega);have hz:=hQ R w hpr;refine qq1 ?_;repeat' first|refine u1 ?_|refine u2 ?_|fail
  exact hz
theorem Kt (one:Bool) (S0:List Int) {a b N:Nat} (hN:S0.length=N) (hb:b≤N) (hab:a+8≤b∧b≤a+25) (h9:N≤1000) {v cc:Nat} {aC:bJ} {Q:AV→List AB→bJ→Prop} (hQ:∀ S:List Int,PR S0 S a b→Q (.tp []) [aM S v] aC) :
  au TT TB one (.fn 152 [] []) [.aL 0 v 0 N cc,af (a:Nat),af (b:Nat),CF] [aM S0 v] aC Q:=by
 refine (au.cut (Q:=fun w hp' amb'=>∃ (S:List Int) (k':Nat),PR S0 S a b∧w=.tp []∧hp'=[aM S v,.cells [jv k'] 0 0]∧amb'=aC) (IM one S0 hN hb hab h9 fun S k' h1=>⟨S,k',h1,rfl,rfl,rfl⟩) ?_).mono ?_
 ·rintro w hp' amb' ⟨S,k',_,rfl,rfl,rfl⟩;exact ⟨rfl,ax _ _⟩
 ·rintro w hp2 amb' ⟨hp',rfl,S,k',h1,rfl,rfl,rfl⟩;exact hQ S h1
end Go.Proofs.YtlpmfgmldmdggaaGreat
open Go Go.RM
namespace Go.Proofs.YtlpmfgmldmdggaaGreat
set_option maxRecDepth 100000
structure IP (rk:Int→Int) (S:List Int) (a lo hi r:Nat):Prop where
 Mh:∀ i c,lo≤i→i ≠ r→(c=2 * i+1∨c=2 * i+2)→c < hi→rk (aO S (a+c))≤rk (aO S (a+i))
 MZ:∀ i c,lo≤i→(r=2 * i+1∨r=2 * i+2)→(c=2 * r+1∨c=2 * r+2)→c < hi→rk (aO S (a+c))≤rk (aO S (a+i))
def BN (rk:Int→Int) (S:List Int) (a lo hi:Nat):Prop:=∀ i c,lo≤i→(c=2 * i+1∨c=2 * i+2)→c < hi→rk (aO S (a+c))≤rk (aO S (a+i))
theorem IP.start {rk:Int→Int} {S:List Int} {a lo hi:Nat} (h:BN rk S a (lo+1) hi):IP rk S a lo hi lo :=
 ⟨fun i c h1 h2 h3 h4=>h i c (by omega) h3 h4,fun i c h1 h2 h3 h4=>by omega⟩
theorem IP.done {rk:Int→Int} {S:List Int} {a lo hi r:Nat} (h:IP rk S a lo hi r) (hr:∀ c,(c=2 * r+1∨c=2 * r+2)→c < hi→rk (aO S (a+c))≤rk (aO S (a+r))):BN rk S a lo hi:=fun i c h1 h2 h3=>by
 by_cases e:i=r
 ·rw [e];exact hr c (by omega) h3
 ·exact h.Mh i c h1 e h2 h3
theorem IP.step {rk:Int→Int} {S:List Int} {a lo hi r m:Nat} (h:IP rk S a lo hi r) (hlo:lo≤r) (hl:a+hi≤S.length) (hm:m=2 * r+1∨m=2 * r+2) (hmh:m < hi) (hmax:∀ c,(c=2 * r+1∨c=2 * r+2)→c < hi→rk (aO S (a+c))≤rk (aO S (a+m))) (hlt:rk (aO S (a+r))≤rk (aO S (a+m))):IP rk (sw S (a+r) (a+m)) a lo hi m:=by
 have g:=mR (S:=S) (i:=a+r) (j:=a+m) (by omega) (by omega);constructor
 ·intro i c h1 h2 h3 h4;rw [g,g,if_neg (show ¬ a+i=a+m by omega)];by_cases hir:i=r
  ·rw [if_pos (show a+i=a+r by omega)];by_cases hcm:c=m
   ·rw [if_pos (by omega)];exact hlt
   ·rw [if_neg (by omega),if_neg (by omega)];exact hmax c (by omega) h4
  ·rw [if_neg (show ¬ a+i=a+r by omega),if_neg (show ¬ a+c=a+m by omega)];by_cases hcr:c=r
   ·rw [if_pos (by omega)];exact h.MZ i m h1 (by omega) hm hmh
   ·rw [if_neg (by omega)];exact h.Mh i c h1 hir h3 h4
 ·intro i c h1 h2 h3 h4;have hir:i=r:=by omega
  rw [g,g,if_neg (by omega),if_neg (by omega),if_neg (by omega),if_pos (by omega)];exact h.Mh m c (by omega) (by omega) h3 h4
theorem BN.root {rk:Int→Int} {S:List Int} {a hi:Nat} (h:BN rk S a 0 hi):∀ n i,i≤n→i < hi→rk (aO S (a+i))≤rk (aO S (a+0))
 | 0,i,h1,_=>by rw [show i=0 by omega];exact Int.le_refl _
 | n+1,i,h1,h2=>by
  by_cases h0:i=0
  ·rw [h0];exact Int.le_refl _
  ·exact Int.le_trans (h ((i - 1) / 2) i (qq5 _) (by omega) h2) (BN.root h n ((i - 1) / 2) (by omega) (by omega))
structure IQ (rk:Int→Int) (S0 S:List Int) (a b n:Nat):Prop where
 pr:PR S0 S a b
 heap:BN rk S a 0 n
 Js:Sd rk S (a+n) b
 Dp:∀ i j,a≤i→i < a+n→a+n≤j→j < b→rk (aO S i)≤rk (aO S j)
 nb:a+n≤b
theorem IQ.swap {rk:Int→Int} {S0 S:List Int} {a b n:Nat} (hb:b≤S0.length) (h:IQ rk S0 S a b (n+1)):PR S0 (sw S a (a+n)) a b∧BN rk (sw S a (a+n)) a 1 n∧Sd rk (sw S a (a+n)) (a+n) b∧∀ i j,a≤i→i < a+n→a+n≤j→j < b→rk (aO (sw S a (a+n)) i)≤rk (aO (sw S a (a+n)) j):=by
 have hl:=h.pr.len;have hnb:=h.nb;have g:=mR (S:=S) (i:=a) (j:=a+n) (by omega) (by omega);have hroot:∀ i,i < n+1→rk (aO S (a+i))≤rk (aO S a):=fun i hi=>BN.root h.heap i i (qq6 _) hi;have hrest:∀ q,a+n < q→aO (sw S a (a+n)) q=aO S q:=fun q hq=>by rw [g,if_neg (by omega),if_neg (by omega)]
 have htop:aO (sw S a (a+n)) (a+n)=aO S a:=by rw [g,if_pos rfl]
 have hlow:∀ i,i < n→rk (aO (sw S a (a+n)) (a+i))≤rk (aO S a):=fun i hi=>by
  rw [g,if_neg (by omega)];by_cases h0:i=0
  ·rw [if_pos (by omega)];exact hroot n (by omega)
  ·rw [if_neg (by omega)];exact hroot i (by omega)
 refine ⟨h.pr.trans (PR.sw (by omega) ⟨by omega,by omega⟩ ⟨by omega,by omega⟩),fun i c h1 h2 h3=>?_,fun i j h1 h2 h3=>?_,fun i j h1 h2 h3 h4=>?_⟩
 ·rw [g,g,if_neg (by omega),if_neg (by omega),if_neg (by omega),if_neg (by omega)];exact h.heap i c (by omega) h2 (by omega)
 ·by_cases hi:i=a+n
  ·by_cases hj:j=a+n
   ·rw [hi,hj];exact Int.le_refl _
   ·rw [hi,htop,hrest j (by omega)];exact h.Dp a j (by omega) (by omega) (by omega) h3
  ·rw [hrest i (by omega),hrest j (by omega)];exact h.Js i j (by omega) h2 h3
 ·have e:i=a+(i - a):=by omega
  by_cases hj:j=a+n
  ·rw [hj,htop,e];exact hlow (i - a) (by omega)
  ·rw [hrest j (by omega),e];exact Int.le_trans (hlow (i - a) (by omega)) (h.Dp a j (by omega) (by omega) (by omega) h4)
theorem IQ.next {rk:Int→Int} {S0 S R:List Int} {a b n:Nat} (hb:b≤S0.length) (hnb:a+n≤b) (h1:PR S0 S a b) (h3:Sd rk S (a+n) b) (h4:∀ i j,a≤i→i < a+n→a+n≤j→j < b→rk (aO S i)≤rk (aO S j)) (hp:PR S R a (a+n)) (hh:BN rk R a 0 n):IQ rk S0 R a b n:=by have hl:=h1.len;exact ⟨h1.trans (hp.wide (qq6 _) hnb),hh,h3.keep hp (.inr (qq6 _)),hp.Gr (by omega) (.inr (qq6 _)) h4,hnb⟩
theorem IQ.zero {rk:Int→Int} {S0 S:List Int} {a b:Nat} (hab:a≤b) (hp:PR S0 S a b) (hh:BN rk S a 0 (b - a)):IQ rk S0 S a b (b - a) :=
 ⟨hp,hh,fun i j h1 h2 h3=>by omega,fun i j h1 h2 h3 h4=>by omega,by omega⟩
theorem BN.leaves {rk:Int→Int} {S:List Int} {a lo hi:Nat} (h:hi≤2 * lo+1):BN rk S a lo hi:=fun i c h1 h2 h3=>by omega
