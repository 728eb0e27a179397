/-
  Contracts of the program's functions and of the document's. Lemmas alone; their conditions stand in them.
-/
import Derived.Test.YtichbhmnhkegiaaGreatVA3
import Derived.Test.YtichbhmnhkegiaaGreatVK1
import Derived.Laws.StructEq
namespace Go.AirLaw
def gZ:Nat→Int→Int→Int→Int→Int
 | 0,_,_,left,_=>left
 | n+1,whole,len,left,far=>if 0 < left∧whole * whole≤far then gZ n (whole+len) len (left / 2) far else left
def leftOf (candles clear far:Int):Int:=gZ 13 (clear * 100) (clear * 100) candles far
def kq (candles clear far:Int):Bool:=decide (far≤leftOf candles clear far * 1000000)
def sq (x y:Int):Int:=x * x+y * y
def ct (x y candles clear:Int):Bool:=kq candles clear (sq x y)
theorem oT:∀ (n:Nat) (w len l far:Int),0≤l→gZ n w len l far≤l∧0≤gZ n w len l far
 | 0,_,_,l,_,h=>⟨Int.le_refl _,h⟩
 | n+1,w,len,l,far,h=>by
  unfold gZ
  split
  ·have:=oT n (w+len) len (l / 2) far (by omega)
   omega
  ·exact ⟨Int.le_refl _,h⟩
theorem e7 {a b:Int} (h0:0≤a) (h:a≤b):a * a≤b * b:=Int.mul_le_mul h h h0 (by omega)
theorem s7:∀ (n:Nat) {w1 w2 len1 len2 l1 l2 far1 far2:Int},0≤l1→0≤l2→l2≤l1→0≤w2→w2≤w1→0≤len2→len2≤len1→far1≤far2→gZ n w2 len2 l2 far2≤gZ n w1 len1 l1 far1
 | 0,_,_,_,_,_,_,_,_,_,_,h,_,_,_,_,_=>h
 | n+1,w1,w2,len1,len2,l1,l2,far1,far2,h1,h2,hl,hw0,hw,hn0,hn,hf=>by
  have hww:=e7 hw0 hw
  unfold gZ
  by_cases c1:0 < l1∧w1 * w1≤far1
  ·rw [if_pos c1]
   by_cases c2:0 < l2∧w2 * w2≤far2
   ·rw [if_pos c2]
    exact s7 n (by omega) (by omega) (by omega) (by omega) (by omega) hn0 hn hf
   ·rw [if_neg c2]
    have:=(oT n (w1+len1) len1 (l1 / 2) far1 (by omega)).2
    omega
  ·rw [if_neg c1]
   by_cases c2:0 < l2∧w2 * w2≤far2
   ·rw [if_pos c2]
    have:=(oT n (w2+len2) len2 (l2 / 2) far2 (by omega)).1
    omega
   ·rw [if_neg c2]
    exact hl
theorem m8 {c1 c2 r1 r2 f1 f2:Int} (hc0:0≤c2) (hc:c2≤c1) (hr0:0≤r2) (hr:r2≤r1) (hf:f1≤f2) (h:kq c2 r2 f2=true):kq c1 r1 f1=true:=by
 unfold kq leftOf at *
 rw [decide_eq_true_eq] at *
 have:=s7 13 (w1:=r1 * 100) (w2:=r2 * 100) (len1:=r1 * 100) (len2:=r2 * 100) (l1:=c1) (l2:=c2) (far1:=f1) (far2:=f2) (by omega) hc0 hc (by omega) (by omega) (by omega) (by omega) hf
 omega
theorem s8 {n:Nat} {w len l far:Int} (h:¬ (0 < l∧w * w≤far)):gZ n w len l far=l:=by
 cases n with
 | zero=>rfl
 | succ n=>unfold gZ;rw [if_neg h]
theorem Cp {n:Nat} {w len l far:Int} (hl:l < 2 ^ n) (h0:0 < l) (h:w * w≤far):∃ m,n=m+1∧l / 2 < 2 ^ m∧gZ n w len l far=gZ m (w+len) len (l / 2) far:=by
 cases n with
 | zero=>omega
 | succ m =>
  refine ⟨m,rfl,?_,?_⟩
  ·have:(2:Int) ^ (m+1)=2 ^ m * 2:=Int.pow_succ ..
   omega
  ·rw [gZ,if_pos ⟨h0,h⟩]
def ec:List (Int × Int):=[(0,1000),(195,981),(383,924),(556,831),(707,707),(831,556),(924,383),(981,195)]
def s9 (v:Int × Int):Int × Int:=(v.2,-v.1)
def mL (p:Nat):Int × Int :=
 match p / 8 with
 | 0=>ec.getD (p % 8) (0,0)
 | 1=>s9 (ec.getD (p % 8) (0,0))
 | 2=>s9 (s9 (ec.getD (p % 8) (0,0)))
 | _=>s9 (s9 (s9 (ec.getD (p % 8) (0,0))))
def g8 (p:Nat) (x y:Int):Int:=(mL p).1 * y - (mL p).2 * x
def ja (x y:Int) (p:Nat):Bool:=decide (g8 p x y≤0) && decide (0 < g8 ((p+1) % 32) x y)
theorem Bf {x y:Int} (h:¬ (x=0∧y=0)):∃ p,p < 32∧ja x y p=true:=by
 apply Classical.byContradiction
 intro hno
 have step:∀ p,p < 32→g8 p x y≤0→g8 ((p+1) % 32) x y≤0:=by
  intro p hp hl
  apply Classical.byContradiction
  intro hn
  refine hno ⟨p,hp,?_⟩
  unfold ja
  rw [decide_eq_true hl,decide_eq_true (by omega)]
  rfl
 have run:∀ (k a:Nat),a < 32→g8 a x y≤0→g8 ((a+k) % 32) x y≤0:=by
  intro k
  induction k with
  | zero=>intro a ha hl;rw [Nat.add_zero,Nat.mod_eq_of_lt ha];exact hl
  | succ k ih =>
   intro a ha hl
   have:=step _ (Nat.mod_lt (a+k) (by decide)) (ih a ha hl)
   rw [Nat.mod_add_mod] at this
   exact this
 have h0:g8 0 x y=0 * y - 1000 * x:=rfl
 have h8:g8 8 x y=1000 * y - (-0) * x:=rfl
 have h16:g8 16 x y=(-0) * y - (-1000) * x:=rfl
 have h24:g8 24 x y=(-1000) * y - (-(-0)) * x:=rfl
 have all:g8 0 x y≤0∧g8 8 x y≤0∧g8 16 x y≤0∧g8 24 x y≤0:=by
  by_cases hx:0≤x
  ·have ha:g8 0 x y≤0:=by omega
   exact ⟨ha,run 8 0 (by decide) ha,run 16 0 (by decide) ha,run 24 0 (by decide) ha⟩
  ·have ha:g8 16 x y≤0:=by omega
   exact ⟨run 16 16 (by decide) ha,run 24 16 (by decide) ha,ha,run 8 16 (by decide) ha⟩
 omega
def gy (x y:Int):Nat:=((List.range 32).find? (ja x y)).getD 0
theorem wk {x y:Int} (h:¬ (x=0∧y=0)):gy x y < 32∧ja x y (gy x y)=true∧∀ q,q < gy x y→ja x y q=false:=by
 obtain ⟨p,hp,hs⟩:=Bf h
 cases hf:(List.range 32).find? (ja x y) with
 | none =>
  rw [List.find?_eq_none] at hf
  exact absurd hs (hf p (List.mem_range.2 hp))
 | some q =>
  have e:gy x y=q:=by unfold gy;rw [hf];rfl
  rw [e]
  have h1:=List.find?_some hf
  have h2:=List.mem_range.1 (List.mem_of_find?_eq_some hf)
  refine ⟨h2,h1,fun r hr=>?_⟩
  rw [List.find?_range_eq_some] at hf
  have:=hf.2.2 r hr
  simpa using this
def fS (p w:Int):Int:=if 16 < max (p - w) (w - p) then 32 - max (p - w) (w - p) else max (p - w) (w - p)
def ta (bW:Int) (p w:Int):Int:=bW * (1400 - 50 * fS p w) / 10
def bA (x y bW eT:Int):Bool:=decide (x=0∧y=0) || decide (sq x y≤ta bW (gy x y) eT * ta bW (gy x y) eT)
end Go.AirLaw
namespace Go.AirLaw
def cH (c r:Int) (d:Nat):Bool:=ct (d:Int) 0 c r
theorem jb {c r:Int} (hc:0≤c):cH c r 0=true:=by
 unfold cH ct kq sq leftOf
 rw [decide_eq_true_eq]
 have:=(oT 13 (r * 100) (r * 100) c 0 hc).2
 show (0:Int) * 0+0 * 0≤gZ 13 (r * 100) (r * 100) c (0 * 0+0 * 0) * 1000000
 rw [Int.mul_zero,Int.add_zero]
 omega
theorem jc {c1 c2 r1 r2:Int} {d e:Nat} (hc0:0≤c2) (hc:c2≤c1) (hr0:0≤r2) (hr:r2≤r1) (h:d≤e) (ha:cH c2 r2 e=true):cH c1 r1 d=true:=by
 unfold cH ct at *
 refine m8 hc0 hc hr0 hr ?_ ha
 unfold sq
 have:=e7 (a:=(d:Int)) (b:=(e:Int)) (by omega) (by omega)
 omega
def most (p:Nat→Bool):Nat→Nat
 | 0=>0
 | n+1=>if p (n+1)=true then n+1 else most p n
theorem Ad (p:Nat→Bool):∀ n,most p n≤n
 | 0=>Nat.le_refl _
 | n+1=>by
  unfold most
  split
  ·exact Nat.le_refl _
  ·exact Nat.le_succ_of_le (Ad p n)
theorem kr {p:Nat→Bool} (h0:p 0=true):∀ n,p (most p n)=true
 | 0=>h0
 | n+1=>by
  unfold most
  split
  ·assumption
  ·exact kr h0 n
theorem lQ {p:Nat→Bool}:∀ {n d:Nat},d≤n→p d=true→d≤most p n
 | 0,d,h,_=>h
 | n+1,d,h,hp=>by
  unfold most
  split
  ·exact h
  ·by_cases hd:d=n+1
   ·subst hd
    rename_i hq
    exact absurd hp hq
   ·exact lQ (by omega) hp
theorem Bg {p:Nat→Bool} {n d:Nat} (hd:d≤n) (h1:p d=true) (h2:∀ e,d < e→e≤n→p e=false) (h0:p 0=true):most p n=d:=by
 have h3:=lQ hd h1
 have h4:=Ad p n
 by_cases h:d < most p n
 ·have:=h2 _ h h4
  rw [kr h0] at this
  cases this
 ·omega
end Go.AirLaw
open Go Go.RM Go.AirLaw
namespace Go.Proofs.YtichbhmnhkegiaaGreat
set_option maxRecDepth 100000
set_option maxHeartbeats 4000000
theorem Cq {P:Program} {t:TypeId} {x y:Operand} {n:Int}:eU P .shr t x y (.int .i64 n) (.int .u64 1)=some (.int .i64 (n / 2),.none):=by
 have h:eU P .shr t x y (.int .i64 n) (.int .u64 1)=some (.int .i64 (n.fdiv (2 ^ 1)),.none):=rfl
 rw [h,Int.fdiv_eq_ediv_of_nonneg n (by decide)]
 rfl
theorem Fh {a b:AV} {t:TypeId} {x y:Operand} {hp:List AB} {K:AV→List AB→Prop} {n:Int} (ha:a=ah n) (hb:b=.fl (.int .u64 1)) (h:K (ah (n / 2)) hp):cI TT .shr t x y a b hp K:=by
 subst ha hb
 exact ⟨_,_,rfl,rfl,.int .i64 (n / 2),Cq,rfl,h⟩
theorem qg {x:Int} {b:Int} (h:-b≤x∧x≤b):0≤x * x∧x * x≤b * b:=by
 constructor
 ·rcases Int.le_total 0 x with h0|h0
  ·exact Int.mul_nonneg h0 h0
  ·exact Int.mul_nonneg_of_nonpos_of_nonpos h0 h0
 ·rcases Int.le_total 0 x with h0|h0
  ·exact e7 h0 h.2
  ·have:=e7 (a:=-x) (b:=b) (by omega) (by omega)
   rwa [Int.neg_mul_neg] at this
theorem tc (one:Bool) (c r x y:Int) (hc:0≤c∧c≤5000) (hr:0≤r∧r≤300) (hx:-60000≤x∧x≤60000) (hy:-60000≤y∧y≤60000):Pu one 62 [.ag [ah c,ah r],.ag [ah x,ah y]] (BB (ct x y c r)):=by
 have hxx:=qg hx
 have hyy:=qg hy
 unfold ct sq kq AirLaw.leftOf
 generalize hX:x * x=X at *
 generalize hY:y * y=Y at *
 refine af.body (fn:=Tryz.f62) rfl rfl rfl rfl ?_
 refine aa (mu:=fun _=>false) ?_
 repeat' (first |refine u1 ?_ |refine u2 ?_ |fail)
 rw [hX,hY]
 generalize hfar:X+Y=far at *
 have hfb:0≤far∧far≤7200000000:=by omega
 clear hfar hX hY hxx hyy
 generalize hR:gZ 13 (r * 100) (r * 100) c far=R
 refine av.aY (ai.to (l:=[(5,ah far),(6,ah (r * 100)),(7,ah (c)),(8,ah ((r * 100)))]) (hp:=[]) 0 rfl ⟨rfl,rfl,rfl,rfl,trivial⟩ (Nat.zero_le _) rfl rfl) ?_
 refine av.loop (fun z:Nat × Int × Int=>(z.2.2 < 2 ^ z.1∧gZ z.1 z.2.1 (r * 100) z.2.2 far=R)∧(0≤z.2.2∧z.2.2≤5000)∧0≤z.2.1∧z.2.1≤130000) (fun z=>⟨aP [(5,ah far),(6,ah (r * 100)),(7,ah (z.2.2)),(8,ah (z.2.1))],[],bq.none,false,0⟩) (fun z=>z.1) ?_ (13,r * 100,c) ⟨⟨by dsimp only;omega,hR⟩,hc,by dsimp only;omega,by dsimp only;omega⟩
 rintro ⟨n,w,l⟩ ⟨⟨hl2,hh⟩,hl,hw⟩
 dsimp only at hl2 hh hl hw
 have hww:=qg (x:=w) (b:=130000) (by omega)
 show av _ _ _ _ ⟨aP [(5,ah far),(6,ah (r * 100)),(7,ah (l)),(8,ah (w))],[],bq.none,false,0⟩ _
 refine aa (mu:=fun _=>false) ?_
 by_cases h0:0 < l
 ·have d1:decide ((0:Int) < l)=true:=decide_eq_true h0
  by_cases hwf:w * w≤far
  ·have d2:decide (w * w≤far)=true:=decide_eq_true hwf
   obtain ⟨m,rfl,h1,h2⟩:=Cp hl2 h0 hwf
   have hw9:w≤90000:=by
    apply Classical.byContradiction
    intro hn
    have:=e7 (a:=90000) (b:=w) (by omega) (by omega)
    omega
   repeat' (first |refine Fh rfl rfl ?_ |refine u1 ?_ |fail)
   refine ⟨(m,w+r * 100,l / 2),⟨⟨h1,by dsimp only;rw [←h2];exact hh⟩,by dsimp only;omega,by dsimp only;omega⟩,(by dsimp only;omega),?_⟩
   exact ai.to 0 rfl ⟨rfl,rfl,rfl,rfl,trivial⟩ (Nat.zero_le _) rfl rfl
  ·have d2:decide (w * w≤far)=false:=decide_eq_false hwf
   have hs:=s8 (n:=n) (w:=w) (len:=r * 100) (l:=l) (far:=far) (fun h=>hwf h.2)
   rw [hs] at hh
   subst hh
   repeat' (first |refine u1 ?_ |fail)
   exact ⟨[_],⟨Fz.deep rfl,trivial⟩,rfl⟩
 ·have d1:decide ((0:Int) < l)=false:=decide_eq_false h0
  have hs:=s8 (n:=n) (w:=w) (len:=r * 100) (l:=l) (far:=far) (fun h=>h0 h.1)
  rw [hs] at hh
  subst hh
  repeat' (first |refine u1 ?_ |fail)
  exact ⟨[_],⟨Fz.deep rfl,trivial⟩,rfl⟩
end Go.Proofs.YtichbhmnhkegiaaGreat
open Go Go.RM Go.AirLaw
namespace Go.Proofs.YtichbhmnhkegiaaGreat
set_option maxRecDepth 100000
set_option maxHeartbeats 4000000
theorem Fi {n:Int} (h0:-9223372036854775808≤n) (h1:n < 9223372036854775808):IntKind.wrap .i64 n=n:=by
 by_cases h:0≤n
 ·exact wrap_i64 h h1
 ·have hm:n % 18446744073709551616=n+18446744073709551616:=by omega
  show (if (true && decide (n % 18446744073709551616 ≥ 9223372036854775808))=true then n % 18446744073709551616 - 18446744073709551616 else n % 18446744073709551616)=n
  rw [hm,if_pos (by simp;omega)]
  omega
theorem EA {P:Program} {n:Int} (h0:-9223372036854775807≤n) (h1:n≤9223372036854775807):cr (ak P (Op.unary .neg (.int .i64 n)))=some (.int .i64 (-n),.none):=by
 have h:cr (ak P (Op.unary .neg (.int .i64 n)))=some (.int .i64 (IntKind.wrap .i64 (0 - n)),.none):=rfl
 rw [h,Int.zero_sub,Fi (by omega) (by omega)]
theorem FV {own:Bool} {fr:Nat→AV} {hp:List AB} {K:AV→List AB→Prop} {x:Operand} {t:TypeId} {n:Int} (hx:aB fr x=ah n) (h0:-9223372036854775807≤n∧n≤9223372036854775807) (h:K (ah (-n)) hp):RM.wpOp TT own (.unOp .neg t x) fr hp K:=by
 show B6 TT .neg (aB fr x) hp K
 rw [hx]
 exact ⟨_,rfl,.int .i64 (-n),EA h0.1 h0.2,rfl,h⟩
def Cr:List AV:=[ah 0,ah 1000,ah 195,ah 981,ah 383,ah 924,ah 556,ah 831,ah 707,ah 707,ah 831,ah 556,ah 924,ah 383,ah 981,ah 195]
theorem Bh (one:Bool):Pu one 140 [] (.ag Cr):=by
 refine af.body (fn:=Tryz.f140) rfl rfl rfl rfl ?_
 refine aa (mu:=fun _=>false) ?_
 repeat' (first |refine u1 ?_ |refine u2 ?_ |fail)
 exact ⟨[_],⟨Fz.deep rfl,trivial⟩,rfl⟩
theorem FX {own:Bool} {fr:Nat→AV} {hp:List AB} {K:AV→List AB→Prop} {a x:Operand} {m:Nat} (ha:aB fr a=.ag Cr) (hx:aB fr x=ah (m:Nat)) (hm:m < 8) (hK:K (.ag [ah (ec.getD m (0,0)).1,ah (ec.getD m (0,0)).2]) hp):RM.wpOp TT own (.index 194 a x) fr hp K:=by
 show qW TT 194 (aB fr a) (aB fr x) hp K
 rw [ha,hx]
 refine ⟨_,_,rfl,rfl,?_⟩
 match m,hm with
 | 0,_|1,_|2,_|3,_|4,_|5,_|6,_|7,_=>exact ⟨.agg #[.int .i64 _,.int .i64 _],rfl,rfl,hK⟩
def tn:Nat→Int × Int→Int × Int
 | 0,v=>v
 | k+1,v=>s9 (tn k v)
theorem Cs {p:Nat} (hp:p < 32):mL p=tn (p / 8) (ec.getD (p % 8) (0,0)):=by
 unfold mL
 have:p / 8=0∨p / 8=1∨p / 8=2∨p / 8=3:=by omega
 rcases this with h|h|h|h <;> rw [h] <;> rfl
theorem zu {v:Int × Int} (h:(-1000≤v.1∧v.1≤1000)∧-1000≤v.2∧v.2≤1000):∀ k,(-1000≤(tn k v).1∧(tn k v).1≤1000)∧-1000≤(tn k v).2∧(tn k v).2≤1000
 | 0=>h
 | k+1=>by
  have ih:=zu h k
  show (-1000≤(tn k v).2∧(tn k v).2≤1000)∧-1000≤-(tn k v).1∧-(tn k v).1≤1000
  omega
theorem qD {m:Nat} (h:m < 8):(-1000≤(ec.getD m (0,0)).1∧(ec.getD m (0,0)).1≤1000)∧-1000≤(ec.getD m (0,0)).2∧(ec.getD m (0,0)).2≤1000:=by
 match m,h with
 | 0,_|1,_|2,_|3,_|4,_|5,_|6,_|7,_=>decide
theorem Ae {p:Nat} (hp:p < 32):(-1000≤(mL p).1∧(mL p).1≤1000)∧-1000≤(mL p).2∧(mL p).2≤1000:=by
 rw [Cs hp]
 exact zu (qD (Nat.mod_lt _ (by decide))) _
theorem zw (one:Bool) (n lo hi:Int):af TT TB one (.fn 158 [] [.pt [ah lo] 0,.pt [ah hi] 0]) [ah n] (BB (decide (n < lo) || decide (hi < n))):=by
 refine af.body (fn:=Tryz.f158) rfl rfl rfl rfl ?_
 refine aa (mu:=fun _=>false) ?_
 repeat' (first |refine u1 ?_ |((with_reducible show bC _ _ _ _ _);refine uo rfl rfl (fun h=>?_) (fun h=>?_)) |fail)
 all_goals refine ⟨[_],⟨Fz.deep rfl,trivial⟩,?_⟩
 all_goals simp_all [vY]
 all_goals (intro _;omega)
theorem zx (one:Bool) (lo hi n:Int):Pu one 139 [ah lo,ah hi,.sl [eI n] true] (BB (bg lo hi [n])):=by
 have h:=kn one 158 [] [.pt [ah lo] 0,.pt [ah hi] 0] rfl (fun n=>decide (n < lo) || decide (hi < n)) [n] true (by simp [maxLen]) (fun n _=>zw one n lo hi)
 refine af.body (fn:=Tryz.f139) rfl rfl rfl rfl ?_
 refine aa (mu:=fun _=>false) ?_
 repeat' (first |refine u1 ?_ |refine u2 ?_ |refine af.call h rfl rfl ?_ |fail)
 exact ⟨[_],⟨Fz.deep rfl,trivial⟩,rfl⟩
theorem yc (one:Bool) (p:Nat) (hp:p < 32):Pu one 112 [ah (p:Nat)] (.tp [.ag [ah (mL p).1,ah (mL p).2],ah 0]):=by
 have ho:=zx one 0 31 (p:Int)
 rw [show bg 0 31 [(p:Int)]=false by simp [bg];omega] at ho
 have hq:=Bh one
 rw [Cs hp]
 have hm:p % 8 < 8:=Nat.mod_lt _ (by decide)
 have hb:=zu (qD hm)
 have hq3:p / 8≤3:=by omega
 have e1:((p:Nat):Int) % 8=((p % 8:Nat):Int):=by omega
 have e2:((p:Nat):Int) / 8=((p / 8:Nat):Int):=by omega
 refine af.body (fn:=Tryz.f112) rfl rfl rfl rfl ?_
 refine RM.dA (mu:=fun _=>false) ?_
 repeat' (first |refine u1 ?_ |fail)
 refine RM.dA (mu:=fun _=>false) ?_
 repeat' (first |refine u1 ?_ |refine u2 ?_ |refine af.call ho rfl rfl ?_ |fail)
 refine RM.dA (mu:=fun _=>false) ?_
 repeat' (first |refine FX rfl (cG e1) hm ?_ |refine u1 ?_ |refine u2 ?_ |refine af.call hq rfl rfl ?_ |fail)
 refine av.seq ?_
 refine RM.dA (mu:=fun _=>false) ?_
 repeat' (first |refine u1 ?_ |fail)
 generalize ec.getD (p % 8) (0,0)=v at *
 refine av.block ?_
 refine av.aY (ai.to (l:=[(0,ah (p:Nat)),(2,.ptr 0 0 0),(3,ah 0),(4,.ptr 1 0 0),(14,ah ((p / 8:Nat):Int)),(15,ah (0:Nat))]) (hp:=[.cells [ah 0,ah 0] 0 0,.cells [ah (tn 0 v).1,ah (tn 0 v).2] 0 0]) 2 rfl ⟨rfl,rfl,rfl,rfl,cG e2,rfl,trivial⟩ (Nat.zero_le _) rfl rfl) ?_
 refine av.loop (fun k:Nat=>k≤p / 8) (fun k=>⟨aP [(0,ah (p:Nat)),(2,.ptr 0 0 0),(3,ah 0),(4,.ptr 1 0 0),(14,ah ((p / 8:Nat):Int)),(15,ah (k:Nat))],[.cells [ah 0,ah 0] 0 0,.cells [ah (tn k v).1,ah (tn k v).2] 0 0],bq.none,false,0⟩) (fun k=>p / 8 - k) ?_ 0 (Nat.zero_le _)
 intro k hk
 have hbk:=hb k
 refine aa (mu:=fun _=>false) ?_
 by_cases hlt:k < p / 8
 ·have d1:decide ((k:Int) < ((p / 8:Nat):Int))=true:=decide_eq_true (by omega)
  have hs:tn (k+1) v=((tn k v).2,-(tn k v).1):=rfl
  repeat' (first |refine FV rfl (by omega) ?_ |refine u1 ?_ |refine u2 ?_ |fail)
  refine ⟨k+1,hlt,(by dsimp only;omega),?_⟩
  show ai _ ⟨aP [(0,ah (p:Nat)),(2,.ptr 0 0 0),(3,ah 0),(4,.ptr 1 0 0),(14,ah ((p / 8:Nat):Int)),(15,ah ((k+1):Nat))],[.cells [ah 0,ah 0] 0 0,.cells [ah (tn (k+1) v).1,ah (tn (k+1) v).2] 0 0],bq.none,false,0⟩
  rw [hs]
  exact ai.to 2 rfl ⟨rfl,rfl,rfl,rfl,rfl,cG (by simp),trivial⟩ (Nat.zero_le _) rfl rfl
 ·have d1:decide ((k:Int) < ((p / 8:Nat):Int))=false:=decide_eq_false (by omega)
  have hkq:k=p / 8:=by omega
  subst hkq
  repeat' (first |refine u1 ?_ |fail)
  refine aa (mu:=fun _=>false) ?_
  repeat' (first |refine u1 ?_ |refine u2 ?_ |fail)
  exact ⟨[_,_],⟨Fz.deep rfl,Fz.deep rfl,trivial⟩,rfl⟩
end Go.Proofs.YtichbhmnhkegiaaGreat
open Go Go.RM
namespace Go.Proofs.YtichbhmnhkegiaaGreat
set_option maxRecDepth 100000
set_option maxHeartbeats 4000000
theorem fT {P:Program} {α β:Type} (m:Sem α) (f:α→Sem β):ak P (m >>= f)=(ak P m).bind fun a=>ak P (f a):=by
 show ak P (Sem.bind m f)=_
 induction m with
 | pure a=>rfl
 | program k ih=>exact ih P
 | mark _ k ih=>exact ih
 | _=>rfl
theorem Bi {P:Program} (d:Nat) (t:TypeId) (xs ys:Array Value) (ht:P.underlying t=some (.struct (P.fieldsOf t))) (hp:P.stoodInHeld t=false) :
  ak P (Op.equalIn (d+1) t (.agg xs) (.agg ys))=ak P (Op.eqFields d xs ys (P.fieldsOf t).toList):=by
 have hu:ak P (underlying t)=some (.struct (P.fieldsOf t)):=by
  unfold underlying
  simp only [fT]
  show ak P _=_
  simp [ht]
  rfl
 have hg:ak P program=some P:=rfl
 simp only [Op.equalIn,fT,hu,hg,hp,Option.bind_some,Bool.false_eq_true,if_false]
 rw [←Array.forIn_toList]
 generalize (P.fieldsOf t).toList=fs
 clear ht hu
 induction fs with
 | nil=>rfl
 | cons f fs ih =>
  simp only [List.forIn_cons,Op.eqFields,fT]
  split
  ·simp only [fT]
   cases ak P (part f.type xs f.offset) with
   | none=>rfl
   | some a =>
    simp only [Option.bind_some]
    cases ak P (part f.type ys f.offset) with
    | none=>rfl
    | some b =>
     simp only [Option.bind_some]
     cases ak P (Op.equalIn d f.type a b) with
     | none=>rfl
     | some r =>
      cases r
      ·rfl
      ·exact ih
  ·exact ih
def vI (n:Int):Value:=.int .i64 n
theorem Af {d:Nat} (a b:Int):ak TT.P (Op.equalIn (d+1) 3 (vI a) (vI b))=some (decide (a=b)):=by
 show some (a == b)=_
 congr 1
theorem Ct {t : TypeId} (hf : (TT.P.fieldsOf t).toList.map (fun f => (f.type, f.offset, f.name == "_")) = [(3, 0, false), (3, 1, false)]) (hu : TT.P.underlying t = some (.struct (TT.P.fieldsOf t))) (hs : TT.P.stoodInHeld t = false) (a b c d : Int) : ak TT.P (Op.equalIn 10000 t (.agg #[vI a, vI b]) (.agg #[vI c, vI d])) = some (decide (a = c) && decide (b = d)) := by
  rw [Bi 9999 t _ _ hu hs]
  generalize (TT.P.fieldsOf t).toList = L at hf
  cases L with
  | nil => cases hf
  | cons f L =>
    cases L with
    | nil => simp at hf
    | cons g L =>
      cases L with
      | cons => simp at hf
      | nil =>
        simp only [List.map_cons, List.map_nil, List.cons.injEq, Prod.mk.injEq, and_true] at hf
        obtain ⟨⟨f1, f2, f3⟩, g1, g2, g3⟩ := hf
        have f3 : f.name ≠ "_" := by simpa using f3
        have g3 : g.name ≠ "_" := by simpa using g3
        have p1 : ak TT.P (part f.type #[vI a, vI b] f.offset) = some (vI a) := by rw [f1, f2]; rfl
        have p2 : ak TT.P (part f.type #[vI c, vI d] f.offset) = some (vI c) := by rw [f1, f2]; rfl
        have p3 : ak TT.P (part g.type #[vI a, vI b] g.offset) = some (vI b) := by rw [g1, g2]; rfl
        have p4 : ak TT.P (part g.type #[vI c, vI d] g.offset) = some (vI d) := by rw [g1, g2]; rfl
        have q1 : ak TT.P (Op.equalIn 9999 f.type (vI a) (vI c)) = some (decide (a = c)) := by rw [f1]; exact Af a c
        have q2 : ak TT.P (Op.equalIn 9999 g.type (vI b) (vI d)) = some (decide (b = d)) := by rw [g1]; exact Af b d
        unfold Op.eqFields
        rw [if_pos f3]
        simp only [fT, p1, p2, q1, Option.bind_some]
        by_cases h1 : a = c
        · rw [decide_eq_true h1]
          unfold Op.eqFields
          simp only [Bool.not_true, Bool.false_eq_true, if_false, if_pos g3, fT, p3, p4, q2, Option.bind_some]
          by_cases h2 : b = d
          · rw [decide_eq_true h2]; rfl
          · rw [decide_eq_false h2]; rfl
        · rw [decide_eq_false h1]; rfl
theorem Ag {t : TypeId} (hf : (TT.P.fieldsOf t).toList.map (fun f => (f.type, f.offset, f.name == "_")) = [(3, 0, false), (3, 1, false)]) (hu : TT.P.underlying t = some (.struct (TT.P.fieldsOf t))) (hs : TT.P.stoodInHeld t = false) (hg : TT.P.eqGuardType TT.P.depth t = false) {x y : Operand} (a b c d : Int) :
    eU TT.P .eql t x y (.agg #[vI a, vI b]) (.agg #[vI c, vI d]) = some (.bool (decide (a = c) && decide (b = d)), .none) ∧ eU TT.P .neq t x y (.agg #[vI a, vI b]) (.agg #[vI c, vI d]) = some (.bool (!(decide (a = c) && decide (b = d))), .none) := by
  constructor
  · show dB TT.P .eql t x y (.agg #[vI a, vI b]) (.agg #[vI c, vI d]) = _
    unfold dB
    rw [show (flat (.agg #[vI a, vI b]) && flat (.agg #[vI c, vI d])) = true from rfl, cond_true, fT]
    rw [show ak TT.P (eqGuard .eql t x y (.agg #[vI a, vI b]) (.agg #[vI c, vI d])) = some () by
      show ak TT.P (if (!(TT.P.eqGuardType TT.P.depth t)) = true then _ else _) = _
      rw [hg]; rfl]
    show cr (ak TT.P (Op.equal t _ _ >>= fun r => pure (Value.bool r))) = _
    rw [fT]
    show cr ((ak TT.P (Op.equalIn 10000 t _ _)).bind _) = _
    rw [Ct hf hu hs]
    rfl
  · show dB TT.P .neq t x y (.agg #[vI a, vI b]) (.agg #[vI c, vI d]) = _
    unfold dB
    rw [show (flat (.agg #[vI a, vI b]) && flat (.agg #[vI c, vI d])) = true from rfl, cond_true, fT]
    rw [show ak TT.P (eqGuard .neq t x y (.agg #[vI a, vI b]) (.agg #[vI c, vI d])) = some () by
      show ak TT.P (if (!(TT.P.eqGuardType TT.P.depth t)) = true then _ else _) = _
      rw [hg]; rfl]
    show cr (ak TT.P (Op.equal t _ _ >>= fun r => pure (Value.bool (!r)))) = _
    rw [fT]
    show cr ((ak TT.P (Op.equalIn 10000 t _ _)).bind _) = _
    rw [Ct hf hu hs]
    rfl
section
variable {a b : AV} {x y : Operand} {hp : List AB} {K : AV → List AB → Prop} {m n p q : Int}
theorem EB:∀ {x y:Operand} (a b c d:Int),eU TT.P .eql 23 x y (.agg #[vI a,vI b]) (.agg #[vI c,vI d])=some (.bool (decide (a=c) && decide (b=d)),.none)∧eU TT.P .neq 23 x y (.agg #[vI a,vI b]) (.agg #[vI c,vI d])=some (.bool (!(decide (a=c) && decide (b=d))),.none) :=
 fun a b c d=>Ag (by kernel_rfl) (by kernel_rfl) (by kernel_rfl) (by kernel_rfl) a b c d
theorem F7 (ha:a=.ag [ah m,ah n]) (hb:b=.ag [ah p,ah q]) (h:K (BB (decide (m=p) && decide (n=q))) hp):cI TT .eql 23 x y a b hp K:=by
 subst ha hb
 exact ⟨_,_,rfl,rfl,.bool (decide (m=p) && decide (n=q)),(EB m n p q).1,rfl,h⟩
end
end Go.Proofs.YtichbhmnhkegiaaGreat
