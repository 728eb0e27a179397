/-
  Contracts of the program's functions and of the document's. Lemmas alone; their conditions stand in them.
-/
import Derived.Test.YtalcbebjpgfnfaaGreatA2
import Derived.Test.YtalcbebjpgfnfaaGreatA3
import Derived.Test.YtalcbebjpgfnfaaGreatK1
import Derived.Laws.StructEq
open Go Go.RM
namespace Go.Proofs.YtalcbebjpgfnfaaGreat
set_option maxRecDepth 100000
def iA (name:ByteArray) (names:List ByteArray):Int:=if ja name=false then 6 else if names.any (fun x=>vr x name) then 5 else 0
theorem EP (one:Bool) (names:List ByteArray) (full:Bool) (s:ByteArray) (hs:s.data.toList.length≤maxLen) (hl:names.length≤maxLen):Pu one 18 [ST s,.sl (names.map eS) full] (ah (iA s names)):=by
 have hg:=mD (fun x=>vr x s) names
 have hc:=JX one names full s hl
 unfold iA
 generalize lE (fun x=>vr x s) names=i at hg hc
 generalize names.any (fun x=>vr x s)=b at hg
 refine af.body (fn:=Tryz.f18) rfl rfl rfl rfl ?_
 refine aa (mu:=fun _=>false) ?_
 repeat' (first |with_reducible (first|refine bO ?_|refine bg ?_|refine aT ?_|refine aU ?_) |(refine af.call (JY one _ hs) rfl rfl ?_) |(refine af.call hc rfl rfl ?_) |(refine ⟨fun h=>?_,fun h=>?_⟩) |fail)
 all_goals refine ⟨[_],⟨Fz.deep rfl,trivial⟩,aH ?_⟩
 all_goals simp_all
def aN (lo hi:Int) (s:Span):Int:=if !kM s.lo lo hi || !kM s.hi lo hi then 7 else if s.hi < s.lo then 2 else 0
def nr (lo hi:Int) (l:List Span):Int:=if l.any (fun s=>!kM s.lo lo hi || !kM s.hi lo hi) then 7 else if l.any (fun s=>decide (s.hi < s.lo)) then 2 else 0
theorem H7 (one : Bool) (l : List Span) (full : Bool) (lo hi : Int) (hl : l.length ≤ maxLen) : Pu one 60 [.sl (l.map ck) full, ah lo, ah hi] (ah (nr lo hi l)) := by
  unfold maxLen at hl
  refine af.body (fn := Tryz.f60) rfl rfl rfl rfl ?_
  refine aa (mu := fun _ => false) ?_
  repeat' (first |with_reducible (first|refine bg ?_|refine aT ?_) |fail)
  refine az.aK (ai.to (l := [(0, .sl (l.map ck) full), (1, ah lo), (2, ah hi), (7, ah 0), (8, ah ((0 : Nat) : Int))]) 0 rfl ⟨rfl, rfl, rfl, rfl, rfl, trivial⟩ (Nat.le_refl _) rfl rfl) ?_
  refine az.loop (fun k : Nat => k ≤ l.length ∧ (l.take k).any (fun s => !kM s.lo lo hi || !kM s.hi lo hi) = false) (fun k => ⟨aX [(0, .sl (l.map ck) full), (1, ah lo), (2, ah hi), (7, ah (if (l.take k).any (fun s => decide (s.hi < s.lo)) then 2 else 0)), (8, ah (k : Int))], [], bN.none, false, 0⟩) (fun k => l.length - k) ?_ 0 ⟨Nat.zero_le _, rfl⟩
  intro k ⟨hk, hprev⟩
  refine aa (mu := fun _ => false) ?_
  repeat' (first |with_reducible (first|refine bg ?_|refine aT ?_) |fail)
  refine ⟨fun h => ?_, fun h => ?_⟩
  · have hlt : k < l.length := by simpa using h
    have htake : l.take (k + 1) = l.take k ++ [l[k]] := by rw [List.take_add_one, List.getElem?_eq_getElem hlt]; rfl
    repeat' (first |((with_reducible show mT _ _ _ _ (.region _ _ true) _ _);refine RM.c5 (by kernel_rfl) rfl rfl ?_) |with_reducible (first|refine bO ?_|refine bg ?_|refine fK ?_|refine aT ?_|refine aU ?_) |(refine ⟨_, rfl, ?_⟩) |(refine bC (by assumption) ?_) |(refine bC rfl ?_) |(refine bS (by assumption) ?_) |(refine ⟨_, _, rfl, by decide, ?_⟩) |(refine And.intro (by omega) ?_) |(refine And.intro (by kernel_rfl) ?_) |(refine ⟨ck l[k], ⟨by omega, cq hlt⟩, rfl, ?_⟩) |(refine af.call (EO one _ _ _) rfl rfl ?_) |(refine ⟨fun h => ?_, fun h => ?_⟩) |fail)
    all_goals first
      | (refine ⟨[_], ⟨Fz.deep rfl, trivial⟩, aH ?_⟩
         have : l.any (fun s => !kM s.lo lo hi || !kM s.hi lo hi) = true := by
           rw [List.any_eq_true]
           exact ⟨l[k], List.getElem_mem hlt, by simp_all⟩
         simp only [nr, this]
         rfl)
      | (refine ⟨k + 1, ⟨hlt, by rw [htake, List.any_append, hprev]; simp_all⟩, (by dsimp only; omega), ai.to 0 rfl ⟨rfl, rfl, rfl, aH ?_, aH (by simp), trivial⟩ (Nat.le_refl _) rfl rfl⟩
         rw [htake, List.any_append]
         generalize (l.take k).any (fun s => decide (s.hi < s.lo)) = b
         cases b <;> simp_all)
  · skip
    refine ⟨[_], ⟨Fz.deep rfl, trivial⟩, aH ?_⟩
    have : k = l.length := by simp at h; omega
    subst this
    rw [List.take_length] at hprev ⊢
    simp only [nr, hprev]
    rfl
theorem DT {lo hi:Int} {s:Span}:nr lo hi [s]=aN lo hi s:=by
 simp [nr,aN]
theorem qd (one:Bool) (s:Span) (lo hi:Int):Pu one 17 [.ag (ck s),ah lo,ah hi] (ah (aN lo hi s)):=by
 rw [←DT]
 refine af.body (fn:=Tryz.f17) rfl rfl rfl rfl ?_
 refine aa (mu:=fun _=>false) ?_
 repeat' (first |with_reducible (first|refine bg ?_|refine aT ?_) |refine u2 ?_ |refine u1 ?_ |refine af.call (H7 one [s] true lo hi (Nat.le_of_ble_eq_true rfl)) rfl rfl ?_ |fail)
 exact ⟨[_],⟨Fz.deep rfl,trivial⟩,rfl⟩
end Go.Proofs.YtalcbebjpgfnfaaGreat
namespace Go.AirLaw
def j7:Nat→Int→Int→Int→Int→Int
 | 0,_,_,left,_=>left
 | n+1,whole,len,left,far=>if 0 < left∧whole * whole≤far then j7 n (whole+len) len (left / 2) far else left
def leftOf (candles clear far:Int):Int:=j7 13 (clear * 100) (clear * 100) candles far
def nu (candles clear far:Int):Bool:=decide (far≤leftOf candles clear far * 1000000)
def sq (x y:Int):Int:=x * x+y * y
def dB (x y candles clear:Int):Bool:=nu candles clear (sq x y)
theorem sZ:∀ (n:Nat) (w len l far:Int),0≤l→j7 n w len l far≤l∧0≤j7 n w len l far
 | 0,_,_,l,_,h=>⟨Int.le_refl _,h⟩
 | n+1,w,len,l,far,h=>by
  unfold j7
  split
  ·have:=sZ n (w+len) len (l / 2) far (by omega)
   omega
  ·exact ⟨Int.le_refl _,h⟩
theorem iB {a b:Int} (h0:0≤a) (h:a≤b):a * a≤b * b:=Int.mul_le_mul h h h0 (by omega)
theorem xd:∀ (n:Nat) {w1 w2 len1 len2 l1 l2 far1 far2:Int},0≤l1→0≤l2→l2≤l1→0≤w2→w2≤w1→0≤len2→len2≤len1→far1≤far2→j7 n w2 len2 l2 far2≤j7 n w1 len1 l1 far1
 | 0,_,_,_,_,_,_,_,_,_,_,h,_,_,_,_,_=>h
 | n+1,w1,w2,len1,len2,l1,l2,far1,far2,h1,h2,hl,hw0,hw,hn0,hn,hf=>by
  have hww:=iB hw0 hw
  unfold j7
  by_cases c1:0 < l1∧w1 * w1≤far1
  ·rw [if_pos c1]
   by_cases c2:0 < l2∧w2 * w2≤far2
   ·rw [if_pos c2]
    exact xd n (by omega) (by omega) (by omega) (by omega) (by omega) hn0 hn hf
   ·rw [if_neg c2]
    have:=(sZ n (w1+len1) len1 (l1 / 2) far1 (by omega)).2
    omega
  ·rw [if_neg c1]
   by_cases c2:0 < l2∧w2 * w2≤far2
   ·rw [if_pos c2]
    have:=(sZ n (w2+len2) len2 (l2 / 2) far2 (by omega)).1
    omega
   ·rw [if_neg c2]
    exact hl
theorem qL {c1 c2 r1 r2 f1 f2:Int} (hc0:0≤c2) (hc:c2≤c1) (hr0:0≤r2) (hr:r2≤r1) (hf:f1≤f2) (h:nu c2 r2 f2=true):nu c1 r1 f1=true:=by
 unfold nu leftOf at *
 rw [decide_eq_true_eq] at *
 have:=xd 13 (w1:=r1 * 100) (w2:=r2 * 100) (len1:=r1 * 100) (len2:=r2 * 100) (l1:=c1) (l2:=c2) (far1:=f1) (far2:=f2) (by omega) hc0 hc (by omega) (by omega) (by omega) (by omega) hf
 omega
theorem xe {n:Nat} {w len l far:Int} (h:¬ (0 < l∧w * w≤far)):j7 n w len l far=l:=by
 cases n with
 | zero=>rfl
 | succ n=>unfold j7;rw [if_neg h]
theorem H8 {n:Nat} {w len l far:Int} (hl:l < 2 ^ n) (h0:0 < l) (h:w * w≤far):∃ m,n=m+1∧l / 2 < 2 ^ m∧j7 n w len l far=j7 m (w+len) len (l / 2) far:=by
 cases n with
 | zero=>omega
 | succ m =>
  refine ⟨m,rfl,?_,?_⟩
  ·have:(2:Int) ^ (m+1)=2 ^ m * 2:=Int.pow_succ ..
   omega
  ·rw [j7,if_pos ⟨h0,h⟩]
def gk:List (Int × Int):=[(0,1000),(195,981),(383,924),(556,831),(707,707),(831,556),(924,383),(981,195)]
def xg (v:Int × Int):Int × Int:=(v.2,-v.1)
def qt (p:Nat):Int × Int :=
 match p / 8 with
 | 0=>gk.getD (p % 8) (0,0)
 | 1=>xg (gk.getD (p % 8) (0,0))
 | 2=>xg (xg (gk.getD (p % 8) (0,0)))
 | _=>xg (xg (xg (gk.getD (p % 8) (0,0))))
def j8 (p:Nat) (x y:Int):Int:=(qt p).1 * y - (qt p).2 * x
def lH (x y:Int) (p:Nat):Bool:=decide (j8 p x y≤0) && decide (0 < j8 ((p+1) % 32) x y)
theorem Gd {x y:Int} (h:¬ (x=0∧y=0)):∃ p,p < 32∧lH x y p=true:=by
 apply Classical.byContradiction
 intro hno
 have step:∀ p,p < 32→j8 p x y≤0→j8 ((p+1) % 32) x y≤0:=by
  intro p hp hl
  apply Classical.byContradiction
  intro hn
  refine hno ⟨p,hp,?_⟩
  unfold lH
  rw [decide_eq_true hl,decide_eq_true (by omega)]
  rfl
 have run:∀ (k a:Nat),a < 32→j8 a x y≤0→j8 ((a+k) % 32) x y≤0:=by
  intro k
  induction k with
  | zero=>intro a ha hl;rw [Nat.add_zero,Nat.mod_eq_of_lt ha];exact hl
  | succ k ih =>
   intro a ha hl
   have:=step _ (Nat.mod_lt (a+k) (by decide)) (ih a ha hl)
   rw [Nat.mod_add_mod] at this
   exact this
 have h0:j8 0 x y=0 * y - 1000 * x:=rfl
 have h8:j8 8 x y=1000 * y - (-0) * x:=rfl
 have h16:j8 16 x y=(-0) * y - (-1000) * x:=rfl
 have h24:j8 24 x y=(-1000) * y - (-(-0)) * x:=rfl
 have all:j8 0 x y≤0∧j8 8 x y≤0∧j8 16 x y≤0∧j8 24 x y≤0:=by
  by_cases hx:0≤x
  ·have ha:j8 0 x y≤0:=by omega
   exact ⟨ha,run 8 0 (by decide) ha,run 16 0 (by decide) ha,run 24 0 (by decide) ha⟩
  ·have ha:j8 16 x y≤0:=by omega
   exact ⟨run 16 16 (by decide) ha,run 24 16 (by decide) ha,ha,run 8 16 (by decide) ha⟩
 omega
def jD (x y:Int):Nat:=((List.range 32).find? (lH x y)).getD 0
theorem AX {x y:Int} (h:¬ (x=0∧y=0)):jD x y < 32∧lH x y (jD x y)=true∧∀ q,q < jD x y→lH x y q=false:=by
 obtain ⟨p,hp,hs⟩:=Gd h
 cases hf:(List.range 32).find? (lH x y) with
 | none =>
  rw [List.find?_eq_none] at hf
  exact absurd hs (hf p (List.mem_range.2 hp))
 | some q =>
  have e:jD x y=q:=by unfold jD;rw [hf];rfl
  rw [e]
  have h1:=List.find?_some hf
  have h2:=List.mem_range.1 (List.mem_of_find?_eq_some hf)
  refine ⟨h2,h1,fun r hr=>?_⟩
  rw [List.find?_range_eq_some] at hf
  have:=hf.2.2 r hr
  simpa using this
def jb (p w:Int):Int:=if 16 < max (p - w) (w - p) then 32 - max (p - w) (w - p) else max (p - w) (w - p)
def xh (bW:Int) (p w:Int):Int:=bW * (1400 - 50 * jb p w) / 10
def cF (x y bW g8:Int):Bool:=decide (x=0∧y=0) || decide (sq x y≤xh bW (jD x y) g8 * xh bW (jD x y) g8)
end Go.AirLaw
namespace Go.AirLaw
def dQ (c r:Int) (d:Nat):Bool:=dB (d:Int) 0 c r
theorem lI {c r:Int} (hc:0≤c):dQ c r 0=true:=by
 unfold dQ dB nu sq leftOf
 rw [decide_eq_true_eq]
 have:=(sZ 13 (r * 100) (r * 100) c 0 hc).2
 show (0:Int) * 0+0 * 0≤j7 13 (r * 100) (r * 100) c (0 * 0+0 * 0) * 1000000
 rw [Int.mul_zero,Int.add_zero]
 omega
theorem lJ {c1 c2 r1 r2:Int} {d e:Nat} (hc0:0≤c2) (hc:c2≤c1) (hr0:0≤r2) (hr:r2≤r1) (h:d≤e) (ha:dQ c2 r2 e=true):dQ c1 r1 d=true:=by
 unfold dQ dB at *
 refine qL hc0 hc hr0 hr ?_ ha
 unfold sq
 have:=iB (a:=(d:Int)) (b:=(e:Int)) (by omega) (by omega)
 omega
def most (p:Nat→Bool):Nat→Nat
 | 0=>0
 | n+1=>if p (n+1)=true then n+1 else most p n
theorem ER (p:Nat→Bool):∀ n,most p n≤n
 | 0=>Nat.le_refl _
 | n+1=>by
  unfold most
  split
  ·exact Nat.le_refl _
  ·exact Nat.le_succ_of_le (ER p n)
theorem nw {p:Nat→Bool} (h0:p 0=true):∀ n,p (most p n)=true
 | 0=>h0
 | n+1=>by
  unfold most
  split
  ·assumption
  ·exact nw h0 n
theorem oZ {p:Nat→Bool}:∀ {n d:Nat},d≤n→p d=true→d≤most p n
 | 0,d,h,_=>h
 | n+1,d,h,hp=>by
  unfold most
  split
  ·exact h
  ·by_cases hd:d=n+1
   ·subst hd
    rename_i hq
    exact absurd hp hq
   ·exact oZ (by omega) hp
theorem Ge {p:Nat→Bool} {n d:Nat} (hd:d≤n) (h1:p d=true) (h2:∀ e,d < e→e≤n→p e=false) (h0:p 0=true):most p n=d:=by
 have h3:=oZ hd h1
 have h4:=ER p n
 by_cases h:d < most p n
 ·have:=h2 _ h h4
  rw [nw h0] at this
  cases this
 ·omega
end Go.AirLaw
open Go Go.RM Go.AirLaw
namespace Go.Proofs.YtalcbebjpgfnfaaGreat
set_option maxRecDepth 100000
set_option maxHeartbeats 4000000
theorem H9 {P:Program} {t:TypeId} {x y:Operand} {n:Int}:hU P .shr t x y (.int .i64 n) (.int .u64 1)=some (.int .i64 (n / 2),.none):=by
 have h:hU P .shr t x y (.int .i64 n) (.int .u64 1)=some (.int .i64 (n.fdiv (2 ^ 1)),.none):=rfl
 rw [h,Int.fdiv_eq_ediv_of_nonneg n (by decide)]
 rfl
theorem MN {a b:AV} {t:TypeId} {x y:Operand} {hp:List AB} {K:AV→List AB→Prop} {n:Int} (ha:a=ah n) (hb:b=.fl (.int .u64 1)) (h:K (ah (n / 2)) hp):ee TT .shr t x y a b hp K:=by
 subst ha hb
 exact ⟨_,_,rfl,rfl,.int .i64 (n / 2),H9,rfl,h⟩
theorem ug {x:Int} {b:Int} (h:-b≤x∧x≤b):0≤x * x∧x * x≤b * b:=by
 constructor
 ·rcases Int.le_total 0 x with h0|h0
  ·exact Int.mul_nonneg h0 h0
  ·exact Int.mul_nonneg_of_nonpos_of_nonpos h0 h0
 ·rcases Int.le_total 0 x with h0|h0
  ·exact iB h0 h.2
  ·have:=iB (a:=-x) (b:=b) (by omega) (by omega)
   rwa [Int.neg_mul_neg] at this
theorem xj (one:Bool) (c r x y:Int) (hc:0≤c∧c≤5000) (hr:0≤r∧r≤300) (hx:-60000≤x∧x≤60000) (hy:-60000≤y∧y≤60000):Pu one 63 [.ag [ah c,ah r],.ag [ah x,ah y]] (BB (dB x y c r)):=by
 have hxx:=ug hx
 have hyy:=ug hy
 unfold dB sq nu AirLaw.leftOf
 generalize hX:x * x=X at *
 generalize hY:y * y=Y at *
 refine af.body (fn:=Tryz.f63) rfl rfl rfl rfl ?_
 refine aa (mu:=fun _=>false) ?_
 repeat' (first |refine u1 ?_ |refine u2 ?_ |fail)
 rw [hX,hY]
 generalize hfar:X+Y=far at *
 have hfb:0≤far∧far≤7200000000:=by omega
 clear hfar hX hY hxx hyy
 generalize hR:j7 13 (r * 100) (r * 100) c far=R
 refine az.aK (ai.to (l:=[(5,ah far),(6,ah (r * 100)),(7,ah (c)),(8,ah ((r * 100)))]) (hp:=[]) 0 rfl ⟨rfl,rfl,rfl,rfl,trivial⟩ (Nat.zero_le _) rfl rfl) ?_
 refine az.loop (fun z:Nat × Int × Int=>(z.2.2 < 2 ^ z.1∧j7 z.1 z.2.1 (r * 100) z.2.2 far=R)∧(0≤z.2.2∧z.2.2≤5000)∧0≤z.2.1∧z.2.1≤130000) (fun z=>⟨aX [(5,ah far),(6,ah (r * 100)),(7,ah (z.2.2)),(8,ah (z.2.1))],[],bN.none,false,0⟩) (fun z=>z.1) ?_ (13,r * 100,c) ⟨⟨by dsimp only;omega,hR⟩,hc,by dsimp only;omega,by dsimp only;omega⟩
 rintro ⟨n,w,l⟩ ⟨⟨hl2,hh⟩,hl,hw⟩
 dsimp only at hl2 hh hl hw
 have hww:=ug (x:=w) (b:=130000) (by omega)
 show az _ _ _ _ ⟨aX [(5,ah far),(6,ah (r * 100)),(7,ah (l)),(8,ah (w))],[],bN.none,false,0⟩ _
 refine aa (mu:=fun _=>false) ?_
 by_cases h0:0 < l
 ·have d1:decide ((0:Int) < l)=true:=decide_eq_true h0
  by_cases hwf:w * w≤far
  ·have d2:decide (w * w≤far)=true:=decide_eq_true hwf
   obtain ⟨m,rfl,h1,h2⟩:=H8 hl2 h0 hwf
   have hw9:w≤90000:=by
    apply Classical.byContradiction
    intro hn
    have:=iB (a:=90000) (b:=w) (by omega) (by omega)
    omega
   repeat' (first |refine MN rfl rfl ?_ |refine u1 ?_ |fail)
   refine ⟨(m,w+r * 100,l / 2),⟨⟨h1,by dsimp only;rw [←h2];exact hh⟩,by dsimp only;omega,by dsimp only;omega⟩,(by dsimp only;omega),?_⟩
   exact ai.to 0 rfl ⟨rfl,rfl,rfl,rfl,trivial⟩ (Nat.zero_le _) rfl rfl
  ·have d2:decide (w * w≤far)=false:=decide_eq_false hwf
   have hs:=xe (n:=n) (w:=w) (len:=r * 100) (l:=l) (far:=far) (fun h=>hwf h.2)
   rw [hs] at hh
   subst hh
   repeat' (first |refine u1 ?_ |fail)
   exact ⟨[_],⟨Fz.deep rfl,trivial⟩,rfl⟩
 ·have d1:decide ((0:Int) < l)=false:=decide_eq_false h0
  have hs:=xe (n:=n) (w:=w) (len:=r * 100) (l:=l) (far:=far) (fun h=>h0 h.1)
  rw [hs] at hh
  subst hh
  repeat' (first |refine u1 ?_ |fail)
  exact ⟨[_],⟨Fz.deep rfl,trivial⟩,rfl⟩
end Go.Proofs.YtalcbebjpgfnfaaGreat
open Go Go.RM Go.AirLaw
namespace Go.Proofs.YtalcbebjpgfnfaaGreat
set_option maxRecDepth 100000
set_option maxHeartbeats 4000000
theorem MO {n:Int} (h0:-9223372036854775808≤n) (h1:n < 9223372036854775808):IntKind.wrap .i64 n=n:=by
 by_cases h:0≤n
 ·exact wrap_i64 h h1
 ·have hm:n % 18446744073709551616=n+18446744073709551616:=by omega
  show (if (true && decide (n % 18446744073709551616 ≥ 9223372036854775808))=true then n % 18446744073709551616 - 18446744073709551616 else n % 18446744073709551616)=n
  rw [hm,if_pos (by simp;omega)]
  omega
theorem LM {P:Program} {n:Int} (h0:-9223372036854775807≤n) (h1:n≤9223372036854775807):cE (aA P (Op.unary .neg (.int .i64 n)))=some (.int .i64 (-n),.none):=by
 have h:cE (aA P (Op.unary .neg (.int .i64 n)))=some (.int .i64 (IntKind.wrap .i64 (0 - n)),.none):=rfl
 rw [h,Int.zero_sub,MO (by omega) (by omega)]
theorem N1 {own:Bool} {fr:Nat→AV} {hp:List AB} {K:AV→List AB→Prop} {x:Operand} {t:TypeId} {n:Int} (hx:aQ fr x=ah n) (h0:-9223372036854775807≤n∧n≤9223372036854775807) (h:K (ah (-n)) hp):RM.wpOp TT own (.unOp .neg t x) fr hp K:=by
 show HI TT .neg (aQ fr x) hp K
 rw [hx]
 exact ⟨_,rfl,.int .i64 (-n),LM h0.1 h0.2,rfl,h⟩
def Ia:List AV:=[ah 0,ah 1000,ah 195,ah 981,ah 383,ah 924,ah 556,ah 831,ah 707,ah 707,ah 831,ah 556,ah 924,ah 383,ah 981,ah 195]
theorem Gf (one:Bool):Pu one 143 [] (.ag Ia):=by
 refine af.body (fn:=Tryz.f143) rfl rfl rfl rfl ?_
 refine aa (mu:=fun _=>false) ?_
 repeat' (first |refine u1 ?_ |refine u2 ?_ |fail)
 exact ⟨[_],⟨Fz.deep rfl,trivial⟩,rfl⟩
theorem N2 {own:Bool} {fr:Nat→AV} {hp:List AB} {K:AV→List AB→Prop} {a x:Operand} {m:Nat} (ha:aQ fr a=.ag Ia) (hx:aQ fr x=ah (m:Nat)) (hm:m < 8) (hK:K (.ag [ah (gk.getD m (0,0)).1,ah (gk.getD m (0,0)).2]) hp):RM.wpOp TT own (.index 213 a x) fr hp K:=by
 show vC TT 213 (aQ fr a) (aQ fr x) hp K
 rw [ha,hx]
 refine ⟨_,_,rfl,rfl,?_⟩
 match m,hm with
 | 0,_|1,_|2,_|3,_|4,_|5,_|6,_|7,_=>exact ⟨.agg #[.int .i64 _,.int .i64 _],rfl,rfl,hK⟩
def tn:Nat→Int × Int→Int × Int
 | 0,v=>v
 | k+1,v=>xg (tn k v)
theorem Ib {p:Nat} (hp:p < 32):qt p=tn (p / 8) (gk.getD (p % 8) (0,0)):=by
 unfold qt
 have:p / 8=0∨p / 8=1∨p / 8=2∨p / 8=3:=by omega
 rcases this with h|h|h|h <;> rw [h] <;> rfl
theorem DU {v:Int × Int} (h:(-1000≤v.1∧v.1≤1000)∧-1000≤v.2∧v.2≤1000):∀ k,(-1000≤(tn k v).1∧(tn k v).1≤1000)∧-1000≤(tn k v).2∧(tn k v).2≤1000
 | 0=>h
 | k+1=>by
  have ih:=DU h k
  show (-1000≤(tn k v).2∧(tn k v).2≤1000)∧-1000≤-(tn k v).1∧-(tn k v).1≤1000
  omega
theorem uU {m:Nat} (h:m < 8):(-1000≤(gk.getD m (0,0)).1∧(gk.getD m (0,0)).1≤1000)∧-1000≤(gk.getD m (0,0)).2∧(gk.getD m (0,0)).2≤1000:=by
 match m,h with
 | 0,_|1,_|2,_|3,_|4,_|5,_|6,_|7,_=>decide
theorem ES {p:Nat} (hp:p < 32):(-1000≤(qt p).1∧(qt p).1≤1000)∧-1000≤(qt p).2∧(qt p).2≤1000:=by
 rw [Ib hp]
 exact DU (uU (Nat.mod_lt _ (by decide))) _
theorem DV (one:Bool) (n lo hi:Int):af TT TB one (.fn 164 [] [.pt [ah lo] 0,.pt [ah hi] 0]) [ah n] (BB (decide (n < lo) || decide (hi < n))):=by
 refine af.body (fn:=Tryz.f164) rfl rfl rfl rfl ?_
 refine aa (mu:=fun _=>false) ?_
 repeat' (first |refine u1 ?_ |((with_reducible show cC _ _ _ _ _);refine mU rfl rfl (fun h=>?_) (fun h=>?_)) |fail)
 all_goals refine ⟨[_],⟨Fz.deep rfl,trivial⟩,?_⟩
 all_goals simp_all [yI]
 all_goals (intro _;omega)
theorem DW (one:Bool) (lo hi n:Int):Pu one 142 [ah lo,ah hi,.sl [eI n] true] (BB (aM lo hi [n])):=by
 have h:=jy one 164 [] [.pt [ah lo] 0,.pt [ah hi] 0] rfl (fun n=>decide (n < lo) || decide (hi < n)) [n] true (by simp [maxLen]) (fun n _=>DV one n lo hi)
 refine af.body (fn:=Tryz.f142) rfl rfl rfl rfl ?_
 refine aa (mu:=fun _=>false) ?_
 repeat' (first |refine u1 ?_ |refine u2 ?_ |refine af.call h rfl rfl ?_ |fail)
 exact ⟨[_],⟨Fz.deep rfl,trivial⟩,rfl⟩
theorem CG (one:Bool) (p:Nat) (hp:p < 32):Pu one 106 [ah (p:Nat)] (.tp [.ag [ah (qt p).1,ah (qt p).2],ah 0]):=by
 have ho:=DW one 0 31 (p:Int)
 rw [show aM 0 31 [(p:Int)]=false by simp [aM];omega] at ho
 have hq:=Gf one
 rw [Ib hp]
 have hm:p % 8 < 8:=Nat.mod_lt _ (by decide)
 have hb:=DU (uU hm)
 have hq3:p / 8≤3:=by omega
 have e1:((p:Nat):Int) % 8=((p % 8:Nat):Int):=by omega
 have e2:((p:Nat):Int) / 8=((p / 8:Nat):Int):=by omega
 refine af.body (fn:=Tryz.f106) rfl rfl rfl rfl ?_
 refine RM.de (mu:=fun _=>false) ?_
 repeat' (first |refine u1 ?_ |fail)
 refine RM.de (mu:=fun _=>false) ?_
 repeat' (first |refine u1 ?_ |refine u2 ?_ |refine af.call ho rfl rfl ?_ |fail)
 refine RM.de (mu:=fun _=>false) ?_
 repeat' (first |refine N2 rfl (aH e1) hm ?_ |refine u1 ?_ |refine u2 ?_ |refine af.call hq rfl rfl ?_ |fail)
 refine az.seq ?_
 refine RM.de (mu:=fun _=>false) ?_
 repeat' (first |refine u1 ?_ |fail)
 generalize gk.getD (p % 8) (0,0)=v at *
 refine az.block ?_
 refine az.aK (ai.to (l:=[(0,ah (p:Nat)),(2,.ptr 0 0 0),(3,ah 0),(4,.ptr 1 0 0),(14,ah ((p / 8:Nat):Int)),(15,ah (0:Nat))]) (hp:=[.cells [ah 0,ah 0] 0 0,.cells [ah (tn 0 v).1,ah (tn 0 v).2] 0 0]) 2 rfl ⟨rfl,rfl,rfl,rfl,aH e2,rfl,trivial⟩ (Nat.zero_le _) rfl rfl) ?_
 refine az.loop (fun k:Nat=>k≤p / 8) (fun k=>⟨aX [(0,ah (p:Nat)),(2,.ptr 0 0 0),(3,ah 0),(4,.ptr 1 0 0),(14,ah ((p / 8:Nat):Int)),(15,ah (k:Nat))],[.cells [ah 0,ah 0] 0 0,.cells [ah (tn k v).1,ah (tn k v).2] 0 0],bN.none,false,0⟩) (fun k=>p / 8 - k) ?_ 0 (Nat.zero_le _)
 intro k hk
 have hbk:=hb k
 refine aa (mu:=fun _=>false) ?_
 by_cases hlt:k < p / 8
 ·have d1:decide ((k:Int) < ((p / 8:Nat):Int))=true:=decide_eq_true (by omega)
  have hs:tn (k+1) v=((tn k v).2,-(tn k v).1):=rfl
  repeat' (first |refine N1 rfl (by omega) ?_ |refine u1 ?_ |refine u2 ?_ |fail)
  refine ⟨k+1,hlt,(by dsimp only;omega),?_⟩
  show ai _ ⟨aX [(0,ah (p:Nat)),(2,.ptr 0 0 0),(3,ah 0),(4,.ptr 1 0 0),(14,ah ((p / 8:Nat):Int)),(15,ah ((k+1):Nat))],[.cells [ah 0,ah 0] 0 0,.cells [ah (tn (k+1) v).1,ah (tn (k+1) v).2] 0 0],bN.none,false,0⟩
  rw [hs]
  exact ai.to 2 rfl ⟨rfl,rfl,rfl,rfl,rfl,aH (by simp),trivial⟩ (Nat.zero_le _) rfl rfl
 ·have d1:decide ((k:Int) < ((p / 8:Nat):Int))=false:=decide_eq_false (by omega)
  have hkq:k=p / 8:=by omega
  subst hkq
  repeat' (first |refine u1 ?_ |fail)
  refine aa (mu:=fun _=>false) ?_
  repeat' (first |refine u1 ?_ |refine u2 ?_ |fail)
  exact ⟨[_,_],⟨Fz.deep rfl,Fz.deep rfl,trivial⟩,rfl⟩
end Go.Proofs.YtalcbebjpgfnfaaGreat
open Go Go.RM
namespace Go.Proofs.YtalcbebjpgfnfaaGreat
set_option maxRecDepth 100000
set_option maxHeartbeats 4000000
theorem jc {P:Program} {α β:Type} (m:Sem α) (f:α→Sem β):aA P (m >>= f)=(aA P m).bind fun a=>aA P (f a):=by
 show aA P (Sem.bind m f)=_
 induction m with
 | pure a=>rfl
 | program k ih=>exact ih P
 | mark _ k ih=>exact ih
 | _=>rfl
theorem Gg {P:Program} (d:Nat) (t:TypeId) (xs ys:Array Value) (ht:P.underlying t=some (.struct (P.fieldsOf t))) (hp:P.stoodInHeld t=false) :
  aA P (Op.equalIn (d+1) t (.agg xs) (.agg ys))=aA P (Op.eqFields d xs ys (P.fieldsOf t).toList):=by
 have hu:aA P (underlying t)=some (.struct (P.fieldsOf t)):=by
  unfold underlying
  simp only [jc]
  show aA P _=_
  simp [ht]
  rfl
 have hg:aA P program=some P:=rfl
 simp only [Op.equalIn,jc,hu,hg,hp,Option.bind_some,Bool.false_eq_true,if_false]
 rw [←Array.forIn_toList]
 generalize (P.fieldsOf t).toList=fs
 clear ht hu
 induction fs with
 | nil=>rfl
 | cons f fs ih =>
  simp only [List.forIn_cons,Op.eqFields,jc]
  split
  ·simp only [jc]
   cases aA P (part f.type xs f.offset) with
   | none=>rfl
   | some a =>
    simp only [Option.bind_some]
    cases aA P (part f.type ys f.offset) with
    | none=>rfl
    | some b =>
     simp only [Option.bind_some]
     cases aA P (Op.equalIn d f.type a b) with
     | none=>rfl
     | some r =>
      cases r
      ·rfl
      ·exact ih
  ·exact ih
def vI (n:Int):Value:=.int .i64 n
theorem ET {d:Nat} (a b:Int):aA TT.P (Op.equalIn (d+1) 3 (vI a) (vI b))=some (decide (a=b)):=by
 show some (a == b)=_
 congr 1
theorem Ic {t : TypeId} (hf : (TT.P.fieldsOf t).toList.map (fun f => (f.type, f.offset, f.name == "_")) = [(3, 0, false), (3, 1, false)]) (hu : TT.P.underlying t = some (.struct (TT.P.fieldsOf t))) (hs : TT.P.stoodInHeld t = false) (a b c d : Int) : aA TT.P (Op.equalIn 10000 t (.agg #[vI a, vI b]) (.agg #[vI c, vI d])) = some (decide (a = c) && decide (b = d)) := by
  rw [Gg 9999 t _ _ hu hs]
  generalize (TT.P.fieldsOf t).toList = L at hf
  cases L with
  | nil => cases hf
  | cons f L =>
    cases L with
    | nil => simp at hf
    | cons g L =>
      cases L with
      | cons => simp at hf
      | nil =>
        simp only [List.map_cons, List.map_nil, List.cons.injEq, Prod.mk.injEq, and_true] at hf
        obtain ⟨⟨f1, f2, f3⟩, g1, g2, g3⟩ := hf
        have f3 : f.name ≠ "_" := by simpa using f3
        have g3 : g.name ≠ "_" := by simpa using g3
        have p1 : aA TT.P (part f.type #[vI a, vI b] f.offset) = some (vI a) := by rw [f1, f2]; rfl
        have p2 : aA TT.P (part f.type #[vI c, vI d] f.offset) = some (vI c) := by rw [f1, f2]; rfl
        have p3 : aA TT.P (part g.type #[vI a, vI b] g.offset) = some (vI b) := by rw [g1, g2]; rfl
        have p4 : aA TT.P (part g.type #[vI c, vI d] g.offset) = some (vI d) := by rw [g1, g2]; rfl
        have q1 : aA TT.P (Op.equalIn 9999 f.type (vI a) (vI c)) = some (decide (a = c)) := by rw [f1]; exact ET a c
        have q2 : aA TT.P (Op.equalIn 9999 g.type (vI b) (vI d)) = some (decide (b = d)) := by rw [g1]; exact ET b d
        unfold Op.eqFields
        rw [if_pos f3]
        simp only [jc, p1, p2, q1, Option.bind_some]
        by_cases h1 : a = c
        · rw [decide_eq_true h1]
          unfold Op.eqFields
          simp only [Bool.not_true, Bool.false_eq_true, if_false, if_pos g3, jc, p3, p4, q2, Option.bind_some]
          by_cases h2 : b = d
          · rw [decide_eq_true h2]; rfl
          · rw [decide_eq_false h2]; rfl
        · rw [decide_eq_false h1]; rfl
theorem EU {t : TypeId} (hf : (TT.P.fieldsOf t).toList.map (fun f => (f.type, f.offset, f.name == "_")) = [(3, 0, false), (3, 1, false)]) (hu : TT.P.underlying t = some (.struct (TT.P.fieldsOf t))) (hs : TT.P.stoodInHeld t = false) (hg : TT.P.eqGuardType TT.P.depth t = false) {x y : Operand} (a b c d : Int) :
    hU TT.P .eql t x y (.agg #[vI a, vI b]) (.agg #[vI c, vI d]) = some (.bool (decide (a = c) && decide (b = d)), .none) ∧ hU TT.P .neq t x y (.agg #[vI a, vI b]) (.agg #[vI c, vI d]) = some (.bool (!(decide (a = c) && decide (b = d))), .none) := by
  constructor
  · show fk TT.P .eql t x y (.agg #[vI a, vI b]) (.agg #[vI c, vI d]) = _
    unfold fk
    rw [show (flat (.agg #[vI a, vI b]) && flat (.agg #[vI c, vI d])) = true from rfl, cond_true, jc]
    rw [show aA TT.P (eqGuard .eql t x y (.agg #[vI a, vI b]) (.agg #[vI c, vI d])) = some () by
      show aA TT.P (if (!(TT.P.eqGuardType TT.P.depth t)) = true then _ else _) = _
      rw [hg]; rfl]
    show cE (aA TT.P (Op.equal t _ _ >>= fun r => pure (Value.bool r))) = _
    rw [jc]
    show cE ((aA TT.P (Op.equalIn 10000 t _ _)).bind _) = _
    rw [Ic hf hu hs]
    rfl
  · show fk TT.P .neq t x y (.agg #[vI a, vI b]) (.agg #[vI c, vI d]) = _
    unfold fk
    rw [show (flat (.agg #[vI a, vI b]) && flat (.agg #[vI c, vI d])) = true from rfl, cond_true, jc]
    rw [show aA TT.P (eqGuard .neq t x y (.agg #[vI a, vI b]) (.agg #[vI c, vI d])) = some () by
      show aA TT.P (if (!(TT.P.eqGuardType TT.P.depth t)) = true then _ else _) = _
      rw [hg]; rfl]
    show cE (aA TT.P (Op.equal t _ _ >>= fun r => pure (Value.bool (!r)))) = _
    rw [jc]
    show cE ((aA TT.P (Op.equalIn 10000 t _ _)).bind _) = _
    rw [Ic hf hu hs]
    rfl
section
variable {a b : AV} {x y : Operand} {hp : List AB} {K : AV → List AB → Prop} {m n p q : Int}
theorem LN:∀ {x y:Operand} (a b c d:Int),hU TT.P .eql 72 x y (.agg #[vI a,vI b]) (.agg #[vI c,vI d])=some (.bool (decide (a=c) && decide (b=d)),.none)∧hU TT.P .neq 72 x y (.agg #[vI a,vI b]) (.agg #[vI c,vI d])=some (.bool (!(decide (a=c) && decide (b=d))),.none) :=
 fun a b c d=>EU (by kernel_rfl) (by kernel_rfl) (by kernel_rfl) (by kernel_rfl) a b c d
theorem Oi (ha:a=.ag [ah m,ah n]) (hb:b=.ag [ah p,ah q]) (h:K (BB (decide (m=p) && decide (n=q))) hp):ee TT .eql 72 x y a b hp K:=by
 subst ha hb
 exact ⟨_,_,rfl,rfl,.bool (decide (m=p) && decide (n=q)),(LN m n p q).1,rfl,h⟩
end
end Go.Proofs.YtalcbebjpgfnfaaGreat
