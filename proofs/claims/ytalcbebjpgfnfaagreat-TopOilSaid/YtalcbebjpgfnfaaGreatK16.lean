/-
  Contracts of the program's functions and of the document's. Lemmas alone; their conditions stand in them.
-/
import Derived.Test.YtalcbebjpgfnfaaGreatA3
import Derived.Test.YtalcbebjpgfnfaaGreatK2
import Derived.Test.YtalcbebjpgfnfaaGreatK8
import Derived.Test.YtalcbebjpgfnfaaGreatK9
import Derived.Test.YtalcbebjpgfnfaaGreatK15
open Go Go.RM
namespace Go.Proofs.YtalcbebjpgfnfaaGreat.St
set_option maxRecDepth 100000
set_option maxHeartbeats 4000000
theorem I5 (st:aC) (hst:st.Ok) (s:aB) (h:s.Ok) (g m0 m1 kd a b c:Int) (x:List Int) (hg8:0≤g∧g≤255) (hm0:0≤m0∧m0≤65535) (hm1:0≤m1∧m1≤65535) (hkd:0≤kd∧kd≤255) (ha:qO a) (hb:qO b) (hc:qO c) (hx:∀ n ∈ x,0≤n∧n≤255) (hxl:x.length≤maxLen) (aw6:Pu false 6 [] (BB true)):Pu false 3 [.ag (bf st),.ag (aO s),.ag (eX g m0 m1 kd a b c x)] (BB true):=by
 have aw7:=Kj false
 obtain ⟨p,q,e,k4,hgood⟩:=Gj st hst
 have k4:=k4 false
 have k5:=xp s h false
 refine af.body (fn:=Tryz.f3) rfl rfl rfl rfl ?_
 by_cases h1:e=0
 ·subst h1
  obtain ⟨hgl,hgr⟩:=hgood rfl
  by_cases h2:(ir s).2.2=0
  ·have he:=h2
   rw [h2] at k5
   have hgd:=ta he
   have h8:=fo hgd.sizes
   have egr:((st.ax.map bh).length:Int)=st.ax.length:=by simp
   have ek:(s.kinds.map bG).length=s.kinds.length:=by simp
   have q1:=Int.emod_nonneg g (b:=((st.ax.map bh).length:Int)) (by omega)
   have q2:=Int.emod_lt_of_pos g (b:=((st.ax.map bh).length:Int)) (by omega)
   have q3:=Int.emod_nonneg m1 (b:=1440 - m0 % 1441+1) (by omega)
   have q4:=Int.emod_lt_of_pos m1 (b:=1440 - m0 % 1441+1) (by omega)
   obtain ⟨i,hi,hki⟩:=N5 (a:=kd) (n:=(s.kinds.map bG).length) (by omega)
   rw [List.length_map] at hi
   obtain ⟨O,hO,hoil⟩:=hgr (g % ((st.ax.map bh).length:Int)) q1 (by omega)
   have o1:=hoil (m0 % 1441) (by omega) (by omega) false
   have o2:=hoil (m0 % 1441+m1 % (1440 - m0 % 1441+1)) (by omega) (by omega) false
   have b1:=EY (x:=m0 % 1441) hO (by omega)
   have b2:=EY (x:=m0 % 1441+m1 % (1440 - m0 % 1441+1)) hO (by omega)
   have up1:=DY (x:=m0 % 1441) (y:=m0 % 1441+m1 % (1440 - m0 % 1441+1)) hO.1 (by omega)
   have hc':0≤c∧c≤65535:=hc
   have q5:=Int.emod_nonneg c (b:=m0 % 1441+m1 % (1440 - m0 % 1441+1) - m0 % 1441+1) (by omega)
   have q6:=Int.emod_lt_of_pos c (b:=m0 % 1441+m1 % (1440 - m0 % 1441+1) - m0 % 1441+1) (by omega)
   have o3:=hoil (m0 % 1441+c % (m0 % 1441+m1 % (1440 - m0 % 1441+1) - m0 % 1441+1)) (by omega) (by omega) true
   have up2:=DY (x:=m0 % 1441) (y:=m0 % 1441+c % (m0 % 1441+m1 % (1440 - m0 % 1441+1) - m0 % 1441+1)) hO.1 (by omega)
   have up3:=DY (x:=m0 % 1441+c % (m0 % 1441+m1 % (1440 - m0 % 1441+1) - m0 % 1441+1)) (y:=m0 % 1441+m1 % (1440 - m0 % 1441+1)) hO.1 (by omega)
   generalize (O * (m0 % 1441)+59) / 60=lo at *
   generalize (O * (m0 % 1441+m1 % (1440 - m0 % 1441+1))+59) / 60=hh at *
   generalize (O * (m0 % 1441+c % (m0 % 1441+m1 % (1440 - m0 % 1441+1) - m0 % 1441+1))+59) / 60=r at *
   have d1:decide (hh < lo)=false:=decide_eq_false (by omega)
   clear hoil hgood hgr
   by_cases h12:12 < hh
   ·have d2:decide (12 < hh)=true:=decide_eq_true h12
    refine aa (mu:=fun _=>false) ?_
    repeat' (first |((with_reducible show RM.wpOp _ _ (.convert _ _ _) _ _ _);refine tC rfl hm0 ?_) |((with_reducible show RM.wpOp _ _ (.convert _ _ _) _ _ _);refine tC rfl hm1 ?_) |((with_reducible show RM.wpOp _ _ (.convert _ _ _) _ _ _);refine vw rfl hg8 ?_) |refine u1 ?_ |refine u2 ?_ |fail)
    exact ⟨[_],⟨Fz.deep rfl,trivial⟩,rfl⟩
   ·have d2:decide (12 < hh)=false:=decide_eq_false h12
    obtain ⟨G,hG⟩:∃ G,g % ((st.ax.map bh).length:Int)=G:=⟨_,rfl⟩
    obtain ⟨lv,hlv⟩:∃ G,m0 % 1441=G:=⟨_,rfl⟩
    obtain ⟨mv,hmv⟩:∃ G,m0 % 1441+m1 % (1440 - m0 % 1441+1)=G:=⟨_,rfl⟩
    have hlm:0≤lv∧lv≤mv∧mv≤1440:=by omega
    rw [hmv,hG,hlv] at o3
    refine RM.de (mu:=fun _=>false) ?_
    repeat' (first |((with_reducible show RM.wpOp _ _ (.convert _ _ _) _ _ _);refine tC rfl hm0 ?_) |((with_reducible show RM.wpOp _ _ (.convert _ _ _) _ _ _);refine tC rfl hm1 ?_) |((with_reducible show RM.wpOp _ _ (.convert _ _ _) _ _ _);refine vw rfl hg8 ?_) |((with_reducible show RM.wpOp _ _ (.convert _ _ _) _ _ _);refine vw rfl hkd ?_) |refine u1 ?_ |refine u2 ?_ |fail)
    refine RM.de (mu:=fun _=>false) ?_
    repeat' (first |((with_reducible show RM.wpOp _ _ (.convert _ _ _) _ _ _);refine tC rfl hm0 ?_) |((with_reducible show RM.wpOp _ _ (.convert _ _ _) _ _ _);refine tC rfl hm1 ?_) |((with_reducible show RM.wpOp _ _ (.convert _ _ _) _ _ _);refine vw rfl hg8 ?_) |((with_reducible show RM.wpOp _ _ (.convert _ _ _) _ _ _);refine vw rfl hkd ?_) |refine u1 ?_ |refine u2 ?_ |fail)
    refine RM.de (mu:=fun _=>false) ?_
    repeat' (first |((with_reducible show RM.wpOp _ _ (.convert _ _ _) _ _ _);refine tC rfl hm0 ?_) |((with_reducible show RM.wpOp _ _ (.convert _ _ _) _ _ _);refine tC rfl hm1 ?_) |((with_reducible show RM.wpOp _ _ (.convert _ _ _) _ _ _);refine vw rfl hg8 ?_) |((with_reducible show RM.wpOp _ _ (.convert _ _ _) _ _ _);refine vw rfl hkd ?_) |refine u1 ?_ |refine u2 ?_ |fail)
    refine RM.de (mu:=fun _=>false) ?_
    repeat' (first |((with_reducible show RM.wpOp _ _ (.convert _ _ _) _ _ _);refine tC rfl hm0 ?_) |((with_reducible show RM.wpOp _ _ (.convert _ _ _) _ _ _);refine tC rfl hm1 ?_) |((with_reducible show RM.wpOp _ _ (.convert _ _ _) _ _ _);refine vw rfl hg8 ?_) |((with_reducible show RM.wpOp _ _ (.convert _ _ _) _ _ _);refine vw rfl hkd ?_) |refine u1 ?_ |refine u2 ?_ |fail)
    refine RM.de (mu:=fun _=>false) ?_
    repeat' (first |((with_reducible show RM.wpOp _ _ (.convert _ _ _) _ _ _);refine tC rfl hm0 ?_) |((with_reducible show RM.wpOp _ _ (.convert _ _ _) _ _ _);refine tC rfl hm1 ?_) |((with_reducible show RM.wpOp _ _ (.convert _ _ _) _ _ _);refine vw rfl hg8 ?_) |((with_reducible show RM.wpOp _ _ (.convert _ _ _) _ _ _);refine vw rfl hkd ?_) |refine u1 ?_ |refine u2 ?_ |fail)
    refine RM.de (mu:=fun _=>false) ?_
    repeat' (first |((with_reducible show RM.wpOp _ _ (.convert _ _ _) _ _ _);refine tC rfl hm0 ?_) |((with_reducible show RM.wpOp _ _ (.convert _ _ _) _ _ _);refine tC rfl hm1 ?_) |((with_reducible show RM.wpOp _ _ (.convert _ _ _) _ _ _);refine vw rfl hg8 ?_) |((with_reducible show RM.wpOp _ _ (.convert _ _ _) _ _ _);refine vw rfl hkd ?_) |refine u1 ?_ |refine u2 ?_ |fail)
    refine RM.de (mu:=fun _=>false) ?_
    repeat' (first |((with_reducible show RM.wpOp _ _ (.convert _ _ _) _ _ _);refine tC rfl hm0 ?_) |((with_reducible show RM.wpOp _ _ (.convert _ _ _) _ _ _);refine tC rfl hm1 ?_) |((with_reducible show RM.wpOp _ _ (.convert _ _ _) _ _ _);refine vw rfl hg8 ?_) |((with_reducible show RM.wpOp _ _ (.convert _ _ _) _ _ _);refine vw rfl hkd ?_) |refine u1 ?_ |refine u2 ?_ |fail)
    refine RM.de (mu:=fun _=>false) ?_
    repeat' (first |((with_reducible show RM.wpOp _ _ (.convert _ _ _) _ _ _);refine tC rfl hm0 ?_) |((with_reducible show RM.wpOp _ _ (.convert _ _ _) _ _ _);refine tC rfl hm1 ?_) |((with_reducible show RM.wpOp _ _ (.convert _ _ _) _ _ _);refine vw rfl hg8 ?_) |((with_reducible show RM.wpOp _ _ (.convert _ _ _) _ _ _);refine vw rfl hkd ?_) |refine u1 ?_ |refine u2 ?_ |fail)
    refine RM.de (mu:=fun _=>false) ?_
    repeat' (first |((with_reducible show RM.wpOp _ _ (.convert _ _ _) _ _ _);refine tC rfl hm0 ?_) |((with_reducible show RM.wpOp _ _ (.convert _ _ _) _ _ _);refine tC rfl hm1 ?_) |((with_reducible show RM.wpOp _ _ (.convert _ _ _) _ _ _);refine vw rfl hg8 ?_) |((with_reducible show RM.wpOp _ _ (.convert _ _ _) _ _ _);refine vw rfl hkd ?_) |refine u1 ?_ |refine u2 ?_ |fail)
    refine RM.de (mu:=fun _=>false) ?_
    repeat' (first |((with_reducible show RM.wpOp _ _ (.convert _ _ _) _ _ _);refine tC rfl hm0 ?_) |((with_reducible show RM.wpOp _ _ (.convert _ _ _) _ _ _);refine tC rfl hm1 ?_) |((with_reducible show RM.wpOp _ _ (.convert _ _ _) _ _ _);refine vw rfl hg8 ?_) |((with_reducible show RM.wpOp _ _ (.convert _ _ _) _ _ _);refine vw rfl hkd ?_) |refine u1 ?_ |refine u2 ?_ |fail)
    refine RM.de (mu:=fun _=>false) ?_
    repeat' (first |((with_reducible show RM.wpOp _ _ (.convert _ _ _) _ _ _);refine tC rfl hm0 ?_) |((with_reducible show RM.wpOp _ _ (.convert _ _ _) _ _ _);refine tC rfl hm1 ?_) |((with_reducible show RM.wpOp _ _ (.convert _ _ _) _ _ _);refine vw rfl hg8 ?_) |((with_reducible show RM.wpOp _ _ (.convert _ _ _) _ _ _);refine vw rfl hkd ?_) |refine u1 ?_ |refine u2 ?_ |fail)
    refine RM.de (mu:=fun _=>false) ?_
    repeat' (first |((with_reducible show RM.wpOp _ _ (.convert _ _ _) _ _ _);refine tC rfl hm0 ?_) |((with_reducible show RM.wpOp _ _ (.convert _ _ _) _ _ _);refine tC rfl hm1 ?_) |((with_reducible show RM.wpOp _ _ (.convert _ _ _) _ _ _);refine vw rfl hg8 ?_) |((with_reducible show RM.wpOp _ _ (.convert _ _ _) _ _ _);refine vw rfl hkd ?_) |refine u1 ?_ |refine u2 ?_ |fail)
    refine az.aK (ai.to (l:=[(3,.pt (bf st) 0),(5,.pt (eX g m0 m1 kd a b c x) 0),(13,ah G),(14,ah lv),(15,ah mv),(4,.pt (aO s) 0),(16,ah lo),(18,ah hh),(20,ah i)]) (hp:=[]) 0 rfl ⟨rfl,rfl,aH hG,aH hlv,aH hmv,rfl,rfl,rfl,aH hki,trivial⟩ (Nat.zero_le _) rfl rfl) ?_
    have hel:∀ el ∈ s.kinds.map bG,el.length=9:=fun el hel=>by obtain ⟨y,_,rfl⟩:=List.mem_map.1 hel;rfl
    have hone:=I4 s.kinds
    have hlen:=Bf s.kinds
    have hcap:(0+(s.kinds.map bG).length) * 80≤140737488355328∧0+(s.kinds.map bG).length≤9223372036854775807:=by omega
    have hbl:Nat.ble (0+((i:Nat):Int).toNat * 9+5+2) (([]:List AV)++kC s.kinds).length=true:=by rw [List.nil_append,hlen,Nat.ble_eq];omega
    refine RM.de (mu:=fun t=>Nat.beq t 21 || Nat.beq t 114) ?_
    repeat' (first |refine u1 ?_ |refine u2 ?_ |fail)
    refine RM.de (mu:=fun t=>Nat.beq t 21 || Nat.beq t 114) ?_
    repeat' (first |((with_reducible show RM.wpOp _ _ (.call _) _ _ _);refine RM.F5 (cs:=[]) (n:=0) (els:=s.kinds.map bG) rfl rfl rfl rfl rfl hel hone rfl rfl (.inl rfl) hcap (fun v' c' hc1=>?_)) |refine u1 ?_ |refine u2 ?_ |fail)
    refine RM.de (mu:=fun t=>Nat.beq t 21 || Nat.beq t 114) ?_
    repeat' (first |((with_reducible show dW _ _ _ _ _ _);refine RM.MC rfl rfl rfl rfl rfl rfl hbl ?_) |refine u1 ?_ |refine u2 ?_ |fail)
    obtain ⟨S,hS⟩:∃ S,vv s i (g9 s.kinds[i] ⟨lo,hh⟩)=S:=⟨_,rfl⟩
    have hSo:S.Ok:=by rw [←hS];exact LX h hi _
    have hSc:(ir S).2.2=0:=by rw [←hS];exact Kf hi (by dsimp only;omega) he
    have hSl:S.kinds.length=(s.kinds.map bG).length:=by rw [←hS,ek];unfold vv;exact List.length_set
    have hSi:i < S.kinds.length:=by omega
    have hSk:S.kinds[i].ay=⟨lo,hh⟩:=by
     have e1:S.kinds[i]?=some (g9 s.kinds[i] ⟨lo,hh⟩):=by rw [←hS];exact List.getElem?_set_self hi
     rw [List.getElem?_eq_getElem hSi] at e1
     rw [Option.some.inj e1]
     rfl
    have hput:=Me hi ⟨lo,hh⟩
    change _=kC (vv s i (g9 s.kinds[i] ⟨lo,hh⟩)).kinds at hput
    rw [hS] at hput
    have hmen:s.au=S.au:=by rw [←hS];rfl
    have hcar:s.aj=S.aj:=by rw [←hS];rfl
    have hkl:=Bf S.kinds
    refine az.aK (ai.to (l:=[(3,.pt (bf st) 0),(5,.pt (eX g m0 m1 kd a b c x) 0),(13,ah G),(14,ah lv),(15,ah mv),(20,ah i),(21,.ptr 0 0 0)]) (hp:=[.cells [.sl (s.au.map eI) false,.bX 1 v' 0 (0+(s.kinds.map bG).length) c',.sl (s.aj.map bM) false] 0 0,.cells (kC S.kinds) 9 v']) 2 (by rw [←hput];rfl) ⟨rfl,rfl,rfl,rfl,rfl,rfl,rfl,trivial⟩ (Nat.zero_le _) rfl (by
     show (_ && (ig 2 (kC S.kinds) && true))=true
     rw [show ig 2 (kC S.kinds)=true from bV 2 (.ag _) (Bg S.kinds)]
     rfl)) ?_
    refine az.aK (ai.M4 1 (l:=[(3,.pt (bf st) 0),(5,.pt (eX g m0 m1 kd a b c x) 0),(13,ah G),(14,ah lv),(15,ah mv),(20,ah i),(21,.ptr 0 0 0)]) (hp':=[.cells [.sl (s.au.map eI) false,.sl (S.kinds.map bG) false,.sl (s.aj.map bM) false] 0 0,.gone]) rfl (Nat.zero_le _) (Bg _) ⟨.same rfl,.same rfl,.same rfl,.same rfl,.same rfl,.same rfl,.same rfl,trivial⟩
     ⟨GB.cells ⟨.same rfl,.row 9 (by rw [hkl];omega) (by rw [List.length_map,hSl];omega) (fun el hel=>by obtain ⟨y,_,rfl⟩:=List.mem_map.1 hel;rfl) (by rw [List.drop_zero,List.take_of_length_le (by rw [hkl];omega)]) (fun h=>Bool.noConfusion h),.same rfl,trivial⟩,rfl,trivial⟩) ?_
    rw [hmen,hcar]
    refine az.aK (ai.giveUp 0 (l:=[(3,.pt (bf st) 0),(5,.pt (eX g m0 m1 kd a b c x) 0),(13,ah G),(14,ah lv),(15,ah mv),(20,ah i),(21,.pt (aO S) 0)]) (hp:=[.gone,.gone]) rfl (Nat.zero_le _) rfl ⟨.same rfl,.same rfl,.same rfl,.same rfl,.same rfl,.same rfl,.ptr,trivial⟩ rfl rfl) ?_
    refine az.aK (ai.to (l:=[(3,.pt (bf st) 0),(5,.pt (eX g m0 m1 kd a b c x) 0),(13,ah G),(14,ah lv),(15,ah mv),(20,ah i),(21,.pt (aO S) 0)]) (hp:=[]) 0 rfl ⟨rfl,rfl,rfl,rfl,rfl,rfl,rfl,trivial⟩ (Nat.zero_le _) rfl rfl) ?_
    exact Md st S hSo hSc i hSi g m0 m1 kd a b c x ha hb hc hkd hx hxl G lv mv r hlm o3 (by rw [hSk];dsimp only;omega) aw6
  ·have d2:decide ((ir s).2.2=0)=false:=decide_eq_false h2
   have d3:(!decide ((ir s).2.2=0))=true:=by rw [d2];rfl
   generalize (ir s).2.2=z at *
   refine aa (mu:=fun _=>false) ?_
   repeat' (first |refine u1 ?_ |refine u2 ?_ |fail)
   exact ⟨[_],⟨Fz.deep rfl,trivial⟩,rfl⟩
 ·have d2:decide (e=0)=false:=decide_eq_false h1
  have d3:(!decide (e=0))=true:=by rw [d2];rfl
  refine aa (mu:=fun _=>false) ?_
  repeat' (first |refine u1 ?_ |refine u2 ?_ |fail)
  exact ⟨[_],⟨Fz.deep rfl,trivial⟩,rfl⟩
end Go.Proofs.YtalcbebjpgfnfaaGreat.St
open Go Go.RM
namespace Go.Proofs.YtalcbebjpgfnfaaGreat
set_option maxRecDepth 100000
set_option maxHeartbeats 4000000
theorem vK (one:Bool) (a:Int):Pu one 120 [ah a] (BB false):=by
 have d1:(!decide (a=a))=false:=by simp
 refine af.body (fn:=Tryz.f120) rfl rfl rfl rfl ?_
 refine aa (mu:=fun _=>false) ?_
 repeat' (first |refine u1 ?_ |fail)
 exact ⟨[_],⟨Fz.deep rfl,trivial⟩,Bt d1⟩
theorem Fm (one:Bool) (a b:Int):Pu one 84 [ah a,ah b] (ah (fj a b)):=by
 have ha:=vK one a
 have hb:=vK one b
 unfold fj
 refine af.body (fn:=Tryz.f84) rfl rfl rfl rfl ?_
 refine aa (mu:=fun _=>false) ?_
 repeat' (first |refine u1 ?_ |fail)
 by_cases h1:a < b
 ·have d1:=decide_eq_true h1
  rw [if_pos h1]
  repeat' (first |refine u1 ?_ |fail)
  exact ⟨[_],⟨Fz.deep rfl,trivial⟩,rfl⟩
 ·have d1:=decide_eq_false h1
  rw [if_neg h1]
  by_cases h2:b < a
  ·have d2:=decide_eq_true h2
   rw [if_pos h2]
   repeat' (first |refine u1 ?_ |fail)
   exact ⟨[_],⟨Fz.deep rfl,trivial⟩,rfl⟩
  ·have d2:=decide_eq_false h2
   rw [if_neg h2]
   repeat' (first |refine u1 ?_ |fail)
   exact ⟨[_],⟨Fz.deep rfl,trivial⟩,rfl⟩
end Go.Proofs.YtalcbebjpgfnfaaGreat
open Go Go.RM Go.AirLaw
namespace Go.Proofs.YtalcbebjpgfnfaaGreat
set_option maxRecDepth 100000
set_option maxHeartbeats 4000000
theorem I6 {s:Span} {i:Nat} {x:Int} (h:(eJ s)[i]?=some x):s.lo≤x∧x≤s.hi:=by
 have h1:=List.mem_of_getElem? h
 unfold eJ av at h1
 rw [List.mem_map] at h1
 obtain ⟨k,hk,rfl⟩:=h1
 rw [List.mem_range] at hk
 omega
theorem I7 (one:Bool) (a b:Span):Pu one 112 [.fn 118 [] [.pt (ck a) 0],.fn 118 [] [.pt (ck b) 0],.fn 113 [] []] (.fn 147 [] [.pt [.fn 118 [] [.pt (ck a) 0]] 0,.pt [.fn 118 [] [.pt (ck b) 0]] 0,.pt [.fn 113 [] []] 0]):=by
 refine af.body (fn:=Tryz.f112) rfl rfl rfl rfl ?_
 refine aa (mu:=fun _=>false) ?_
 repeat' (first |refine u1 ?_ |refine u2 ?_ |fail)
 exact ⟨[_],⟨Fz.deep rfl,trivial⟩,rfl⟩
theorem C5 (one:Bool) (a b:Span) (ha:-1000000≤a.lo∧a.lo≤a.hi∧a.hi≤1000000) (hb:-1000000≤b.lo∧b.lo≤b.hi∧b.hi≤1000000) (hbb:0≤b.lo∧b.hi≤1000) :
  lD TT TB one (.fn 147 [] [.pt [.fn 118 [] [.pt (ck a) 0]] 0,.pt [.fn 118 [] [.pt (ck b) 0]] 0,.pt [.fn 113 [] []] 0]) ((jY ME (eJ a) (eJ b)).map kE):=by
 have ga:=nC one a ha
 have gb:=nC one b hb
 refine lD.body (fn:=Tryz.f147) rfl rfl rfl rfl (fun x hx y hy=>?_) fun u J Stop hy=>?_
 ·obtain ⟨z,_,rfl⟩:=List.mem_map.1 hx
  simp only [List.mem_cons,List.not_mem_nil,or_false] at hy
  subst hy
  exact ej.ag fun b hb=>by simp only [List.mem_cons,List.not_mem_nil,or_false] at hb;rcases hb with rfl|rfl <;> exact ej.fl _
 rw [List.length_map,nD,cW,cW]
 have hy':∀ {i j:Nat} {x y:Int},(eJ a)[i]?=some x→(eJ b)[j]?=some y→∀ hp,bl TT TB one (.oq u) (kE (ME x y)) hp (J (i * av b+j)) fun v hp' a'=>hp'=hp∧∃ b',v=.fl (.bool b')∧DP (J (i * av b+j+1)) Stop b' a':=by
  intro i j x y hx hyy
  have:=hy (i * av b+j) (kE (ME x y)) (by rw [List.getElem?_map,←cW b,tc hyy hx];rfl)
  exact this
 refine RM.de (mu:=fun _=>false) ?_
 repeat' (first |refine u1 ?_ |refine u2 ?_ |fail)
 refine RM.de (mu:=fun _=>false) ?_
 repeat' (first |refine u1 ?_ |refine u2 ?_ |fail)
 refine az.block ?_
 refine az.range (fun _=>[]) (fun i=>J (i * av b)) (fun _=>True) rfl ga rfl (congrArg J (Nat.zero_mul _)) trivial (fun i x hx _=>?_) (fun _=>?_)
 ·obtain ⟨x,hxi,rfl⟩:∃ y,(eJ a)[i]?=some y∧x=eI y:=by
   rw [List.getElem?_map,Option.map_eq_some_iff] at hx
   obtain ⟨y,h1,h2⟩:=hx
   exact ⟨y,h1,h2.symm⟩
  refine ⟨rfl,?_⟩
  refine aa (mu:=fun _=>false) ?_
  repeat' (first |refine u1 ?_ |refine u2 ?_ |fail)
  refine az.block ?_
  refine RM.de (mu:=fun _=>false) ?_
  repeat' (first |refine u1 ?_ |refine u2 ?_ |fail)
  refine az.block ?_
  refine az.range (fun _=>[.cells [ah x] 0 0]) (fun j=>J (i * av b+j)) (fun _=>True) rfl gb rfl rfl trivial (fun j y hyj _=>?_) (fun _=>?_)
  ·obtain ⟨y,hyk,rfl⟩:∃ z,(eJ b)[j]?=some z∧y=eI z:=by
    rw [List.getElem?_map,Option.map_eq_some_iff] at hyj
    obtain ⟨z,h1,h2⟩:=hyj
    exact ⟨z,h1,h2.symm⟩
   refine ⟨rfl,?_⟩
   have hyx:=hy' hxi hyk
   have hmk:=MU true x y (by have:=I6 hyk;omega)
   refine aa (mu:=fun _=>false) ?_
   repeat' (first |refine u1 ?_ |refine u2 ?_ |fail)
   refine az.block ?_
   refine RM.de (mu:=fun _=>false) ?_
   repeat' (first |refine ⟨_,_,.inl ⟨rfl,rfl⟩,hmk,?_⟩ |refine u1 ?_ |refine u2 ?_ |fail)
   refine bl.mono (hyx _) (fun a hp' amb' hq=>?_)
   obtain ⟨rfl,b,rfl,hb⟩:=hq
   rcases hb with ⟨rfl,rfl⟩|⟨rfl,hstop⟩
   ·repeat' (first |refine u1 ?_ |fail)
    refine aa (mu:=fun _=>false) ?_
    repeat' (first |refine u1 ?_ |refine u2 ?_ |fail)
    exact (ai.refl _).2
   ·repeat' (first |refine u1 ?_ |fail)
    refine aa (mu:=fun _=>false) ?_
    repeat' (first |refine u1 ?_ |fail)
    exact Or.inr hstop
  ·exact ⟨trivial,_,zK (l:=[]) 0 rfl trivial (Nat.zero_le _) rfl rfl (congrArg J (by rw [List.length_map,cW,Nat.add_mul,Nat.one_mul]))⟩
 ·exact Or.inl (by rw [List.length_map,cW])
abbrev gH (a b:Span):AV:=.fn 147 [] [.pt [D6 a] 0,.pt [D6 b] 0,.pt [.fn 113 [] []] 0]
theorem Bh (one:Bool) {s:aC} {n:bk} {rs:List aP} (f:Bool) (h:rD s n rs):Pu one 72 [.ag (cx s n rs f)] (gH s.bW ⟨n.g8,n.g8+n.gK - 1⟩):=by
 have h1:=h.g8
 have h2:=h.gK
 have n1:=nB true s.bW
 have n2:=nB true ⟨n.g8,n.g8+n.gK - 1⟩
 have n3:=I7 true s.bW ⟨n.g8,n.g8+n.gK - 1⟩
 refine af.body (fn:=Tryz.f72) rfl rfl rfl rfl ?_
 refine aa (mu:=fun _=>false) ?_
 repeat' (first |refine ⟨_,_,.inl ⟨rfl,rfl⟩,n1,?_⟩ |refine ⟨_,_,.inl ⟨rfl,rfl⟩,n2,?_⟩ |refine ⟨_,_,.inl ⟨rfl,rfl⟩,n3,?_⟩ |refine u1 ?_ |refine u2 ?_ |fail)
 exact ⟨[_],⟨Fz.deep rfl,trivial⟩,rfl⟩
theorem GN (one:Bool) (s:aC) (n:bk) (rs:List aP) (f:Bool) (a b:Span):Pu one 71 [.ag (cx s n rs f),gH a b,BB true] (.fn 111 [] [.pt [gH a b] 0,.pt (cx s n rs f) 0,.pt [BB true] 0]):=by
 refine af.body (fn:=Tryz.f71) rfl rfl rfl rfl ?_
 refine aa (mu:=fun _=>false) ?_
 repeat' (first |refine u1 ?_ |refine u2 ?_ |fail)
 exact ⟨[_],⟨Fz.deep rfl,trivial⟩,rfl⟩
theorem GO (one:Bool) {s:aC} {n:bk} {rs:List aP} (f:Bool) (h:rD s n rs) (a b:Span) (L:List (Int × Int)) (hg:lD TT TB one (gH a b) (L.map kE)) (hb:∀ x ∈ L,(0≤x.1∧x.1≤300)∧0≤x.2∧x.2≤31) :
  lD TT TB one (.fn 111 [] [.pt [gH a b] 0,.pt (cx s n rs f) 0,.pt [BB true] 0]) ((L.filter (fits cF n true rs)).map kE):=by
 have h1:=h.x
 have h2:=h.y
 have h3:=h.MV
 obtain ⟨m,hm⟩:∃ m:Int,m=rs.length:=⟨_,rfl⟩
 have er:((rs.map aL).length:Int)=m:=by rw [hm];simp
 refine lD.body (fn:=Tryz.f111) rfl rfl rfl rfl (fun x hx y hy=>?_) fun u J Stop hy=>?_
 ·obtain ⟨z,_,rfl⟩:=List.mem_map.1 hx
  simp only [List.mem_cons,List.not_mem_nil,or_false] at hy
  subst hy
  exact ej.ag fun b hb=>by simp only [List.mem_cons,List.not_mem_nil,or_false] at hb;rcases hb with rfl|rfl <;> exact ej.fl _
 rw [List.length_map]
 refine RM.de (mu:=fun _=>false) ?_
 repeat' (first |refine u1 ?_ |refine u2 ?_ |fail)
 refine az.scope ?_
 refine RM.de (mu:=fun _=>false) ?_
 skip
 refine RM.de (mu:=fun _=>false) ?_
 repeat' (first |refine u1 ?_ |refine u2 ?_ |fail)
 refine az.block ?_
 refine az.range (fun _=>[]) (fun i=>J ((L.take i).filter (fits cF n true rs)).length) (fun _=>True) rfl hg rfl rfl trivial (fun i x hx _=>?_) (fun _=>?_)
 ·obtain ⟨x,hxi,rfl⟩:∃ y,L[i]?=some y∧x=kE y:=by
   rw [List.getElem?_map,Option.map_eq_some_iff] at hx
   obtain ⟨y,h1,h2⟩:=hx
   exact ⟨y,h1,h2.symm⟩
  have hxb:=hb x (List.mem_of_getElem? hxi)
  have hfil:=Fb (p:=fits cF n true rs) hxi
  refine ⟨rfl,?_⟩
  refine aa (mu:=fun _=>false) ?_
  repeat' (first |refine u1 ?_ |refine u2 ?_ |fail)
  refine az.block ?_
  refine RM.de (mu:=fun _=>false) ?_
  repeat' (first |refine u1 ?_ |refine u2 ?_ |fail)
  refine az.aK (ai.to (l:=[(0,.oq u),(1,.pt [gH a b] 0),(2,.pt (cx s n rs f) 0),(3,.pt [BB true] 0),(4,.pt [.oq u] 0),(5,.ptr 0 0 0),(11,.sl (rs.map aL) f),(12,ah m),(13,ah (0:Nat))]) (hp:=[.cells [ah x.1,ah x.2] 0 0]) 1 rfl ⟨rfl,rfl,rfl,rfl,rfl,rfl,rfl,aH er,rfl,trivial⟩ (Nat.zero_le _) rfl rfl) ?_
  refine az.loop (fun k:Nat=>k≤rs.length∧∀ i (h:i < rs.length),i < k→(!(rs[i].eu == true) || (cF (rs[i].pos.x - n.pos.x) (rs[i].pos.y - n.pos.y) x.1 x.2 == rs[i].yes))=true) (fun k=>⟨aX [(0,.oq u),(1,.pt [gH a b] 0),(2,.pt (cx s n rs f) 0),(3,.pt [BB true] 0),(4,.pt [.oq u] 0),(5,.ptr 0 0 0),(11,.sl (rs.map aL) f),(12,ah m),(13,ah (k:Nat))],[.cells [ah x.1,ah x.2] 0 0],J ((L.take i).filter (fits cF n true rs)).length,true,0⟩) (fun k=>rs.length - k) ?_ 0 ⟨Nat.zero_le _,fun i _ hi=>absurd hi (Nat.not_lt_zero _)⟩
  rintro k ⟨hk,hprev⟩
  refine aa (mu:=fun _=>false) ?_
  by_cases hlt:k < rs.length
  ·have d1:decide ((k:Int) < m)=true:=decide_eq_true (by omega)
   have hat:(rs.map aL)[((k:Nat):Int).toNat]?=some (aL rs[k]):=cq hlt
   have hx1:=h.rx rs[k] (List.getElem_mem hlt)
   have hy1:=h.ry rs[k] (List.getElem_mem hlt)
   have hone:(!(rs[k].eu == true) || (cF (rs[k].pos.x - n.pos.x) (rs[k].pos.y - n.pos.y) x.1 x.2 == rs[k].yes))=true→(∀ i (h:i < rs.length),i < k+1→(!(rs[i].eu == true) || (cF (rs[i].pos.x - n.pos.x) (rs[i].pos.y - n.pos.y) x.1 x.2 == rs[i].yes))=true):=by
    intro q i hi hik
    by_cases e:i=k
    ·subst e;exact q
    ·exact hprev i hi (by omega)
   have hno:(!(rs[k].eu == true) || (cF (rs[k].pos.x - n.pos.x) (rs[k].pos.y - n.pos.y) x.1 x.2 == rs[k].yes))=false→fits cF n true rs x=false:=by
    intro q
    unfold fits
    rw [List.all_eq_false]
    exact ⟨rs[k],List.getElem_mem hlt,by rw [q];decide⟩
   generalize rs[k]=r at *
   obtain ⟨⟨px,py⟩,hn,ys⟩:=r
   dsimp only at hx1 hy1 hone hno
   cases hn with
   | false =>
    repeat' (first |refine u1 ?_ |refine u2 ?_ |refine ⟨[ah px,ah py,BB false,BB ys],⟨by omega,hat⟩,rfl,?_⟩ |refine ⟨fun h=>absurd h (by decide),fun _=>?_⟩ |fail)
    exact ⟨k+1,⟨hlt,hone rfl⟩,(by dsimp only;omega),ai.to 1 rfl ⟨rfl,rfl,rfl,rfl,rfl,rfl,rfl,rfl,aH (by simp),trivial⟩ (Nat.zero_le _) rfl rfl⟩
   | true =>
    have hnv:=nx true s n rs f ⟨px,py⟩ (by omega) (by dsimp only;omega)
    have hmt:=qh (a:=[.ag [ah x.1,ah x.2]]) (l:=[.ag [ah (px - n.pos.x),ah (py - n.pos.y)]]) (AY true x.1 x.2 (px - n.pos.x) (py - n.pos.y) (by omega) (by omega) (by omega) (by omega))
    dsimp only at hnv
    generalize cF (px - n.pos.x) (py - n.pos.y) x.1 x.2=v at *
    cases v <;> cases ys
    ·repeat' (first |refine ⟨_,hnv,?_⟩ |refine RM.nm hmt rfl rfl rfl rfl ?_ |refine u1 ?_ |refine u2 ?_ |refine ⟨[ah px,ah py,BB true,BB false],⟨by omega,hat⟩,rfl,?_⟩ |refine ⟨fun h=>absurd h (by decide),fun _=>?_⟩ |refine ⟨fun _=>?_,fun h=>absurd h (by decide)⟩ |fail)
     exact ⟨k+1,⟨hlt,hone rfl⟩,(by dsimp only;omega),ai.to 1 rfl ⟨rfl,rfl,rfl,rfl,rfl,rfl,rfl,rfl,aH (by simp),trivial⟩ (Nat.zero_le _) rfl rfl⟩
    ·repeat' (first |refine ⟨_,hnv,?_⟩ |refine RM.nm hmt rfl rfl rfl rfl ?_ |refine u1 ?_ |refine u2 ?_ |refine ⟨[ah px,ah py,BB true,BB true],⟨by omega,hat⟩,rfl,?_⟩ |refine ⟨fun _=>?_,fun h=>absurd h (by decide)⟩ |fail)
     exact ⟨_,zK (l:=[]) 0 rfl trivial (Nat.zero_le _) rfl rfl (congrArg J (hfil.2 (hno rfl)).symm)⟩
    ·repeat' (first |refine ⟨_,hnv,?_⟩ |refine RM.nm hmt rfl rfl rfl rfl ?_ |refine u1 ?_ |refine u2 ?_ |refine ⟨[ah px,ah py,BB true,BB false],⟨by omega,hat⟩,rfl,?_⟩ |refine ⟨fun _=>?_,fun h=>absurd h (by decide)⟩ |fail)
     exact ⟨_,zK (l:=[]) 0 rfl trivial (Nat.zero_le _) rfl rfl (congrArg J (hfil.2 (hno rfl)).symm)⟩
    ·repeat' (first |refine ⟨_,hnv,?_⟩ |refine RM.nm hmt rfl rfl rfl rfl ?_ |refine u1 ?_ |refine u2 ?_ |refine ⟨[ah px,ah py,BB true,BB true],⟨by omega,hat⟩,rfl,?_⟩ |refine ⟨fun h=>absurd h (by decide),fun _=>?_⟩ |refine ⟨fun _=>?_,fun h=>absurd h (by decide)⟩ |fail)
     exact ⟨k+1,⟨hlt,hone rfl⟩,(by dsimp only;omega),ai.to 1 rfl ⟨rfl,rfl,rfl,rfl,rfl,rfl,rfl,rfl,aH (by simp),trivial⟩ (Nat.zero_le _) rfl rfl⟩
  ·have d1:decide ((k:Int) < m)=false:=decide_eq_false (by omega)
   have hkn:k=rs.length:=by omega
   have hyes:fits cF n true rs x=true:=by
    unfold fits
    rw [List.all_eq_true]
    intro r hr
    obtain ⟨i,hi,rfl⟩:=List.getElem_of_mem hr
    exact hprev i hi (by omega)
   have hyx:=hy _ (kE x) (by rw [List.getElem?_map,(hfil.1 hyes).1];rfl)
   rw [(hfil.1 hyes).2]
   repeat' (first |refine u1 ?_ |fail)
   refine RM.de (mu:=fun _=>false) ?_
   repeat' (first |refine u1 ?_ |refine u2 ?_ |fail)
   refine bl.mono (hyx _) (fun a hp' amb' hq=>?_)
   obtain ⟨rfl,b,rfl,hb⟩:=hq
   rcases hb with ⟨rfl,rfl⟩|⟨rfl,hstop⟩
   ·repeat' (first |refine u1 ?_ |fail)
    refine aa (mu:=fun _=>false) ?_
    repeat' (first |refine u1 ?_ |refine u2 ?_ |fail)
    exact ⟨_,ai.to (l:=[]) 0 rfl trivial (Nat.zero_le _) rfl rfl⟩
   ·repeat' (first |refine u1 ?_ |fail)
    refine aa (mu:=fun _=>false) ?_
    repeat' (first |refine u1 ?_ |fail)
    exact Or.inr hstop
 ·exact Or.inl (by rw [List.length_map,List.take_length])
end Go.Proofs.YtalcbebjpgfnfaaGreat
