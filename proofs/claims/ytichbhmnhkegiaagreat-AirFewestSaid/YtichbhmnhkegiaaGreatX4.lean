/-
  Contracts of the program's functions and of the document's. Lemmas alone; their conditions stand in them.
-/
import Derived.Test.YtichbhmnhkegiaaGreatX1
import Derived.Test.YtichbhmnhkegiaaGreatX3
import Derived.Test.YtichbhmnhkegiaaGreatK21
open Go Go.RM Go.AirLaw
namespace Go.Proofs.YtichbhmnhkegiaaGreat
set_option maxRecDepth 100000
set_option maxHeartbeats 4000000
theorem true_row (one:Bool) {s:au} {n:aA} (ho:jW s n []) (x:iA) (hx:x.Ok) (f:Bool) {Q:AV→List AB→aV→Prop} (hQ:∀ v c,(c=zm x∨c=zm x+1)→Q (.bg 0 v 0 (zm x) c) [.cells (eV (C7 s n x)) 4 v] aV.none):aP TT TB one (.fn 47 [] []) [.ag (ay s),.ag (aC n),.ag (nZ x f)] [] aV.none Q:=by
 have c1:=C5 one ho x hx f
 have c2:=Fs one ho x hx f
 have hlen:=hx.len
 unfold maxLen at hlen
 have et:((x.taken.map eU).length:Int)=x.taken.length:=by simp
 have hN:C7 s n x=gp s n x (zm x):=rfl
 rw [hN] at hQ
 have hNd:zm x=min 8 (x.taken.length / 3):=rfl
 generalize zm x=N at *
 refine aP.body (fn:=Tryz.f47) rfl rfl rfl ?_
 refine aa (mu:=fun _=>false) ?_
 repeat' (first |refine u1 ?_ |refine u2 ?_ |fail)
 refine ax.aK (ah.trans (ah.jw 4) (ah.GI (l:=[(3,.pt (ay s) 0),(4,.pt (aC n) 0),(5,.pt (nZ x f) 0),(7,.bg 0 0 0 0 0),(8,ai (0 * 3:Nat))]) (hp:=[.cells (eV (gp s n x 0)) 4 0]) 1 rfl ⟨bG.refl _,bG.refl _,bG.refl _,bG.jv,bG.refl _,trivial⟩ (Nat.zero_le _) rfl (nO _ _))) ?_
 refine ax.loop (fun y:Nat × Nat × Nat=>y.1≤N∧(y.2.2=y.1∨y.2.2=y.1+1)) (fun y=>⟨aF [(3,.pt (ay s) 0),(4,.pt (aC n) 0),(5,.pt (nZ x f) 0),(7,.bg 0 y.2.1 0 y.1 y.2.2),(8,ai (y.1 * 3:Nat))],[.cells (eV (gp s n x y.1)) 4 y.2.1],aV.none,false,0⟩) (fun y=>N - y.1) ?_ (0,0,0) ⟨Nat.zero_le _,.inl rfl⟩
 rintro ⟨k,v,c⟩ ⟨hk,hcap⟩
 dsimp only at hk hcap
 show ax _ _ _ _ ⟨aF [(3,.pt (ay s) 0),(4,.pt (aC n) 0),(5,.pt (nZ x f) 0),(7,.bg 0 v 0 k c),(8,ai (k * 3:Nat))],[.cells (eV (gp s n x k)) 4 v],aV.none,false,0⟩ _
 have hWl:=xd s n x k
 have hsuc:=C8 s n x k
 have hWf:=iU (gp s n x k)
 rw [hWl] at hWf
 refine aa (mu:=fun t=>Nat.beq t 68) ?_
 by_cases hlt:k < N
 ·have d1:decide (((k * 3:Nat):Int)+2 < ((x.taken.map eU).length:Int))=true:=decide_eq_true (by omega)
  have d2:decide ((k:Int) < 8)=true:=decide_eq_true (by omega)
  have hA:=xg (x:=x) (i:=k * 3) (by omega)
  have hB:=xg (x:=x) (i:=k * 3+1) (by omega)
  have hC:=xg (x:=x) (i:=k * 3+2) (by omega)
  have bA:=ua hx (k * 3)
  have bB:=ua hx (k * 3+1)
  have bC:=ua hx (k * 3+2)
  rw [show ((k * 3+1:Nat):Int)=((k * 3:Nat):Int)+1 by omega] at hB
  rw [show ((k * 3+2:Nat):Int)=((k * 3:Nat):Int)+2 by omega] at hC
  have hr:C6 s n x (3 * k)=⟨mX n.pos (x.taken.getD (k * 3) 0) (x.taken.getD (k * 3+1) 0),decide (x.taken.getD (k * 3+2) 0 % 2=1),jn n (mX n.pos (x.taken.getD (k * 3) 0) (x.taken.getD (k * 3+1) 0)) (qV s n x (decide (x.taken.getD (k * 3+2) 0 % 2=1))) (decide (x.taken.getD (k * 3+2) 0 % 2=1))⟩:=by
   rw [Nat.mul_comm 3 k];rfl
  rw [hr] at hsuc
  generalize x.taken.getD (k * 3) 0=A at *
  generalize x.taken.getD (k * 3+1) 0=B at *
  generalize x.taken.getD (k * 3+2) 0=C at *
  have hnx:=ho.x
  have hny:=ho.y
  have s1:=IW true n.pos A B (by omega) (by omega) bA bB
  have hsb:=xb n.pos A B
  generalize mX n.pos A B=p at *
  have hm:=fun aB=>AQ one n p (qV s n x aB) aB (by omega) (by omega) (ho.LL (xe ho x _))
  generalize gp s n x k=W at *
  cases hh:decide (C % 2=1) with
  | true =>
   have hm':Pu one 93 [.ag (aC n),.ag (oG p),.ag (eP (oY s n x)),BB (decide (C % 2=1))] (BB (jn n p (oY s n x) true)):=by rw [hh];exact hm true
   have hsuc':gp s n x (k+1)=W++[⟨p,decide (C % 2=1),jn n p (oY s n x) true⟩]:=by rw [hh] at hsuc ⊢;exact hsuc
   clear hm hsuc hr
   generalize jn n p (oY s n x) true=m at *
   repeat' (first |((with_reducible show RM.wpOp _ _ (.indexAddr _ _ _) _ _ _);refine RM.Kx rfl rfl rfl hA (by omega) rfl ?_) |((with_reducible show RM.wpOp _ _ (.indexAddr _ _ _) _ _ _);refine RM.Kx rfl rfl rfl hB (by omega) rfl ?_) |((with_reducible show RM.wpOp _ _ (.indexAddr _ _ _) _ _ _);refine RM.Kx rfl rfl rfl hC (by omega) rfl ?_) |(refine IU rfl rfl (by omega) ?_) |(refine KI rfl rfl ?_) |((with_reducible show RM.wpOp _ _ (.call _) _ _ _);refine RM.qJ (cs:=eV W) (n:=k) (els:=[aj ⟨p,decide (C % 2=1),m⟩]) rfl rfl rfl rfl rfl (fun el hel=>by rw [List.mem_singleton.1 hel];rfl) rfl rfl hWf hcap (by simp only [List.length_singleton];omega) (fun v' c' hc'=>?_)) |refine u1 ?_ |refine u2 ?_ |fail)
   refine ⟨(k+1,v',c'),⟨hlt,hc'⟩,(by dsimp only;omega),?_⟩
   show ah _ ⟨aF [(3,.pt (ay s) 0),(4,.pt (aC n) 0),(5,.pt (nZ x f) 0),(7,.bg 0 v' 0 (k+1) c'),(8,ai ((k+1) * 3:Nat))],[.cells (eV (gp s n x (k+1))) 4 v'],aV.none,false,0⟩
   rw [hsuc']
   exact ah.to 1 (by rw [kU];rfl) ⟨rfl,rfl,rfl,rfl,aR (by omega),trivial⟩ (Nat.zero_le _) rfl (nO _ _)
  | false =>
   have hm':Pu one 93 [.ag (aC n),.ag (oG p),.ag (eP (l7 s n x)),BB (decide (C % 2=1))] (BB (jn n p (l7 s n x) false)):=by rw [hh];exact hm false
   have hsuc':gp s n x (k+1)=W++[⟨p,decide (C % 2=1),jn n p (l7 s n x) false⟩]:=by rw [hh] at hsuc ⊢;exact hsuc
   clear hm hsuc hr
   generalize jn n p (l7 s n x) false=m at *
   repeat' (first |((with_reducible show RM.wpOp _ _ (.indexAddr _ _ _) _ _ _);refine RM.Kx rfl rfl rfl hA (by omega) rfl ?_) |((with_reducible show RM.wpOp _ _ (.indexAddr _ _ _) _ _ _);refine RM.Kx rfl rfl rfl hB (by omega) rfl ?_) |((with_reducible show RM.wpOp _ _ (.indexAddr _ _ _) _ _ _);refine RM.Kx rfl rfl rfl hC (by omega) rfl ?_) |(refine IU rfl rfl (by omega) ?_) |(refine KI rfl rfl ?_) |((with_reducible show RM.wpOp _ _ (.call _) _ _ _);refine RM.qJ (cs:=eV W) (n:=k) (els:=[aj ⟨p,decide (C % 2=1),m⟩]) rfl rfl rfl rfl rfl (fun el hel=>by rw [List.mem_singleton.1 hel];rfl) rfl rfl hWf hcap (by simp only [List.length_singleton];omega) (fun v' c' hc'=>?_)) |refine u1 ?_ |refine u2 ?_ |fail)
   refine ⟨(k+1,v',c'),⟨hlt,hc'⟩,(by dsimp only;omega),?_⟩
   show ah _ ⟨aF [(3,.pt (ay s) 0),(4,.pt (aC n) 0),(5,.pt (nZ x f) 0),(7,.bg 0 v' 0 (k+1) c'),(8,ai ((k+1) * 3:Nat))],[.cells (eV (gp s n x (k+1))) 4 v'],aV.none,false,0⟩
   rw [hsuc']
   exact ah.to 1 (by rw [kU];rfl) ⟨rfl,rfl,rfl,rfl,aR (by omega),trivial⟩ (Nat.zero_le _) rfl (nO _ _)
 ·have hkN:k=N:=by omega
  subst hkN
  by_cases h8:k=8
  ·by_cases h3:((k * 3:Nat):Int)+2 < ((x.taken.map eU).length:Int)
   ·have d1:decide (((k * 3:Nat):Int)+2 < ((x.taken.map eU).length:Int))=true:=decide_eq_true h3
    have d2:decide ((k:Int) < 8)=false:=decide_eq_false (by omega)
    repeat' (first |refine u1 ?_ |refine u2 ?_ |fail)
    exact hQ _ _ hcap
   ·have d1:decide (((k * 3:Nat):Int)+2 < ((x.taken.map eU).length:Int))=false:=decide_eq_false h3
    repeat' (first |refine u1 ?_ |refine u2 ?_ |fail)
    exact hQ _ _ hcap
  ·have d1:decide (((k * 3:Nat):Int)+2 < ((x.taken.map eU).length:Int))=false:=decide_eq_false (by omega)
   repeat' (first |refine u1 ?_ |refine u2 ?_ |fail)
   exact hQ _ _ hcap
end Go.Proofs.YtichbhmnhkegiaaGreat
open Go Go.RM Go.AirLaw
namespace Go.Proofs.YtichbhmnhkegiaaGreat
set_option maxRecDepth 100000
set_option maxHeartbeats 4000000
theorem modify_set (g:av→av):∀ (L:List av) (i:Nat) (h:i < L.length),L.modify i g=L.set i (g L[i])
 | r :: L,0,_=>rfl
 | r :: L,i+1,h=>by
  show r :: L.modify i g=r :: L.set i (g (L[i]'(by simpa using h)))
  rw [modify_set g L i (by simpa using h)]
theorem liars_c (s:au) (hs:s.Ok) (n:aA) (x:iA) (hx:x.Ok) (f:Bool) (o:Nat):Pu false 14 [.ag (ay s),.ag (aC n),.ag (nZ x f++[U8 (o:Nat)])] (BB true):=by
 have aw:=CR
 have c1:=IV false s hs n [] false (by decide)
 dsimp only [nZ,List.cons_append,List.nil_append]
 refine af.body (fn:=Tryz.f14) rfl rfl rfl rfl ?_
 by_cases h0:(aD s n []).2=0
 ·rw [decide_eq_true h0] at c1
  have ho:=cc h0
  have hlaw:=liars_law (x:=x) h0 o
  have hRl:(C7 s n x).length=zm x:=xd s n x (zm x)
  have hN8:zm x≤8:=Nat.min_le_left _ _
  refine RM.fm (mu:=fun _=>false) ?_
  repeat' (first |refine u1 ?_ |refine u2 ?_ |fail)
  refine RM.fm (mu:=fun _=>false) ?_
  repeat' (first |((with_reducible show aP _ _ _ _ _ _ _ _);refine af.DM c1 rfl (s7.three (Fz.deep rfl) (Fz.deep rfl) Fz.nil) (dY.fl _) ?_) |refine u1 ?_ |refine u2 ?_ |fail)
  have tr:=fun Q hQ=>true_row false ho x hx f (Q:=Q) hQ
  refine RM.fm (mu:=fun _=>false) ?_
  repeat' (first |((with_reducible show aP _ _ _ _ _ _ _ _);refine tr _ (fun v1 c1' hc1'=>?_)) |refine u1 ?_ |refine u2 ?_ |fail)
  clear tr c1
  rw [←hRl] at hc1' hN8
  rw [←hRl]
  generalize C7 s n x=R at *
  refine ax.seq ?_
  refine RM.fm (mu:=fun _=>false) ?_
  repeat' (first |refine u1 ?_ |refine u2 ?_ |fail)
  refine ax.aK (ah.to (l:=[(3,.pt (ay s) 0),(4,.pt (aC n) 0),(5,.pt [ob x.a,ob x.b,ob x.c,ob x.d,.sl (x.taken.map eU) f,U8 (o:Nat)] 0),(7,.bg 0 v1 0 R.length c1'),(8,ai ((aO (bitU o) 0 0).length:Nat)),(9,ai (0:Nat))]) (hp:=[.cells (eV (lieTo o R 0)) 4 v1]) 1 rfl ⟨rfl,rfl,rfl,rfl,rfl,rfl,trivial⟩ (Nat.zero_le _) rfl (nO _ _)) ?_
  refine ax.block ?_
  refine ax.loop (fun k:Nat=>k≤R.length) (fun k=>⟨aF [(3,.pt (ay s) 0),(4,.pt (aC n) 0),(5,.pt [ob x.a,ob x.b,ob x.c,ob x.d,.sl (x.taken.map eU) f,U8 (o:Nat)] 0),(7,.bg 0 v1 0 R.length c1'),(8,ai ((aO (bitU o) 0 k).length:Nat)),(9,ai (k:Nat))],[.cells (eV (lieTo o R k)) 4 v1],aV.none,false,0⟩) (fun k=>R.length - k) ?_ 0 (Nat.zero_le _)
  intro k hk
  refine aa (mu:=fun _=>false) ?_
  have hlk:=lieTo_len o R k
  have hml:=e8 (bitU o) 0 k
  by_cases hlt:k < R.length
  ·have d1:decide ((k:Int) < (R.length:Int))=true:=decide_eq_true (by omega)
   have hk2:k < (lieTo o R k).length:=by omega
   cases hbit:bitU o k with
   | true =>
    have d3:decide (((o / 2 ^ k % 2:Nat):Int)=1)=true:=hbit
    have hs2:=wK hbit
    have hye:(eV (lieTo o R k))[0+((k:Nat):Int).toNat * 4+3]?=some (BB (lieTo o R k)[k].yes):=by rw [Int.toNat_natCast,Nat.zero_add];exact flatR_yes _ _ hk2
    have hset:dG (eV (lieTo o R k)) [BB (!(lieTo o R k)[k].yes)] (0+((k:Nat):Int).toNat * 4+3)=eV (lieTo o R (k+1)):=by
     rw [Int.toNat_natCast,Nat.zero_add,flatR_set _ _ _ hk2,lieTo,if_pos hbit,modify_set _ _ _ hk2,modify_set _ _ _ hk2];rfl
    have hln:Nat.ble (0+((k:Nat):Int).toNat * 4+3+1) (eV (lieTo o R k)).length=true:=Nat.ble_eq_true_of_le (by rw [iU,Int.toNat_natCast];omega)
    generalize (lieTo o R k)[k].yes=y at *
    repeat' (first |(refine bshr8 rfl rfl (by omega) ?_) |(refine brem8 rfl rfl ?_) |(refine beq8 rfl rfl ?_) |((with_reducible show RM.wpOp _ _ (.load _ _) _ _ _);refine RM.DQ rfl rfl rfl hye ?_) |((with_reducible show dP _ _ _ _ _ _);refine RM.LK rfl rfl rfl rfl rfl rfl hln ?_) |refine u1 ?_ |refine u2 ?_ |fail)
    refine ⟨k+1,hlt,(by dsimp only;omega),?_⟩
    show ah _ ⟨aF [(3,.pt (ay s) 0),(4,.pt (aC n) 0),(5,.pt [ob x.a,ob x.b,ob x.c,ob x.d,.sl (x.taken.map eU) f,U8 (o:Nat)] 0),(7,.bg 0 v1 0 R.length c1'),(8,ai ((aO (bitU o) 0 (k+1)).length:Nat)),(9,ai ((k+1):Nat))],[.cells (eV (lieTo o R (k+1))) 4 v1],aV.none,false,0⟩
    rw [←hset]
    exact ah.to 1 rfl ⟨rfl,rfl,rfl,rfl,aR (by rw [hs2,List.length_append];simp),aR (by simp),trivial⟩ (Nat.zero_le _) rfl (by rw [hset];exact nO _ _)
   | false =>
    have d3:decide (((o / 2 ^ k % 2:Nat):Int)=1)=false:=hbit
    have hs2:=wL hbit
    have hset:lieTo o R (k+1)=lieTo o R k:=by rw [lieTo,if_neg (by rw [hbit];simp)]
    repeat' (first |(refine bshr8 rfl rfl (by omega) ?_) |(refine brem8 rfl rfl ?_) |(refine beq8 rfl rfl ?_) |refine u1 ?_ |refine u2 ?_ |fail)
    refine ⟨k+1,hlt,(by dsimp only;omega),?_⟩
    show ah _ ⟨aF [(3,.pt (ay s) 0),(4,.pt (aC n) 0),(5,.pt [ob x.a,ob x.b,ob x.c,ob x.d,.sl (x.taken.map eU) f,U8 (o:Nat)] 0),(7,.bg 0 v1 0 R.length c1'),(8,ai ((aO (bitU o) 0 (k+1)).length:Nat)),(9,ai ((k+1):Nat))],[.cells (eV (lieTo o R (k+1))) 4 v1],aV.none,false,0⟩
    rw [hset]
    exact ah.to 1 rfl ⟨rfl,rfl,rfl,rfl,aR (by rw [hs2]),aR (by simp),trivial⟩ (Nat.zero_le _) rfl (nO _ _)
  ·have d1:decide ((k:Int) < (R.length:Int))=false:=decide_eq_false (by omega)
   have hkr:k=R.length:=by omega
   subst hkr
   repeat' (first |refine u1 ?_ |refine u2 ?_ |fail)
   obtain ⟨hn0,hle⟩:=hlaw
   generalize lieTo o R R.length=L at *
   obtain ⟨tl,th,hb⟩:=zk (cc hn0)
   have hle:=hle tl th hb
   have c2:=AZ s hs n L false hn0 tl th hb
   have hL8:=(cc hn0).JL
   generalize gJ n L tl th=W at *
   have ew:((W.map eI).length:Int)=W.length:=by simp
   have d2:decide (((W.map eI).length:Int)≤((aO (bitU o) 0 R.length).length:Nat))=true:=decide_eq_true (by omega)
   have d0:decide ((0:Int)=0)=true:=rfl
   generalize (aO (bitU o) 0 R.length).length=M at *
   refine ax.aK (ah.giveUp 0 (l:=[(3,.pt (ay s) 0),(4,.pt (aC n) 0),(7,.sl (L.map aj) false),(8,ai (M:Nat))]) (hp:=[.gone]) rfl (Nat.zero_le _) (w7 _) ⟨.same rfl,.same rfl,.row 4 (by rw [iU,hlk];omega) (by rw [List.length_map,hlk]) (fun el hel=>by obtain ⟨x,_,rfl⟩:=List.mem_map.1 hel;rfl) (by rw [List.drop_zero,List.take_of_length_le (by rw [iU,hlk];omega)]) (fun h=>Bool.noConfusion h),.same rfl,trivial⟩ rfl rfl) ?_
   refine aa (mu:=fun _=>false) ?_
   repeat' (first |refine u1 ?_ |refine u2 ?_ |fail)
   exact ⟨[_],⟨Fz.deep rfl,trivial⟩,rfl⟩
 ·rw [decide_eq_false h0] at c1
  refine aa (mu:=fun _=>false) ?_
  repeat' (first |((with_reducible show aP _ _ _ _ _ _ _ _);refine af.DM c1 rfl (s7.three (Fz.deep rfl) (Fz.deep rfl) Fz.nil) (dY.fl _) ?_) |refine u1 ?_ |refine u2 ?_ |fail)
  exact ⟨[_],⟨Fz.deep rfl,trivial⟩,rfl⟩
end Go.Proofs.YtichbhmnhkegiaaGreat
