/-
  Contracts of the program's functions and of the document's. Lemmas alone; their conditions stand in them.
-/
import Derived.Test.YtkappgolfkiaeaaGreatDoorK3
open Go Go.RM
namespace Go.Proofs.YtkappgolfkiaeaaGreatDoor
set_option maxRecDepth 100000
set_option maxHeartbeats 4000000
theorem Nc (one:Bool) {s:aC} (hg:Good s) (o:Order) (last:Int) (hc:o.bl.length≤maxLen):Pu one 82 [.ag (aH s),.ag (aL o),av last] (av (kR s o last)):=by
 have eg:((s.needs.map aU).length:Int)=s.needs.length:=by simp
 have ec:((ints o.bl).length:Int)=o.bl.length:=by simp
 have mc:o.bl.length≤9223372036854775807:=Nat.le_trans hc (by simp [maxLen]);have hd:=hg.days;have hl:=hg.len;have o1:=jx one 0 (s.days - 1) o.day;obtain ⟨A,hA⟩:∃ A,A=(bx o.bl.length (gh o.bl (s.needs.length:Int) 4)).1:=⟨_,rfl⟩;have o2:Pu one 90 [.sl (ints o.bl) false,av ((s.needs.map aU).length:Int),av 4] (.tp [av A,av (qb o.bl s.needs.length)]):=by rw [eg,hA];exact I6 one o.bl false (s.needs.length:Int) 4 hc (by omega) (by decide)
 unfold kR
 cases c1:bS 0 (s.days - 1) [o.day] with
 | true =>
  rw [c1] at o1;rw [if_pos rfl];refine af.body (fn:=Tryz.f82) rfl rfl rfl rfl ?_;refine qq1 ?_;repeat' first|refine u1 ?_|((with_reducible refine qq3 ?_);refine af.call o1 rfl rfl ?_)|refine u2 ?_|fail
  exact ⟨[_],⟨Fz.deep rfl,trivial⟩,rfl⟩
 | false =>
  rw [c1] at o1;rw [if_neg (by simp)];by_cases c2:o.day≤last
  ·have d2:=decide_eq_true c2;rw [if_pos c2];refine af.body (fn:=Tryz.f82) rfl rfl rfl rfl ?_;refine qq1 ?_;repeat' first|refine u1 ?_|((with_reducible refine qq3 ?_);refine af.call o1 rfl rfl ?_)|refine u2 ?_|fail
   exact ⟨[_],⟨Fz.deep rfl,trivial⟩,rfl⟩
  ·have d2:=decide_eq_false c2;rw [if_neg c2];by_cases c3:o.bl.length=0
   ·have d3:decide (((ints o.bl).length:Int)=0)=true:=decide_eq_true (by rw [ec];omega);rw [if_pos c3];refine af.body (fn:=Tryz.f82) rfl rfl rfl rfl ?_;refine qq1 ?_;repeat' first|refine u1 ?_|((with_reducible refine qq3 ?_);refine af.call o1 rfl rfl ?_)|refine u2 ?_|fail
    exact ⟨[_],⟨Fz.deep rfl,trivial⟩,rfl⟩
   ·have d3:decide (((ints o.bl).length:Int)=0)=false:=decide_eq_false (by rw [ec];omega);rw [if_neg c3];by_cases c4:qb o.bl s.needs.length=0
    ·rw [if_neg (by omega)];rw [c4] at o2;obtain ⟨q1,q2,_⟩:=vm c4;have hw:=Jc true hg o.bl false q2 q1;have d4:decide ((0:Int)=0)=true:=by decide
     by_cases c5:s.load < CU s o.bl
     ·have d5:=decide_eq_true c5;rw [if_pos c5];refine af.body (fn:=Tryz.f82) rfl rfl rfl rfl ?_;refine qq1 ?_;repeat' first|((with_reducible refine qq3 ?_);refine af.call o1 rfl rfl ?_)|((with_reducible refine qq3 ?_);refine af.call o2 rfl rfl ?_)|refine u1 ?_|(refine ⟨_,_,.inl ⟨rfl,rfl⟩,hw,?_⟩)|refine u2 ?_|fail
      exact ⟨[_],⟨Fz.deep rfl,trivial⟩,rfl⟩
     ·have d5:=decide_eq_false c5;rw [if_neg c5];refine af.body (fn:=Tryz.f82) rfl rfl rfl rfl ?_;refine qq1 ?_;repeat' first|((with_reducible refine qq3 ?_);refine af.call o1 rfl rfl ?_)|((with_reducible refine qq3 ?_);refine af.call o2 rfl rfl ?_)|refine u1 ?_|(refine ⟨_,_,.inl ⟨rfl,rfl⟩,hw,?_⟩)|refine u2 ?_|fail
      exact ⟨[_],⟨Fz.deep rfl,trivial⟩,rfl⟩
    ·rw [if_pos c4];have d4:decide (qb o.bl s.needs.length=0)=false:=decide_eq_false c4
     generalize qb o.bl s.needs.length=e at *
     refine af.body (fn:=Tryz.f82) rfl rfl rfl rfl ?_;refine qq1 ?_;repeat' first|refine u1 ?_|((with_reducible refine qq3 ?_);refine af.call o1 rfl rfl ?_)|((with_reducible refine qq3 ?_);refine af.call o2 rfl rfl ?_)|refine u2 ?_|fail
     exact ⟨[_],⟨Fz.deep rfl,trivial⟩,rfl⟩
structure RS (p:List Order):Prop where
 len:p.length≤maxLen
 bl:∀ o ∈ p,o.bl.length≤maxLen
theorem Ew {p:List Order} {k:Nat} (h:k < p.length):mJ p (k+1)=p[k].day:=by unfold mJ;rw [if_neg (by omega),Nat.add_sub_cancel,List.getElem?_eq_getElem h]
theorem Jd (one:Bool) (s:aC) (hs:s.Ok) (p:List Order) (full:Bool) (hp:RS p):Pu one 41 [.ag (aH s),.sl (p.map aL) full] (.tp [av (gx s p).1,av (gx s p).2]):=by
 have ep:((p.map aL).length:Int)=p.length:=by simp
 have mp:p.length≤9223372036854775807:=Nat.le_trans hp.len (by simp [maxLen]);have o1:=A3 one s hs;obtain ⟨n,hn⟩:∃ n:Int,n=p.length:=⟨_,rfl⟩;unfold gx;by_cases c1:(gv s).2.2=0
 ·rw [if_neg (by omega)];have hg:=tS c1;rw [I8 c1] at o1;unfold vn;by_cases c2:8 < p.length
  ·have d2:decide (8 < ((p.map aL).length:Int))=true:=decide_eq_true (by rw [ep];omega);rw [if_pos c2];refine af.body (fn:=Tryz.f41) rfl rfl rfl rfl ?_;refine qq1 ?_;repeat' first|refine u1 ?_|((with_reducible refine qq3 ?_);refine af.call o1 rfl rfl ?_)|refine u2 ?_|fail
   exact ⟨[_,_],⟨Fz.deep rfl,Fz.deep rfl,trivial⟩,rfl⟩
  ·have d2:decide (8 < ((p.map aL).length:Int))=false:=decide_eq_false (by rw [ep];omega);rw [if_neg c2];refine af.body (fn:=Tryz.f41) rfl rfl rfl rfl ?_;refine qq1 ?_;repeat' first|refine u1 ?_|((with_reducible refine qq3 ?_);refine af.call o1 rfl rfl ?_)|refine u2 ?_|fail
   refine aE.aS (ai.to (l:=[(2,.pt (aH s) 0),(6,av (mJ p 0)),(21,.sl (p.map aL) full),(22,av n),(23,av (0:Nat))]) (hp:=[]) 0 rfl ⟨rfl,rfl,rfl,aJ (by rw [hn];exact ep),rfl,trivial⟩ (qq5 _) rfl rfl) ?_;refine aE.loop (fun k:Nat=>k≤p.length∧∀ i,i < k→lK s p i=0) (fun k=>⟨bA [(2,.pt (aH s) 0),(6,av (mJ p k)),(21,.sl (p.map aL) full),(22,av n),(23,av (k:Nat))],[],cz.none,false,0⟩) (fun k=>p.length - k) ?_ 0 ⟨qq5 _,fun i hi=>absurd hi (Nat.not_lt_zero _)⟩;rintro k ⟨hk,hprev⟩;refine qq1 ?_;by_cases hlt:k < p.length
   ·have d1:decide ((k:Int) < n)=true:=decide_eq_true (by omega);have hat:(p.map aL)[((k:Nat):Int).toNat]?=some (aL p[k]):=bI hlt;have hA:lK s p k=kR s p[k] (mJ p k):=by unfold lK;rw [List.getElem?_eq_getElem hlt]
    have ho:=Nc one hg p[k] (mJ p k) (hp.bl _ (List.getElem_mem hlt));have hs1:=Ew hlt;rw [←hA] at ho;clear hA
    generalize p[k]=o at *
    generalize mJ p k=last at *
    by_cases c3:lK s p k=0
    ·rw [c3] at ho;repeat' first|((with_reducible refine qq3 ?_);refine af.call ho rfl rfl ?_)|refine u1 ?_|((with_reducible refine qq4 ?_);refine ⟨aL o,⟨by omega,hat⟩,rfl,?_⟩)|refine u2 ?_|fail
     refine ⟨k+1,⟨hlt,fun i hi=>?_⟩,(by dsimp only;omega),ai.to 0 rfl ⟨rfl,aJ hs1.symm,rfl,rfl,aJ (by simp),trivial⟩ (qq5 _) rfl rfl⟩;by_cases hik:i=k
     ·rw [hik];exact c3
     ·exact hprev i (by omega)
    ·rw [eO hlt hprev c3]
     generalize lK s p k=e at *
     have d3:(!decide (e=0))=true:=by rw [decide_eq_false c3];rfl
     repeat' first|((with_reducible refine qq3 ?_);refine af.call ho rfl rfl ?_)|refine u1 ?_|((with_reducible refine qq4 ?_);refine ⟨aL o,⟨by omega,hat⟩,rfl,?_⟩)|refine u2 ?_|fail
     exact ⟨[_,_],⟨Fz.deep rfl,Fz.deep rfl,trivial⟩,rfl⟩
   ·have d1:decide ((k:Int) < n)=false:=decide_eq_false (by omega);rw [cu (fun i hi=>hprev i (by omega))];repeat' first|refine u1 ?_|refine u2 ?_|fail
    exact ⟨[_,_],⟨Fz.deep rfl,Fz.deep rfl,trivial⟩,rfl⟩
 ·rw [if_pos c1]
  generalize (gv s).1=a at *
  generalize (gv s).2.1=b at *
  generalize (gv s).2.2=e at *
  have d1:(!decide (e=0))=true:=by rw [decide_eq_false c1];rfl
  refine af.body (fn:=Tryz.f41) rfl rfl rfl rfl ?_;refine qq1 ?_;repeat' first|refine u1 ?_|((with_reducible refine qq3 ?_);refine af.call o1 rfl rfl ?_)|refine u2 ?_|fail
  exact ⟨[_,_],⟨Fz.deep rfl,Fz.deep rfl,trivial⟩,rfl⟩
def sH (s:aC) (p:List Order) (f:List Int):Int:=if (gx s p).2=0 then qb f p.length else (gx s p).2
abbrev i7 (n:Nat):AV:=.fl (.int .u64 ((n:Nat):Int))
def eo (l:List Int):Nat:=l.foldl (fun f i=>f ||| 2 ^ i.toNat) 0
theorem Ex {l:List Int} {k:Nat} (h:k < l.length):eo (l.take (k+1))=eo (l.take k) ||| 2 ^ l[k].toNat:=by unfold eo;rw [List.take_add_one,List.getElem?_eq_getElem h,List.foldl_append];rfl
theorem xd:∀ (l:List Int) (a k:Nat),(l.foldl (fun f i=>f ||| 2 ^ i.toNat) a).testBit k=(a.testBit k || l.any fun i=>i.toNat == k)
 | [],a,k=>by simp
 | x :: l,a,k=>by
  rw [List.foldl_cons,xd l,Nat.testBit_or,Nat.testBit_two_pow,List.any_cons,Bool.or_assoc]
  congr 1
theorem zB {l:List Int} {n:Nat} (h:∀ x ∈ l,0≤x∧x < n) (k:Nat):(eo l).testBit k=hasB l (k:Int):=by
 unfold eo;rw [xd,Nat.zero_testBit,Bool.false_or,Bool.eq_iff_iff,iP,List.any_eq_true];constructor
 ·rintro ⟨x,hx,hk⟩;have:=h x hx;have e:x.toNat=k:=by simpa using hk
  rw [show (k:Int)=x by omega];exact hx
 ·intro hk;exact ⟨(k:Int),hk,by simp⟩
theorem CW {l:List Int} {n:Nat} (h:∀ x ∈ l,0≤x∧x < n):eo l < 2 ^ n:=by apply Nat.lt_pow_two_of_testBit;intro i hi;rw [zB h,←Bool.not_eq_true,iP];intro hm;have:=h _ hm;omega
theorem Nh (one:Bool) (s:aC) (hs:s.Ok) (p:List Order) (full:Bool) (hp:RS p) (f:List Int) (ff:Bool) (hf:f.length≤maxLen):Pu one 54 [.ag (aH s),.sl (p.map aL) full,.sl (ints f) ff] (.tp [i7 (if sH s p f=0 then eo f else 0),av (sH s p f)]):=by
 have o1:=Jd one s hs p full hp;have mp:p.length≤9223372036854775807:=Nat.le_trans hp.len (by simp [maxLen]);have mf:f.length≤9223372036854775807:=Nat.le_trans hf (by simp [maxLen]);have ef:((ints f).length:Int)=f.length:=by simp
 obtain ⟨A,hA⟩:∃ A,A=(bx f.length (gh f (p.length:Int) 4)).1:=⟨_,rfl⟩;have o2:Pu one 90 [.sl (ints f) ff,av ((p.map aL).length:Int),av 4] (.tp [av A,av (qb f p.length)]):=by rw [show ((p.map aL).length:Int)=p.length by simp,hA];exact I6 one f ff (p.length:Int) 4 hf (by omega) (by decide)
 unfold sH;by_cases c1:(gx s p).2=0
 ·have d0:decide ((0:Int)=0)=true:=by decide
  have d0':(!decide ((0:Int)=0))=false:=by decide
  have hp8:=(mK c1).len;rw [if_pos c1];rw [c1] at o1
  generalize (gx s p).1=a at *
  by_cases c2:qb f p.length=0
  ·obtain ⟨q1,_,_⟩:=vm c2;rw [if_pos c2,c2];rw [c2] at o2;obtain ⟨n,hn⟩:∃ n:Int,n=f.length:=⟨_,rfl⟩;refine af.body (fn:=Tryz.f54) rfl rfl rfl rfl ?_;refine qq1 ?_;repeat' first|refine u1 ?_|((with_reducible refine qq3 ?_);refine af.call o1 rfl rfl ?_)|((with_reducible refine qq3 ?_);refine af.call o2 rfl rfl ?_)|refine u2 ?_|fail
   refine aE.aS (ai.to (l:=[(6,i7 (eo (f.take 0))),(28,.sl (ints f) ff),(29,av n),(30,av (0:Nat))]) (hp:=[]) 0 rfl ⟨rfl,rfl,aJ (by rw [hn];exact ef),rfl,trivial⟩ (qq5 _) rfl rfl) ?_;refine aE.loop (fun k:Nat=>k≤f.length) (fun k=>⟨bA [(6,i7 (eo (f.take k))),(28,.sl (ints f) ff),(29,av n),(30,av (k:Nat))],[],cz.none,false,0⟩) (fun k=>f.length - k) ?_ 0 (qq5 _);intro k hk;refine qq1 ?_;by_cases hlt:k < f.length
   ·have d1:decide ((k:Int) < n)=true:=decide_eq_true (by omega);have hat:(ints f)[((k:Nat):Int).toNat]?=some (av f[k] :: []):=bI hlt;have hx:=q1 _ (List.getElem_mem hlt);have ht:=Ex hlt;have hb:=CW (l:=f.take k) (n:=p.length) (fun x hx=>q1 x (List.mem_of_mem_take hx));have h28:2 ^ p.length≤2 ^ 8:=Nat.pow_le_pow_right (by decide) hp8;obtain ⟨j,hj⟩:∃ j:Nat,f[k]=(j:Int):=⟨f[k].toNat,by omega⟩;rw [hj] at hat hx ht;rw [Int.toNat_natCast] at ht;have hj8:j < 8:=by omega
    have h2j:2 ^ j < 18446744073709551616:=Nat.lt_of_lt_of_le (Nat.pow_lt_pow_right (by decide) hj8) (by decide);have hbb:eo (f.take k) < 18446744073709551616:=by omega
    repeat' first|((with_reducible show bw _ _ _ _ _ _ _ _ _);refine RM.Od rfl rfl hj8 ?_)|((with_reducible show bw _ _ _ _ _ _ _ _ _);refine RM.RT rfl rfl hbb h2j ?_)|refine u1 ?_|(refine ⟨av (j:Int) :: [],⟨by omega,hat⟩,rfl,?_⟩)|refine u2 ?_|fail
    exact ⟨k+1,hlt,(by dsimp only;omega),ai.to 0 rfl ⟨by dsimp only;rw [ht];rfl,rfl,rfl,aJ (by simp),trivial⟩ (qq5 _) rfl rfl⟩
   ·have d1:decide ((k:Int) < n)=false:=decide_eq_false (by omega);have e:f.take k=f:=List.take_of_length_le (by omega);rw [e];repeat' first|refine u1 ?_|refine u2 ?_|fail
    exact ⟨[_,_],⟨Fz.deep rfl,Fz.deep rfl,trivial⟩,rfl⟩
  ·rw [if_neg c2]
   generalize qb f p.length=e at *
   have d1:(!decide (e=0))=true:=by rw [decide_eq_false c2];rfl
   refine af.body (fn:=Tryz.f54) rfl rfl rfl rfl ?_;refine qq1 ?_;repeat' first|refine u1 ?_|((with_reducible refine qq3 ?_);refine af.call o1 rfl rfl ?_)|((with_reducible refine qq3 ?_);refine af.call o2 rfl rfl ?_)|refine u2 ?_|fail
   exact ⟨[_,_],⟨Fz.deep rfl,Fz.deep rfl,trivial⟩,rfl⟩
 ·rw [if_neg c1,if_neg c1]
  generalize (gx s p).1=a at *
  generalize (gx s p).2=b at *
  have d1:decide (b=0)=false:=decide_eq_false c1;have d2:(!decide (b=0))=true:=by rw [d1];rfl
  refine af.body (fn:=Tryz.f54) rfl rfl rfl rfl ?_;refine qq1 ?_;repeat' first|refine u1 ?_|((with_reducible refine qq3 ?_);refine af.call o1 rfl rfl ?_)|((with_reducible refine qq3 ?_);refine af.call o2 rfl rfl ?_)|refine u2 ?_|fail
  exact ⟨[_,_],⟨Fz.deep rfl,Fz.deep rfl,trivial⟩,rfl⟩
end Go.Proofs.YtkappgolfkiaeaaGreatDoor
namespace Go.TeLaw
def uO (R:Nat):Nat→Nat→Nat→List (List Bool)
 | 0,_,_=>[[]]
 | n+1,row,left=>(uO R n 0 left).map (false :: ·)++(if left=0∨R≤row then [] else (uO R n (row+1) (left - 1)).map (true :: ·))
def mL (R:Nat):Nat→List Bool→Bool
 | _,[]=>true
 | _,false :: l=>mL R 0 l
 | row,true :: l=>decide (row < R) && mL R (row+1) l
def cnt:List Bool→Nat
 | []=>0
 | false :: l=>cnt l
 | true :: l=>cnt l+1
theorem jr {R:Nat}:∀ {n row left:Nat} {b:List Bool},b ∈ uO R n row left ↔ (b.length=n∧cnt b≤left∧mL R row b=true)
 | 0,row,left,b=>by
  unfold uO;rw [List.mem_singleton];constructor
  ·rintro rfl;exact ⟨rfl,qq5 _,rfl⟩
  ·rintro ⟨h,_⟩;exact List.length_eq_zero_iff.1 h
 | n+1,row,left,b=>by
  unfold uO;rw [List.mem_append];constructor
  ·rintro (h|h)
   ·obtain ⟨c,hc,rfl⟩:=List.mem_map.1 h;obtain ⟨h1,h2,h3⟩:=jr.1 hc;exact ⟨by rw [List.length_cons,h1],h2,h3⟩
   ·split at h
    ·cases h
    ·rename_i hn;obtain ⟨c,hc,rfl⟩:=List.mem_map.1 h;obtain ⟨h1,h2,h3⟩:=jr.1 hc;refine ⟨by rw [List.length_cons,h1],by unfold cnt;omega,?_⟩;unfold mL;rw [h3,decide_eq_true (by omega)];rfl
  ·rintro ⟨h1,h2,h3⟩
   match b,h1 with
   | false :: c,h1 =>exact .inl (List.mem_map.2 ⟨c,jr.2 ⟨by simpa using h1,h2,h3⟩,rfl⟩)
   | true :: c,h1 =>unfold cnt at h2;unfold mL at h3;rw [qq7,decide_eq_true_eq] at h3;right;rw [if_neg (by omega)];exact List.mem_map.2 ⟨c,jr.2 ⟨by simpa using h1,by omega,h3.2⟩,rfl⟩
def HO (full first:Int) (br:Nat→Bool):Nat→Int
 | 0=>if br 0 then full else first
 | d+1=>if br (d+1) then full else max 0 (HO full first br d - 1)
theorem Jj {full first:Int} (h:first≤full) (h0:0≤full) (br:Nat→Bool):∀ d,HO full first br d≤full
 | 0=>by unfold HO;split <;> omega
 | d+1=>by have:=Jj h h0 br d;unfold HO;split <;> omega
theorem P1 {full first:Int} (h:0≤first) (h0:0≤full) (br:Nat→Bool):∀ d,0≤HO full first br d
 | 0=>by unfold HO;split <;> omega
 | d+1=>by unfold HO;split <;> omega
end Go.TeLaw
open Go Go.RM
namespace Go.Proofs.YtkappgolfkiaeaaGreatDoor
set_option maxRecDepth 100000
def jI (s:aC) (n:Nat):Int:=match s.needs[n]? with
 | some x=>x.first
 | none=>0
def nG (s:aC) (n:Nat):Int:=match s.needs[n]? with
 | some x=>x.full
 | none=>0
def G6 (p:List Order) (f n d:Nat):Bool:=(List.range p.length).any fun i=>match p[i]? with
 | some o=>decide (o.day=(d:Int)) && !f.testBit i && hasB o.bl (n:Int)
 | none=>false
theorem A7 {p:List Order} {f n d:Nat}:G6 p f n d=true ↔ ∃ i,∃ h:i < p.length,p[i].day=(d:Int)∧f.testBit i=false∧(n:Int) ∈ p[i].bl:=by
 unfold G6;rw [List.any_eq_true];constructor
 ·rintro ⟨i,hi,h⟩;have hi:=List.mem_range.1 hi;rw [List.getElem?_eq_getElem hi] at h;simp only [qq7,decide_eq_true_eq,Bool.not_eq_true',iP] at h;exact ⟨i,hi,h.1.1,h.1.2,h.2⟩
 ·rintro ⟨i,hi,h1,h2,h3⟩;refine ⟨i,List.mem_range.2 hi,?_⟩;rw [List.getElem?_eq_getElem hi];simp only [qq7,decide_eq_true_eq,Bool.not_eq_true',iP];exact ⟨⟨h1,h2⟩,h3⟩
def qX (s:aC) (p:List Order) (f n d:Nat):Int:=if n < s.needs.length then TeLaw.HO (nG s n) (jI s n) (G6 p f n) d else 0
def xe (s:aC) (p:List Order) (f n:Nat):Nat→Int
 | 0=>jI s n
 | d+1=>max 0 (qX s p f n d - 1)
theorem Ey {s:aC} {p:List Order} {f n d:Nat} (h:n < s.needs.length):qX s p f n d=if G6 p f n d=true then nG s n else xe s p f n d:=by
 unfold qX;rw [if_pos h]
 cases d with
 | zero=>rfl
 | succ d =>
  have e:xe s p f n (d+1)=max 0 (TeLaw.HO (nG s n) (jI s n) (G6 p f n) d - 1):=by show max 0 (qX s p f n d - 1)=_;unfold qX;rw [if_pos h]
  rw [e];rfl
theorem xg {s:aC} {n:Nat} (h:¬ n < s.needs.length):jI s n=0:=by unfold jI;rw [List.getElem?_eq_none (by omega)]
theorem P3 {s:aC} (hg:Good s) {n:Nat} (h:n < s.needs.length):1≤nG s n∧nG s n≤60:=by unfold nG;rw [List.getElem?_eq_getElem h];exact (hg.needs _ (List.getElem_mem h)).2.1
theorem P4 {s:aC} (hg:Good s) {n:Nat} (h:n < s.needs.length):0≤jI s n∧jI s n≤nG s n:=by unfold jI nG;rw [List.getElem?_eq_getElem h];exact (hg.needs _ (List.getElem_mem h)).2.2.1
theorem RV {s:aC} (hg:Good s) (p:List Order) (f n d:Nat):0≤qX s p f n d∧qX s p f n d≤60:=by
 unfold qX;split
 ·rename_i h;have h1:=P3 hg h;have h2:=P4 hg h;have h3:=TeLaw.Jj (full:=nG s n) (first:=jI s n) h2.2 (by omega) (G6 p f n) d;have h4:=TeLaw.P1 (full:=nG s n) (first:=jI s n) h2.1 (by omega) (G6 p f n) d;omega
 ·omega
def sI (p:List Order) (d m:Nat):Prop:=m≤p.length∧(∀ i (h:i < p.length),i < m→p[i].day < (d:Int))∧∀ i (h:i < p.length),m≤i→(d:Int)≤p[i].day
theorem RW {s:aC} {p:List Order} (hp:uN s p) {d m:Nat} (ha:sI p d m) (hm:m < p.length) (hd:p[m].day=(d:Int)) (f n:Nat):G6 p f n d=(!f.testBit m && hasB p[m].bl (n:Int)):=by
 rw [Bool.eq_iff_iff,A7,qq7,Bool.not_eq_true',iP];constructor
 ·rintro ⟨i,hi,h1,h2,h3⟩
  have:i=m:=by
   rcases Nat.lt_trichotomy i m with h|h|h
   ·have:=ha.2.1 i hi h;omega
   ·exact h
   ·have:=hp.M9 m i hm hi h;omega
  subst this;exact ⟨h2,h3⟩
 ·rintro ⟨h2,h3⟩;exact ⟨m,hm,hd,h2,h3⟩
theorem Jk {s:aC} {p:List Order} (hp:uN s p) {d m:Nat} (ha:sI p d m) (hm:m < p.length) (hd:p[m].day=(d:Int)):sI p (d+1) (m+1):=by
 refine ⟨hm,fun i h hi=>?_,fun i h hi=>?_⟩
 ·by_cases e:i=m
  ·subst e;omega
  ·have:=ha.2.1 i h (by omega);omega
 ·have:=hp.M9 m i hm h (by omega);omega
theorem FX {s:aC} {p:List Order} (hp:uN s p) {d m:Nat} (ha:sI p d m) (hd:∀ h:m < p.length,p[m].day ≠ (d:Int)) (f n:Nat):G6 p f n d=false∧sI p (d+1) m:=by
 have key:∀ i (h:i < p.length),m≤i→(d:Int) < p[i].day:=fun i h hi=>by
  by_cases e:i=m
  ·subst e;have:=ha.2.2 i h hi;have:=hd h;omega
  ·have h1:=hp.M9 m i (by omega) h (by omega);have h2:=ha.2.2 m (by omega) (qq6 _);omega
 refine ⟨?_,ha.1,fun i h hi=>?_,fun i h hi=>?_⟩
 ·rw [←Bool.not_eq_true,A7];rintro ⟨i,hi,h1,_⟩;by_cases e:i < m
  ·have:=ha.2.1 i hi e;omega
  ·have:=key i hi (by omega);omega
 ·have:=ha.2.1 i h hi;omega
 ·have:=key i h hi;omega
theorem Ez {s:aC} {p:List Order} (hp:uN s p):sI p 0 0:=⟨qq5 _,fun _ _ hi=>absurd hi (Nat.not_lt_zero _),fun _ h _=>(hp.order _ (List.getElem_mem h)).day.1⟩
abbrev nU (c:Nat→Int):List AV:=[av (c 0),av (c 1),av (c 2)]
theorem Ni (c:Nat→Int) (v:Int):∀ {i:Nat},i < 3→eX (nU c) [av v] i=nU (fun n=>if n=i then v else c n)
 | 0,_=>rfl
 | 1,_=>rfl
 | 2,_=>rfl
theorem P5 (c:Nat→Int):∀ {i:Nat},i < 3→(nU c)[i]?=some (av (c i))
 | 0,_=>rfl
 | 1,_=>rfl
 | 2,_=>rfl
theorem iz {c c':Nat→Int} (h:∀ n,n < 3→c n=c' n):nU c=nU c':=by unfold nU;rw [h 0 (by decide),h 1 (by decide),h 2 (by decide)]
abbrev Uc (s:aC) (p:List Order) (f d:Nat):AV:=.ag (nU fun n=>qX s p f n d)
def zC (s:aC) (p:List Order) (f:Nat):List (List AV):=(List.range s.days.toNat).map fun d=>[av (d:Nat),Uc s p f d]
theorem tT {s:aC} {p:List Order} {f:Nat}:(zC s p f).length=s.days.toNat:=by simp [zC]
theorem CX {s:aC} {p:List Order} {f i:Nat} (h:i < s.days.toNat):(zC s p f)[i]?=some [av (i:Nat),Uc s p f i]:=by unfold zC;rw [List.getElem?_map,List.getElem?_range h];rfl
theorem CY {s:aC} {p:List Order} {f i:Nat} {x:List AV} (h:(zC s p f)[i]?=some x):i < s.days.toNat∧x=[av (i:Nat),Uc s p f i]:=by
 have hi:i < s.days.toNat:=by have:=(List.getElem?_eq_some_iff.1 h).1;rw [tT] at this;exact this
 rw [CX hi] at h;exact ⟨hi,(Option.some.inj h).symm⟩
