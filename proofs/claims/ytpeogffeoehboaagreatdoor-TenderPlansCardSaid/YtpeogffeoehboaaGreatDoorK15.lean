/-
  Contracts of the program's functions and of the document's. Lemmas alone; their conditions stand in them.
-/
import Derived.Test.YtpeogffeoehboaaGreatDoorK14
open Go Go.RM
namespace Go.Proofs.YtpeogffeoehboaaGreatDoor
set_option maxRecDepth 100000
theorem H6 {s:ai} (hc:(l8 s).2.2=0) {q:List Order} (h8:q.length≤8) (hd:∀ o ∈ q,0≤o.day∧o.day < s.days) (ha:(q.map (·.day)).Pairwise (· < ·)) (hf:∀ o ∈ q,∃ f ∈ aI s,o.bw=aL f):(oX s q).2=0:=by refine zM hc h8 (fun o ho=>?_) (List.pairwise_map.1 ha);obtain ⟨f,h1,h2⟩:=hf o ho;have:=xD (qX hc) h1 (hd o ho);rw [←h2] at this;exact this
theorem vq {s:ai} (hg:Good s) {most y:Nat}:y ∈ nI s 0 0 0 (most:Int) ↔ y=0:=by
 rw [LZ hg];constructor
 ·rintro ⟨b,h1,_,_,h4⟩;obtain rfl:b=[]:=List.eq_nil_of_length_eq_zero h1;exact h4.symm
 ·rintro rfl;exact ⟨[],rfl,qq5 _,rfl,rfl⟩
theorem zS {s:ai} (hg:Good s):cu s [] 0 0 s.fail=cu s [] 0 0 0:=by
 have hf:=hg.fail;have e:s.fail=((s.fail.toNat:Nat):Int):=by omega
 rw [e,Bool.eq_iff_iff];unfold cu;rw [List.all_eq_true,List.all_eq_true];constructor
 ·intro h y hy;have hy:=(vq (most:=0) hg).1 hy;exact h y ((vq hg).2 hy)
 ·intro h y hy;have hy:=(vq hg).1 hy;exact h y ((vq (most:=0) hg).2 hy)
theorem xH {s:ai} {days:List Int} (hd:days.Pairwise (· < ·)) (hr:∀ x ∈ days,0≤x∧x < s.days) {p:List Order}:∀ (m fr:Nat) (ds:List Int),Me s days ds fr→cS s days m fr ds=some p→∃ D:List Int,bl s D []=some p∧D.Pairwise (· < ·)∧(∀ x ∈ D,0≤x∧x < s.days)∧∀ x ∈ D,x ∈ ds∨x ∈ days
 | 0,fr,ds,hk,h=>⟨ds,h,hk.HA,hk.day,fun x hx=>.inl hx⟩
 | m+1,fr,ds,hk,h=>by
  rw [cS,List.findSome?_eq_some_iff] at h;obtain ⟨l1,i,l2,_,h,_⟩:=h;split at h
  ·cases h
  ·rename_i hfr;by_cases hi:i < days.length
   ·rw [List.getElem?_eq_getElem hi] at h;obtain ⟨D,h1,h2,h3,h4⟩:=xH hd hr m (i+1) (ds++[days[i]]) (hk.snoc hd hr (by omega) hi) h;refine ⟨D,h1,h2,h3,fun x hx=>?_⟩
    rcases h4 x hx with h|h
    ·rcases List.mem_append.1 h with h|h
     ·exact .inl h
     ·rw [List.mem_singleton.1 h];exact .inr (List.getElem_mem hi)
    ·exact .inr h
   ·rw [List.getElem?_eq_none (by omega)] at h;cases h
theorem DF {s:ai} (hc:(l8 s).2.2=0) {p:List Order} (h:gO s s.possible=some p):(oX s p).2=0∧p.length≤6∧(∀ o ∈ p,o.day ∈ s.possible)∧Ff s p=true:=by
 have hg:=qX hc;have hm:=hg.many;obtain ⟨p1,p2⟩:=sP hg;have hdp:s.possible.Pairwise (· < ·):=List.pairwise_iff_getElem.2 fun i j hi hj hij=>p2 i j hi hj hij;have hdr:∀ x ∈ s.possible,0≤x∧x < s.days:=fun x hx=>by obtain ⟨i,hi,rfl⟩:=List.mem_iff_getElem.1 hx;exact p1 i hi
 unfold gO at h;split at h
 ·rename_i hh;cases h;have hz:(oX s []).2=0:=zM hc (qq5 _) (fun o ho=>by cases ho) .nil;exact ⟨hz,qq5 _,(fun o ho=>by cases ho),by rw [zR hz,zS hg];exact hh⟩
 ·rw [List.findSome?_eq_some_iff] at h;obtain ⟨l1,m,l2,e,h,_⟩:=h;have hml:m < s.possible.length:=List.mem_range.1 (by rw [e];simp);have hlen:=ql h;obtain ⟨D,h1,h2,h3,h4⟩:=xH hdp hdr (m+1) 0 [] ⟨qq6 _,.nil,(fun x hx=>by cases hx),fun x hx=>by cases hx⟩ h;obtain ⟨q,e2,k2,k3,k4⟩:=kX h1;rw [List.nil_append] at e2;subst e2;have hin:∀ o ∈ p,o.day ∈ D:=fun o ho=>by rw [←k2];exact List.mem_map.2 ⟨o,ho,rfl⟩
  rw [List.length_nil] at hlen;have hz:(oX s p).2=0:=H6 hc (by omega) (fun o ho=>h3 _ (hin o ho)) (by rw [k2];exact h2) k3;refine ⟨hz,by omega,fun o ho=>?_,by rw [zR hz];exact k4⟩
  rcases h4 _ (hin o ho) with h|h
  ·cases h
  ·exact h
theorem xI {α:Type} {g:Nat→Option α} (fr:Nat):∀ N:Nat,((List.range N).findSome? fun i=>if i < fr then none else g i)=(List.range (N - fr)).findSome? fun j=>g (fr+j)
 | 0=>by simp
 | N+1=>by
  rw [List.range_succ,List.findSome?_append,xI fr N];by_cases h:N < fr
  ·rw [show N+1 - fr=0 by omega,show N - fr=0 by omega];simp [h]
  ·rw [show N+1 - fr=(N - fr)+1 by omega,List.range_succ,List.findSome?_append]
   congr 1
   simp only [List.findSome?_cons,List.findSome?_nil,if_neg h];rw [show fr+(N - fr)=N by omega]
theorem DG {α:Type} {g:Nat→Option α} {N:Nat}:∀ K:Nat,N≤K→(∀ j,N≤j→j < K→g j=none)→(List.range K).findSome? g=(List.range N).findSome? g
 | 0,hk,_=>by rw [Nat.le_zero.1 hk]
 | K+1,hk,h=>by
  by_cases e:N=K+1
  ·rw [e]
  ·rw [List.range_succ,List.findSome?_append,DG K (by omega) fun j h1 h2=>h j h1 (by omega)];simp [h K (by omega) (by omega)]
theorem zT {α β γ:Type} {f:α→List β} {g:β→Option γ}:∀ l:List α,(l.flatMap f).findSome? g=l.findSome? fun x=>(f x).findSome? g
 | []=>rfl
 | a :: l=>by rw [List.flatMap_cons,List.findSome?_append,zT l,List.findSome?_cons];cases (f a).findSome? g <;> rfl
theorem find_congr {α β:Type} {f g:α→Option β}:∀ {l:List α},(∀ x ∈ l,f x=g x)→l.findSome? f=l.findSome? g
 | [],_=>rfl
 | a :: l,h=>by rw [List.findSome?_cons,List.findSome?_cons,h a List.mem_cons_self,find_congr fun x hx=>h x (List.mem_cons_of_mem _ hx)]
theorem zU {below:Int}:∀ {m:Nat} {b:List Int},below - fS b < ((m+1:Nat):Int)→dQ below (m+1) b=[]
 | 0,b,h=>by rw [dQ,show (below - fS b).toNat=0 by omega];rfl
 | m+1,b,h=>by rw [dQ,List.flatMap_eq_nil_iff];intro i hi;have hi:=List.mem_range.1 hi;exact zU (by rw [iI];omega)
def iJ (days:List Int) (l:List Int):List Int:=l.map fun i=>days.getD i.toNat 0
theorem DH {s:ai} {days:List Int}:∀ (m:Nat) (b:List Int),0≤fS b→cS s days m (fS b).toNat (iJ days b)=(dQ days.length m b).findSome? fun l=>bl s (iJ days l) []
 | 0,b,_=>by rw [cS,dQ];simp
 | m+1,b,hb=>by
  rw [cS,dQ,zT,xI];have hk:((days.length:Int) - fS b).toNat=days.length - (fS b).toNat:=by omega
  rw [hk,DG (N:=days.length - m - (fS b).toNat) (days.length - (fS b).toNat) (by omega) fun j h1 h2=>?_]
  ·refine find_congr fun j hj=>?_;have hj:=List.mem_range.1 hj;have hlt:(fS b).toNat+j < days.length:=by omega
   rw [List.getElem?_eq_getElem hlt];have ih:=DH (s:=s) (days:=days) m (b++[fS b+(j:Nat)]) (by rw [iI];omega);rw [←ih,iI];have e1:(fS b+(j:Nat)+1).toNat=(fS b).toNat+j+1:=by omega
   have e2:iJ days (b++[fS b+(j:Nat)])=iJ days b++[days[(fS b).toNat+j]]:=by unfold iJ;rw [List.map_append];simp only [List.map_cons,List.map_nil];rw [show (fS b+(j:Nat)).toNat=(fS b).toNat+j by omega,fT hlt]
   rw [e1,e2]
  ·cases m with
   | zero=>omega
   | succ m =>rw [zU (by rw [iI];omega)];rfl
theorem NI {s:ai} (hg:Good s) (days:List Int):gO s days=(List.range (days.length+1)).findSome? fun m=>(dQ days.length m []).findSome? fun l=>bl s (iJ days l) []:=by
 rw [List.range_succ_eq_map,List.findSome?_cons,List.findSome?_map]
 have h0:((dQ days.length 0 []).findSome? fun l=>bl s (iJ days l) [])=if cu s [] 0 0 0=true then some [] else none:=by
  show ([[]]:List (List Int)).findSome? (fun l=>bl s (iJ days l) [])=_;have e:bl s (iJ days []) []=if cu s [] 0 0 0=true then some [] else none:=by show bl s [] []=_;rw [bl,zS hg]
  simp only [List.findSome?_cons,List.findSome?_nil,e];by_cases h:cu s [] 0 0 0=true
  ·rw [if_pos h]
  ·rw [if_neg h]
 rw [h0];unfold gO;by_cases h:cu s [] 0 0 0=true
 ·rw [if_pos h,if_pos h]
 ·rw [if_neg h,if_neg h];refine find_congr fun m _=>?_;exact DH (s:=s) (days:=days) (m+1) [] (Int.le_refl _)
theorem H7 {s:ai} (hg:Good s) {p:List Order}:cu s p 0 0 ((min s.fail.toNat p.length:Nat):Int)=cu s p 0 0 s.fail:=by
 unfold cu;rw [Bool.eq_iff_iff,List.all_eq_true,List.all_eq_true];constructor
 ·intro h y hy;exact h y ((Dv hg y).2 hy)
 ·intro h y hy;exact h y ((Dv hg y).1 hy)
