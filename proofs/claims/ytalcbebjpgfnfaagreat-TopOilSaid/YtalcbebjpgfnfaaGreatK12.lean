/-
  Contracts of the program's functions and of the document's. Lemmas alone; their conditions stand in them.
-/
import Derived.Test.YtalcbebjpgfnfaaGreatA3
import Derived.Test.YtalcbebjpgfnfaaGreatK8
import Derived.Test.YtalcbebjpgfnfaaGreatK9
import Derived.Test.YtalcbebjpgfnfaaGreatK11
open Go Go.RM
namespace Go.Proofs.YtalcbebjpgfnfaaGreat.St
set_option maxRecDepth 100000
set_option maxHeartbeats 4000000
def oJ (au:List Int) (k:Kind) (row:List Int) (f:List Count) (m p:Int):Int :=
 k.first.lo+bs (fun i=>cu au k row f false ⟨k.first.lo+(i:Int),m,p⟩) 0 (av k.first)
def jl (au:List Int) (k:Kind) (row:List Int) (f:List Count) (m p:Int):Int :=
 k.first.lo+bs (fun i=>cu au k row f true ⟨k.first.lo+(i:Int),m,p⟩) 0 (av k.first) - 1
def mV (au:List Int) (k:Kind) (row:List Int) (f:List Count) (m p:Int):Option (aE × aE) :=
 if oJ au k row f m p≤jl au k row f m p then some (⟨oJ au k row f m p,m,p⟩,⟨jl au k row f m p,m,p⟩) else none
def oF (au:List Int) (k:Kind) (row:List Int) (f:List Count) (q:Nat):Option (aE × aE) :=
 mV au k row f (k.aR.lo+(q / av k.ay:Nat)) (k.ay.lo+(q % av k.ay:Nat))
def pairs (au:List Int) (k:Kind) (row:List Int) (f:List Count) (n:Nat):List (aE × aE):=(List.range n).filterMap (oF au k row f)
def bu (au:List Int) (k:Kind) (row:List Int) (f:List Count):List (aE × aE):=pairs au k row f (av k.aR * av k.ay)
abbrev CT (x:aE × aE):List AV:=[.ag (aV x.1),.ag (aV x.2)]
theorem og (au:List Int) (k:Kind) (row:List Int) (f:List Count) (n:Nat):pairs au k row f (n+1)=pairs au k row f n++(oF au k row f n).toList:=by
 unfold pairs
 rw [List.range_succ,List.filterMap_append]
 cases h:oF au k row f n <;> simp [h]
theorem Ba (au:List Int) (k:Kind) (row:List Int) (f:List Count) {n m:Nat} (h:n≤m):∃ l,pairs au k row f m=pairs au k row f n++l:=by
 induction h with
 | refl=>exact ⟨[],by simp⟩
 | step _ ih =>
  obtain ⟨l,hl⟩:=ih
  exact ⟨l++(oF au k row f _).toList,by rw [og,hl,List.append_assoc]⟩
theorem tc (au:List Int) (k:Kind) (row:List Int) (f:List Count) {n m:Nat} (h:n < m) {x:aE × aE} (hx:oF au k row f n=some x):(pairs au k row f m)[(pairs au k row f n).length]?=some x:=by
 obtain ⟨l,hl⟩:=Ba au k row f (show n+1≤m from h)
 rw [hl,og,hx]
 simp
theorem IE (au:List Int) (k:Kind) (row:List Int) (f:List Count) {m p:Nat} (hp:p < av k.ay):oF au k row f (m * av k.ay+p)=mV au k row f (k.aR.lo+m) (k.ay.lo+p):=by
 unfold oF
 rw [Nat.mul_comm,Nat.mul_add_div (by omega),Nat.div_eq_of_lt hp,Nat.mul_add_mod,Nat.mod_eq_of_lt hp,Nat.add_zero]
theorem lR.run {s:aB} {k:Kind} {row:List Int} {f:List Count} (h:lR s k row f) {n m p:Int} (hn:k.first.lo≤n∧n≤k.first.hi) (hm:k.aR.lo≤m∧m≤k.aR.hi) (hp:k.ay.lo≤p∧p≤k.ay.hi):eK s.au k row ⟨n,m,p⟩:=by
 have h8:=fo h.good.sizes
 have h1:=h.kind.first
 have h2:=h.kind.aR
 have h3:=h.kind.ay
 exact ⟨by omega,h.good.au,h.row,h.kind.room,h.kind.cJ,by dsimp only;omega,by dsimp only;omega,by dsimp only;omega⟩
theorem xH (one:Bool) {s:aB} {k:Kind} {row:List Int} {f:List Count} :
  Pu one 91 [.ag (aF s k row (.sl (f.map aG) false))] (.fn 132 [] [.pt (aF s k row (.sl (f.map aG) false)) 0]):=by
 refine af.body (fn:=Tryz.f91) rfl rfl rfl rfl ?_
 refine aa (mu:=fun _=>false) ?_
 repeat' (first |refine ⟨rfl,gu,gP,?_⟩ |refine u1 ?_ |fail)
 exact ⟨[_],⟨Fz.deep rfl,trivial⟩,rfl⟩
theorem xI (one : Bool) {s : aB} {k : Kind} {row : List Int} {f : List Count} (h : lR s k row f) :
    lD TT TB one (.fn 132 [] [.pt (aF s k row (.sl (f.map aG) false)) 0]) ((bu s.au k row f).map CT) := by
  have h30 := h.row.len
  have k1 := h.kind.first
  have k2 := h.kind.aR
  have k3 := h.kind.ay
  have em : ((av k.aR : Nat) : Int) = k.aR.hi - k.aR.lo + 1 := by unfold av; omega
  have ep : ((av k.ay : Nat) : Int) = k.ay.hi - k.ay.lo + 1 := by unfold av; omega
  have ef : ((av k.first : Nat) : Int) = k.first.hi - k.first.lo + 1 := by unfold av; omega
  have hdp : (AV.pt (aF s k row (.sl (f.map aG) false)) 0).deep = true := rfl
  refine lD.body (fn := Tryz.f132) rfl rfl rfl rfl (fun x hx a ha => ?_) fun u J Stop hy => ?_
  · obtain ⟨y, _, rfl⟩ := List.mem_map.1 hx
    simp only [List.mem_cons, List.not_mem_nil, or_false] at ha
    rcases ha with rfl | rfl
    · exact ej.ag fun b hb => by simp only [List.mem_cons, List.not_mem_nil, or_false] at hb; rcases hb with rfl | rfl | rfl <;> exact ej.fl _
    · exact ej.ag fun b hb => by simp only [List.mem_cons, List.not_mem_nil, or_false] at hb; rcases hb with rfl | rfl | rfl <;> exact ej.fl _
  rw [List.length_map]
  refine aa (mu := fun _ => false) ?_
  repeat' (first |refine u1 ?_ |refine u2 ?_ |fail)
  rw [← em, show J 0 = J (pairs s.au k row f (0 * av k.ay)).length by rw [Nat.zero_mul]; rfl]
  refine az.aK (ai.to (l := [(0, .oq u), (1, .pt (aF s k row (.sl (f.map aG) false)) 0), (18, ah (av k.aR)), (19, ah ((0 : Nat) : Int))]) (hp := []) 0 rfl ⟨rfl, rfl, rfl, rfl, trivial⟩ (Nat.zero_le _) rfl rfl) ?_
  refine az.loop (fun m : Nat => m ≤ av k.aR) (fun m => ⟨aX [(0, .oq u), (1, .pt (aF s k row (.sl (f.map aG) false)) 0), (18, ah (av k.aR)), (19, ah (m : Int))], [], J (pairs s.au k row f (m * av k.ay)).length, false, 0⟩) (fun m => av k.aR - m) ?_ 0 (Nat.zero_le _)
  intro m hm
  refine aa (mu := fun _ => false) ?_
  repeat' (first |refine u1 ?_ |fail)
  refine RM.e1 rfl ⟨fun hc => ?_, fun hc => ?_⟩
  · have hm1 : m < av k.aR := by simpa using hc
    repeat' (first |refine u1 ?_ |refine u2 ?_ |fail)
    rw [← ep]
    refine az.aK (ai.to (l := [(0, .oq u), (1, .pt (aF s k row (.sl (f.map aG) false)) 0), (3, ah m), (18, ah (av k.aR)), (19, ah m), (31, ah (av k.ay)), (32, ah ((0 : Nat) : Int))]) (hp := []) 0 rfl ⟨rfl, rfl, rfl, rfl, rfl, rfl, rfl, trivial⟩ (Nat.zero_le _) rfl rfl) ?_
    refine az.loop (fun p : Nat => p ≤ av k.ay) (fun p => ⟨aX [(0, .oq u), (1, .pt (aF s k row (.sl (f.map aG) false)) 0), (3, ah m), (18, ah (av k.aR)), (19, ah m), (31, ah (av k.ay)), (32, ah (p : Int))], [], J (pairs s.au k row f (m * av k.ay + p)).length, false, 0⟩) (fun p => av k.ay - p) ?_ 0 (Nat.zero_le _)
    intro p hp
    refine RM.de (mu := fun _ => false) ?_
    repeat' (first |refine u1 ?_ |fail)
    refine RM.de (mu := fun _ => false) ?_
    refine RM.e1 rfl ⟨fun hc => ?_, fun hc => ?_⟩
    · have hp1 : p < av k.ay := by simpa using hc
      have hq : m * av k.ay + p < av k.aR * av k.ay := by
        have : (m + 1) * av k.ay ≤ av k.aR * av k.ay := Nat.mul_le_mul_right _ hm1
        rw [Nat.add_mul, Nat.one_mul] at this
        omega
      have hus := IE s.au k row f (m := m) hp1
      have hsucc := og s.au k row f (m * av k.ay + p)
      have hat := fun x => tc s.au k row f hq (x := x)
      rw [hus] at hsucc hat
      have hrun : ∀ n : Int, k.first.lo ≤ n ∧ n ≤ k.first.hi → eK s.au k row ⟨n, k.aR.lo + m, k.ay.lo + p⟩ := fun n hn => h.run hn (by omega) (by omega)
      have hle := fun b => Ff true 134 [] [.pt (aF s k row (.sl (f.map aG) false)) 0, .pt (aV ⟨0, k.aR.lo + m, k.ay.lo + p⟩) 0, .pt [BB b] 0] rfl k.first.lo (av k.first) (by omega) (by omega) (fun n => cu s.au k row f b ⟨n, k.aR.lo + m, k.ay.lo + p⟩) (fun i hi => ID true b h ⟨0, k.aR.lo + m, k.ay.lo + p⟩ (k.first.lo + i) (hrun _ (by omega)))
      rw [show k.first.lo + (av k.first : Int) - 1 = k.first.hi by omega] at hle
      have hlo : oJ s.au k row f (k.aR.lo + m) (k.ay.lo + p) = k.first.lo + bs (fun i => cu s.au k row f false ⟨k.first.lo + (i : Int), k.aR.lo + m, k.ay.lo + p⟩) 0 (av k.first) := rfl
      have hhi : jl s.au k row f (k.aR.lo + m) (k.ay.lo + p) = k.first.lo + bs (fun i => cu s.au k row f true ⟨k.first.lo + (i : Int), k.aR.lo + m, k.ay.lo + p⟩) 0 (av k.first) - 1 := rfl
      have hb1 := (pq (fun i => cu s.au k row f true ⟨k.first.lo + (i : Int), k.aR.lo + m, k.ay.lo + p⟩) 0 (av k.first) (Nat.zero_le _)).2
      have hl0 := hle false
      have hl1 := hle true
      rw [← hlo] at hl0
      generalize bs (fun i => cu s.au k row f true ⟨k.first.lo + (i : Int), k.aR.lo + m, k.ay.lo + p⟩) 0 (av k.first) = r1 at hl1 hhi hb1
      repeat' (first |refine u1 ?_ |fail)
      refine az.seq ?_
      refine az.block ?_
      refine RM.de (mu := fun _ => false) ?_
      repeat' (first |refine u1 ?_ |fail)
      refine RM.de (mu := fun _ => false) ?_
      repeat' (first |refine u1 ?_ |refine u2 ?_ |fail)
      refine az.aK (ai.giveUp 0 (l := [(0, .oq u), (1, .pt (aF s k row (.sl (f.map aG) false)) 0), (3, ah m), (5, .pt (aV ⟨0, k.aR.lo + m, k.ay.lo + p⟩) 0), (18, ah (av k.aR)), (19, ah m), (31, ah (av k.ay)), (32, ah (p : Int))]) (hp := [.gone]) rfl (Nat.le_refl _) rfl ⟨.same rfl, .same rfl, .same rfl, .ptr, .same rfl, .same rfl, .same rfl, .same rfl, trivial⟩ rfl rfl) ?_
      refine aa (mu := fun _ => false) ?_
      repeat' (first |refine ⟨_, _, .inl ⟨rfl, rfl⟩, CS true false _ _, ?_⟩ |refine ⟨_, _, .inl ⟨rfl, rfl⟩, CS true true _ _, ?_⟩ |refine ⟨_, _, .inl ⟨rfl, rfl⟩, hl0, ?_⟩ |refine ⟨_, _, .inl ⟨rfl, rfl⟩, hl1, ?_⟩ |refine u1 ?_ |with_reducible refine RM.EL rfl ?_ |refine u2 ?_ |fail)
      rw [← hhi]
      by_cases hd : oJ s.au k row f (k.aR.lo + m) (k.ay.lo + p) ≤ jl s.au k row f (k.aR.lo + m) (k.ay.lo + p)
      · have hdd := decide_eq_true hd
        have hpa : mV s.au k row f (k.aR.lo + m) (k.ay.lo + p) = some (⟨oJ s.au k row f (k.aR.lo + m) (k.ay.lo + p), k.aR.lo + m, k.ay.lo + p⟩, ⟨jl s.au k row f (k.aR.lo + m) (k.ay.lo + p), k.aR.lo + m, k.ay.lo + p⟩) := by unfold mV; rw [if_pos hd]
        have hx := hat _ hpa
        have e1 : (pairs s.au k row f (m * av k.ay + (p + 1))).length = (pairs s.au k row f (m * av k.ay + p)).length + 1 := by rw [← Nat.add_assoc, hsucc, hpa]; simp
        repeat' (first |refine u1 ?_ |refine u2 ?_ |fail)
        have hyx := hy _ (CT (⟨oJ s.au k row f (k.aR.lo + m) (k.ay.lo + p), k.aR.lo + m, k.ay.lo + p⟩, ⟨jl s.au k row f (k.aR.lo + m) (k.ay.lo + p), k.aR.lo + m, k.ay.lo + p⟩)) (by rw [List.getElem?_map]; exact congrArg (Option.map CT) hx)
        refine bl.mono (hyx _) (fun a hp' amb' hq => ?_)
        obtain ⟨rfl, b, rfl, hb⟩ := hq
        rcases hb with ⟨rfl, rfl⟩ | ⟨rfl, hstop⟩
        · repeat' (first |refine u1 ?_ |fail)
          refine aa (mu := fun _ => false) ?_
          repeat' (first |refine u1 ?_ |fail)
          refine ⟨p + 1, hp1, (by dsimp only; omega), ?_⟩
          show ai _ ⟨aX [(0, .oq u), (1, .pt (aF s k row (.sl (f.map aG) false)) 0), (3, ah m), (18, ah (av k.aR)), (19, ah m), (31, ah (av k.ay)), (32, ah ((p + 1 : Nat) : Int))], [], J (pairs s.au k row f (m * av k.ay + (p + 1))).length, false, 0⟩
          rw [e1]
          exact ai.to 0 rfl ⟨rfl, rfl, rfl, rfl, rfl, rfl, aH (by simp), trivial⟩ (Nat.zero_le _) rfl rfl
        · repeat' (first |refine u1 ?_ |fail)
          exact Or.inr hstop
      · have hdd := decide_eq_false hd
        have hpa : mV s.au k row f (k.aR.lo + m) (k.ay.lo + p) = none := by unfold mV; rw [if_neg hd]
        have e1 : (pairs s.au k row f (m * av k.ay + (p + 1))).length = (pairs s.au k row f (m * av k.ay + p)).length := by rw [← Nat.add_assoc, hsucc, hpa]; simp
        repeat' (first |refine u1 ?_ |fail)
        refine aa (mu := fun _ => false) ?_
        repeat' (first |refine u1 ?_ |fail)
        refine ⟨p + 1, hp1, (by dsimp only; omega), ?_⟩
        show ai _ ⟨aX [(0, .oq u), (1, .pt (aF s k row (.sl (f.map aG) false)) 0), (3, ah m), (18, ah (av k.aR)), (19, ah m), (31, ah (av k.ay)), (32, ah ((p + 1 : Nat) : Int))], [], J (pairs s.au k row f (m * av k.ay + (p + 1))).length, false, 0⟩
        rw [e1]
        exact ai.to 0 rfl ⟨rfl, rfl, rfl, rfl, rfl, rfl, aH (by simp), trivial⟩ (Nat.zero_le _) rfl rfl
    · have hp0 : ¬ p < av k.ay := by simpa using hc
      have hp1 : p = av k.ay := by omega
      subst hp1
      repeat' (first |refine u1 ?_ |refine u2 ?_ |fail)
      refine ⟨m + 1, hm1, (by dsimp only; omega), ?_⟩
      show ai _ ⟨aX [(0, .oq u), (1, .pt (aF s k row (.sl (f.map aG) false)) 0), (18, ah (av k.aR)), (19, ah ((m + 1 : Nat) : Int))], [], J (pairs s.au k row f ((m + 1) * av k.ay)).length, false, 0⟩
      rw [Nat.add_mul, Nat.one_mul]
      exact ai.to 0 rfl ⟨rfl, rfl, rfl, aH (by simp), trivial⟩ (Nat.zero_le _) rfl rfl
  · have hm0 : ¬ m < av k.aR := by simpa using hc
    have hm1 : m = av k.aR := by omega
    subst hm1
    repeat' (first |refine u1 ?_ |fail)
    exact Or.inl rfl
end Go.Proofs.YtalcbebjpgfnfaaGreat.St
open Go Go.RM
namespace Go.Proofs.YtalcbebjpgfnfaaGreat.St
set_option maxRecDepth 100000
set_option maxHeartbeats 4000000
theorem jk {s:aB} {k:Kind} {row:List Int} {c:List (List AV)} {b:Bool} {l:List AV} (h:bw l=true):bw (.ag (aF s k row (.sl c b)) :: l)=true:=by
 show ((AV.ag (aF s k row (.sl c b))).deep && bw l)=true
 rw [iJ rfl,h]
 rfl
theorem Lh {own:Bool} {fr:Nat→AV} {hp:List AB} {K:AV→List AB→Prop} {x:Operand} {s:aB} {k:Kind} {row:List Int} {c:AV} (h:row.length=30) (hx:aQ fr x=.pt (aF s k row c) 0) (hk:K (.ag (aF s k row c)) hp):RM.wpOp TT own (.load 114 x) fr hp K:=by
 show fT TT 114 (aQ fr x) hp K
 rw [hx]
 refine And.intro (by rw [dS h];exact Nat.le_refl _) ?_
 rw [nA h]
 exact hk
theorem Bb {L:List (aE × aE)} {i:Nat} {x:List AV} (h:(L.map CT)[i]?=some x):∃ y,L[i]?=some y∧x=CT y:=by
 rw [List.getElem?_map,Option.map_eq_some_iff] at h
 obtain ⟨y,h1,h2⟩:=h
 exact ⟨y,h1,h2.symm⟩
theorem Fg (one:Bool) {s:aB} {k:Kind} {row:List Int} {f:List Count} (h:lR s k row f) :
  Pu one 55 [.ag (aF s k row (.sl (f.map aG) false))] (ah (if bu s.au k row f=[] then 9 else 0)):=by
 have h30:=h.row.len
 have htr:=xH one (s:=s) (k:=k) (row:=row) (f:=f)
 have hg:=xI one h
 by_cases he:bu s.au k row f=[]
 ·rw [if_pos he]
  rw [he] at hg
  refine af.body (fn:=Tryz.f55) rfl rfl rfl rfl ?_
  refine RM.de (mu:=fun _=>false) ?_
  repeat' (first |refine ⟨rfl,gu,gP,?_⟩ |refine u1 ?_ |refine u2 ?_ |fail)
  refine RM.de (mu:=fun _=>false) ?_
  repeat' (first |refine Lh h30 rfl ?_ |refine u1 ?_ |refine af.call htr rfl (jk rfl) ?_ |fail)
  refine az.range (xs:=[]) (fun _=>[.cells [ah 0] 0 0]) (fun _=>bN.none) (fun _=>True) rfl hg rfl rfl trivial (fun i x hx _=>by cases hx) (fun _=>?_)
  repeat' (first |refine u1 ?_ |fail)
  refine aa (mu:=fun _=>false) ?_
  repeat' (first |refine u1 ?_ |refine u2 ?_ |fail)
  exact ⟨[_],⟨Fz.deep rfl,trivial⟩,rfl⟩
 ·rw [if_neg he]
  refine af.body (fn:=Tryz.f55) rfl rfl rfl rfl ?_
  refine RM.de (mu:=fun _=>false) ?_
  repeat' (first |refine ⟨rfl,gu,gP,?_⟩ |refine u1 ?_ |refine u2 ?_ |fail)
  refine RM.de (mu:=fun _=>false) ?_
  repeat' (first |refine Lh h30 rfl ?_ |refine u1 ?_ |refine af.call htr rfl (jk rfl) ?_ |fail)
  refine az.range (fun _=>[.cells [ah 0] 0 0]) (fun _=>bN.none) (fun i=>i=0) rfl hg rfl rfl rfl (fun i x hx hi=>?_) (fun hn=>?_)
  ·subst hi
   obtain ⟨y,hy,rfl⟩:=Bb hx
   refine ⟨rfl,?_⟩
   refine aa (mu:=fun _=>false) ?_
   repeat' (first |refine u1 ?_ |refine u2 ?_ |fail)
   refine aa (mu:=fun _=>false) ?_
   repeat' (first |refine u1 ?_ |refine u2 ?_ |fail)
   exact ⟨[_],⟨Fz.deep rfl,trivial⟩,rfl⟩
  ·exact absurd (List.length_eq_zero_iff.1 (by simpa using hn)) he
theorem Fh (one:Bool) {s:aB} {k:Kind} {row:List Int} {cnts:List (List AV)} {t:aE} {down:Int} (h:eK s.au k row t) :
  Pu one 99 [.ag (aF s k row (.sl cnts false)),.ag (aV t),ah down] (ah (bD s.au k row t down s.au.length)):=by
 have h30:=h.row.len
 have hr:=Lf one s k row cnts t down h
 refine af.body (fn:=Tryz.f99) rfl rfl rfl rfl ?_
 refine aa (mu:=fun _=>false) ?_
 repeat' (first |refine ⟨rfl,gu,gP,?_⟩ |refine Lh h30 rfl ?_ |refine u1 ?_ |refine u2 ?_ |refine af.call hr rfl (jk rfl) ?_ |fail)
 exact ⟨[_],⟨Fz.deep rfl,trivial⟩,rfl⟩
structure Ko where
 t:aE
 day:Int
 e:Int
def lS (sh:aE→Int) (x:Ko) (y:aE × aE):Ko:=if sh y.1 < x.day∨sh y.1=x.day∧y.1.first < x.t.first then ⟨y.1,sh y.1,0⟩ else x
def iL (n:Nat) (sh:aE→Int) (L:List (aE × aE)):Ko:=L.foldl (lS sh) ⟨⟨0,0,0⟩,(n:Int)+1,9⟩
def bA (au:List Int) (k:Kind) (row:List Int) (t:aE):Int:=bD au k row t au.length au.length
theorem uY {s:aB} {k:Kind} {row:List Int} {f:List Count} (h:lR s k row f) {y:aE × aE} (hy:y ∈ bu s.au k row f) :
  (eK s.au k row y.1∧eK s.au k row y.2)∧(k.first.lo≤y.1.first∧y.1.first≤y.2.first∧y.2.first≤k.first.hi)∧(k.aR.lo≤y.1.aR∧y.1.aR≤k.aR.hi∧y.2.aR=y.1.aR)∧(k.ay.lo≤y.1.ay∧y.1.ay≤k.ay.hi∧y.2.ay=y.1.ay):=by
 have k1:=h.kind.first
 have k2:=h.kind.aR
 have k3:=h.kind.ay
 unfold bu pairs at hy
 rw [List.mem_filterMap] at hy
 obtain ⟨q,hq,hy⟩:=hy
 rw [List.mem_range] at hq
 unfold oF mV at hy
 split at hy
 ·rename_i hle
  cases hy
  have hpos:0 < av k.ay:=by unfold av;omega
  have h1:q / av k.ay < av k.aR:=Nat.div_lt_of_lt_mul (by rw [Nat.mul_comm];exact hq)
  have h2:=Nat.mod_lt q hpos
  have em:((av k.aR:Nat):Int)=k.aR.hi - k.aR.lo+1:=by unfold av;omega
  have ep:((av k.ay:Nat):Int)=k.ay.hi - k.ay.lo+1:=by unfold av;omega
  have ef:((av k.first:Nat):Int)=k.first.hi - k.first.lo+1:=by unfold av;omega
  have b1:=(pq (fun i=>cu s.au k row f false ⟨k.first.lo+(i:Int),k.aR.lo+(q / av k.ay:Nat),k.ay.lo+(q % av k.ay:Nat)⟩) 0 (av k.first) (Nat.zero_le _)).2
  have b2:=(pq (fun i=>cu s.au k row f true ⟨k.first.lo+(i:Int),k.aR.lo+(q / av k.ay:Nat),k.ay.lo+(q % av k.ay:Nat)⟩) 0 (av k.first) (Nat.zero_le _)).2
  have c1:oJ s.au k row f (k.aR.lo+(q / av k.ay:Nat)) (k.ay.lo+(q % av k.ay:Nat))=k.first.lo+bs (fun i=>cu s.au k row f false ⟨k.first.lo+(i:Int),k.aR.lo+(q / av k.ay:Nat),k.ay.lo+(q % av k.ay:Nat)⟩) 0 (av k.first):=rfl
  have c2:jl s.au k row f (k.aR.lo+(q / av k.ay:Nat)) (k.ay.lo+(q % av k.ay:Nat))=k.first.lo+bs (fun i=>cu s.au k row f true ⟨k.first.lo+(i:Int),k.aR.lo+(q / av k.ay:Nat),k.ay.lo+(q % av k.ay:Nat)⟩) 0 (av k.first) - 1:=rfl
  generalize bs (fun i=>cu s.au k row f false ⟨k.first.lo+(i:Int),k.aR.lo+(q / av k.ay:Nat),k.ay.lo+(q % av k.ay:Nat)⟩) 0 (av k.first)=r1 at b1 c1
  generalize bs (fun i=>cu s.au k row f true ⟨k.first.lo+(i:Int),k.aR.lo+(q / av k.ay:Nat),k.ay.lo+(q % av k.ay:Nat)⟩) 0 (av k.first)=r2 at b2 c2
  generalize q / av k.ay=m at *
  generalize q % av k.ay=p at *
  refine ⟨⟨h.run (by omega) (by omega) (by omega),h.run (by omega) (by omega) (by omega)⟩,by dsimp only;omega,by dsimp only;omega,by dsimp only;omega⟩
 ·cases hy
theorem D7 (one:Bool) {s:aB} {k:Kind} {row:List Int} {f:List Count} (h:lR s k row f) :
  Pu one 52 [.ag (aF s k row (.sl (f.map aG) false))] (.tp [.ag (aV (iL s.au.length (bA s.au k row) (bu s.au k row f)).t),ah (iL s.au.length (bA s.au k row) (bu s.au k row f)).day,ah (iL s.au.length (bA s.au k row) (bu s.au k row f)).e]):=by
 have em:((s.au.map eI).length:Int)=s.au.length:=by simp
 have h8:=fo h.good.sizes
 have h30:=h.row.len
 have htr:=xH one (s:=s) (k:=k) (row:=row) (f:=f)
 have hg:=xI one h
 have hsh:=fun (y:aE × aE) (hy:y ∈ bu s.au k row f)=>Fh (one:=one) (cnts:=f.map aG) (down:=s.au.length) (uY h hy).1.1
 rw [←em] at hsh
 generalize bu s.au k row f=L at hg hsh ⊢
 have hst:∀ i,iL s.au.length (bA s.au k row) (L.take i)=(L.take i).foldl (lS (bA s.au k row)) ⟨⟨0,0,0⟩,(s.au.length:Int)+1,9⟩:=fun _=>rfl
 refine af.body (fn:=Tryz.f52) rfl rfl rfl rfl ?_
 refine RM.de (mu:=fun _=>false) ?_
 repeat' (first |refine ⟨rfl,gu,gP,?_⟩ |refine u1 ?_ |refine u2 ?_ |fail)
 refine RM.de (mu:=fun _=>false) ?_
 repeat' (first |refine u1 ?_ |refine u2 ?_ |fail)
 refine RM.de (mu:=fun _=>false) ?_
 repeat' (first |refine Lh h30 rfl ?_ |refine u1 ?_ |refine af.call htr rfl (jk rfl) ?_ |fail)
 rw [em]
 refine az.range (fun i=>[.cells (aV (iL s.au.length (bA s.au k row) (L.take i)).t) 0 0,.cells [ah (iL s.au.length (bA s.au k row) (L.take i)).day] 0 0,.cells [ah (iL s.au.length (bA s.au k row) (L.take i)).e] 0 0]) (fun _=>bN.none) (fun _=>True) rfl hg rfl rfl trivial (fun i x hx _=>?_) (fun _=>?_)
 ·obtain ⟨y,hy,rfl⟩:=Bb hx
  have hsh:=hsh y (List.mem_of_getElem? hy)
  have hn:iL s.au.length (bA s.au k row) (L.take (i+1))=lS (bA s.au k row) (iL s.au.length (bA s.au k row) (L.take i)) y:=ur hy
  rw [hn]
  generalize iL s.au.length (bA s.au k row) (L.take i)=z at *
  rw [show bD s.au k row y.1 ((s.au.map eI).length:Int) s.au.length=bA s.au k row y.1 by rw [em];rfl] at hsh
  unfold lS
  generalize bA s.au k row y.1=n at *
  refine ⟨rfl,?_⟩
  refine aa (mu:=fun _=>false) ?_
  repeat' (first |refine u1 ?_ |refine u2 ?_ |fail)
  refine aa (mu:=fun _=>false) ?_
  repeat' (first |refine Lh h30 rfl ?_ |refine u1 ?_ |refine u2 ?_ |refine af.call hsh rfl (jk rfl) ?_ |fail)
  by_cases h1:n < z.day
  ·have d1:=decide_eq_true h1
   rw [if_pos (Or.inl h1)]
   repeat' (first |refine u1 ?_ |refine u2 ?_ |fail)
   exact ⟨_,ai.to (l:=[]) 3 rfl trivial (Nat.le_refl _) rfl rfl⟩
  ·have d1:=decide_eq_false h1
   by_cases h2:n=z.day
   ·have d2:=decide_eq_true h2
    by_cases h3:y.1.first < z.t.first
    ·have d3:=decide_eq_true h3
     rw [if_pos (Or.inr ⟨h2,h3⟩)]
     repeat' (first |refine u1 ?_ |refine u2 ?_ |fail)
     exact ⟨_,ai.to (l:=[]) 3 rfl trivial (Nat.le_refl _) rfl rfl⟩
    ·have d3:=decide_eq_false h3
     rw [if_neg (fun h=>h.elim h1 fun h=>h3 h.2)]
     repeat' (first |refine u1 ?_ |refine u2 ?_ |fail)
     exact ⟨_,ai.to (l:=[]) 3 rfl trivial (Nat.le_refl _) rfl rfl⟩
   ·have d2:=decide_eq_false h2
    rw [if_neg (fun h=>h.elim h1 fun h=>h2 h.1)]
    repeat' (first |refine u1 ?_ |refine u2 ?_ |fail)
    exact ⟨_,ai.to (l:=[]) 3 rfl trivial (Nat.le_refl _) rfl rfl⟩
 ·rw [List.take_of_length_le (by simp)]
  repeat' (first |refine u1 ?_ |fail)
  refine aa (mu:=fun _=>false) ?_
  repeat' (first |refine u1 ?_ |with_reducible refine RM.EL rfl ?_ |refine u2 ?_ |fail)
  exact ⟨[_,_,_],⟨Fz.deep rfl,Fz.deep rfl,Fz.deep rfl,trivial⟩,rfl⟩
end Go.Proofs.YtalcbebjpgfnfaaGreat.St
open Go Go.RM
namespace Go.Proofs.YtalcbebjpgfnfaaGreat.St
set_option maxRecDepth 100000
set_option maxHeartbeats 4000000
def uw (s:aB) (c:Count):Int :=
 if aM 0 ((s.kinds.length:Int) - 1) [c.kind] then 4
 else if aM 0 (s.au.length:Int) [c.day] || aM 0 600 [c.cz.lo,c.cz.hi] then 7
 else if decide (c.cz.hi < c.cz.lo) then 2 else 0
def D8 (s:aB) (l:List Count) (i:Nat):Int:=match l[i]? with|some c=>uw s c|none=>0
def dY (s:aB) (l:List Count):Int :=
 if (ir s).2.2 ≠ 0 then (ir s).2.2 else if 8 < (l.length:Int) then 3 else (bT l.length (D8 s l)).2
theorem D9 (s:aB) (i:Int) (c:Count) (hk:s.kinds.length≤maxLen) (one:Bool):af TT TB one (.fn 139 [] [.pt (aO s) 0]) [ah i,.ag (aG c)] (ah (uw s c)):=by
 unfold maxLen at hk
 unfold uw
 have e1:((s.kinds.map bG).length:Int)=s.kinds.length:=by simp
 have e2:((s.au.map eI).length:Int)=s.au.length:=by simp
 refine af.body (fn:=Tryz.f139) rfl rfl rfl rfl ?_
 refine aa (mu:=fun _=>false) ?_
 repeat' (first |refine u1 ?_ |refine u2 ?_ |refine af.call (cX one _ _ _ _ rfl (Nat.le_of_ble_eq_true rfl)) rfl rfl ?_ |((with_reducible show cC _ _ _ _ _);refine mU rfl rfl (fun h=>?_) (fun h=>?_)) |((with_reducible show mT _ _ _ _ (.cond _ _ _) _ _);refine RM.e1 rfl ⟨fun h=>?_,fun h=>?_⟩) |fail)
 all_goals refine ⟨[_],⟨Fz.deep rfl,trivial⟩,aH ?_⟩
 all_goals simp_all [s7,A2]
theorem Gx (one:Bool) (s:aB) (h:s.Ok) (l:List Count) (hl:l.length≤maxLen):Pu one 92 [.ag (aO s),.sl (l.map aG) false] (ah (dY s l)):=by
 have hc:=vF s h one
 have c3:=DZ one 139 [] [.pt (aO s) 0] rfl (D8 s l) l false hl (fun i hi=>by
  unfold D8
  simp only [List.getElem?_eq_getElem hi]
  exact D9 s i _ h.kinds one)
 have el:((l.map aG).length:Int)=l.length:=by simp
 unfold dY
 generalize ir s=c at hc ⊢
 generalize bT l.length (D8 s l)=r at c3 ⊢
 by_cases h1:c.2.2=0
 ·rw [h1] at hc
  rw [if_neg (by simpa using h1)]
  by_cases h2:8 < (l.length:Int)
  ·have d2:decide ((8:Int) < ((l.map aG).length:Int))=true:=by rw [el];exact decide_eq_true h2
   rw [if_pos h2]
   refine af.body (fn:=Tryz.f92) rfl rfl rfl rfl ?_
   refine aa (mu:=fun _=>false) ?_
   repeat' (first |refine u1 ?_ |refine u2 ?_ |refine af.call hc rfl rfl ?_ |fail)
   exact ⟨[_],⟨Fz.deep rfl,trivial⟩,rfl⟩
  ·have d2:decide ((8:Int) < ((l.map aG).length:Int))=false:=by rw [el];exact decide_eq_false h2
   rw [if_neg h2]
   refine af.body (fn:=Tryz.f92) rfl rfl rfl rfl ?_
   refine aa (mu:=fun _=>false) ?_
   repeat' (first |refine u1 ?_ |refine u2 ?_ |refine af.call hc rfl rfl ?_ |refine af.call c3 rfl rfl ?_ |fail)
   exact ⟨[_],⟨Fz.deep rfl,trivial⟩,rfl⟩
 ·have d1:(!decide (c.2.2=0))=true:=by simpa using h1
  rw [if_pos h1]
  refine af.body (fn:=Tryz.f92) rfl rfl rfl rfl ?_
  refine aa (mu:=fun _=>false) ?_
  repeat' (first |refine u1 ?_ |refine u2 ?_ |refine af.call hc rfl rfl ?_ |fail)
  exact ⟨[_],⟨Fz.deep rfl,trivial⟩,rfl⟩
theorem ux {s:aB} {l:List Count} (h:dY s l=0):Good s∧l.length≤8∧∀ c ∈ l,(0≤c.kind∧c.kind < s.kinds.length)∧(0≤c.day∧c.day≤s.au.length)∧(0≤c.cz.lo∧c.cz.lo≤c.cz.hi∧c.cz.hi≤600):=by
 unfold dY at h
 by_cases h1:(ir s).2.2=0
 ·rw [if_neg (by simpa using h1)] at h
  by_cases h2:8 < (l.length:Int)
  ·rw [if_pos h2] at h;exact absurd h (by decide)
  ·rw [if_neg h2] at h
   refine ⟨ta h1,by omega,fun c hc=>?_⟩
   obtain ⟨i,hi,rfl⟩:=List.getElem_of_mem hc
   have:=fO h i hi
   unfold D8 at this
   simp only [List.getElem?_eq_getElem hi] at this
   unfold uw at this
   split at this
   ·exact absurd this (by decide)
   ·rename_i h4
    split at this
    ·exact absurd this (by decide)
    ·rename_i h7
     split at this
     ·exact absurd this (by decide)
     ·rename_i h3
      simp only [Bool.not_eq_true,Bool.or_eq_false_iff,fX,decide_eq_false_iff_not,List.mem_cons,List.not_mem_nil,or_false,forall_eq_or_imp,forall_eq] at h4 h7 h3
      omega
 ·rw [if_pos h1] at h;exact absurd h h1
def bp (l:List Count) (i:Nat):List Count:=l.filter (fun c=>decide (c.kind=(i:Int)))
theorem uy {s:aB} {l:List Count} (h:dY s l=0) {i:Nat} (hi:i < s.kinds.length):lR s s.kinds[i] (ak i s.aj) (bp l i):=by
 obtain ⟨hg,hl,hc⟩:=ux h
 refine ⟨hg,hg.kinds _ (List.getElem_mem hi),hg.row i,fun c hx=>?_,?_⟩
 ·exact (hc c ((List.mem_filter.1 hx).1)).2.1
 ·have:=List.length_filter_le (fun c=>decide (c.kind=(i:Int))) l
  unfold bp
  omega
theorem xJ (one:Bool) (s:aB) (h:s.Ok) (l:List Count) (h0:dY s l=0) (i:Nat) (hi:i < s.kinds.length) :
  Pu one 51 [.ag (aO s),.sl (l.map aG) false,ah i] (.tp [.ag (aF s s.kinds[i] (ak i s.aj) (.sl ((bp l i).map aG) false)),ah 0]):=by
 obtain ⟨hg,hl,hc⟩:=ux h0
 have hh:=uy h0 hi
 have h30:=hh.row.len
 have h8:=fo hg.sizes
 have hcn:=Gx one s h l (by unfold maxLen;omega)
 rw [h0] at hcn
 have ek:((s.kinds.map bG).length:Int)=s.kinds.length:=by simp
 have hop:=LW one s l false i hi (fun c hc=>by have:=hg.aj c hc;omega) h8.2.2 (by omega)
 have hou:=cX one 0 (((s.kinds.map bG).length:Int) - 1) [eI i] true rfl (Nat.le_of_ble_eq_true rfl)
 rw [show aM 0 (((s.kinds.map bG).length:Int) - 1) ([eI (i:Int)].map Ga)=false by rw [ek];show aM 0 ((s.kinds.length:Int) - 1) [(i:Int)]=false;rw [dK,fm.2 (by omega)];rfl] at hou
 refine af.body (fn:=Tryz.f51) rfl rfl rfl (jk rfl) ?_
 refine aa (mu:=fun _=>false) ?_
 repeat' (first |refine ⟨_,_,rfl,rfl,gu,dS h30,Nat.le_of_ble_eq_true rfl,?_⟩ |refine u1 ?_ |refine u2 ?_ |refine af.call hcn rfl rfl ?_ |refine af.call hou rfl rfl ?_ |refine af.call hop rfl rfl ?_ |fail)
 rw [zH h30 (by rfl)]
 repeat' (first |(refine ⟨_,_,rfl,(by rw [dS h30];exact Nat.le_refl _),?_⟩) |fail)
 rw [nA h30]
 exact ⟨[_,_],⟨Fz.deep (iJ (c:=.sl _ false) rfl),Fz.deep rfl,trivial⟩,rfl⟩
end Go.Proofs.YtalcbebjpgfnfaaGreat.St
open Go Go.RM
namespace Go.Proofs.YtalcbebjpgfnfaaGreat.St
set_option maxRecDepth 100000
set_option maxHeartbeats 4000000
def CU (lv:List Int) (c:Count):Bool:=kM (lv.getD c.day.toNat 0) c.cz.lo c.cz.hi
end Go.Proofs.YtalcbebjpgfnfaaGreat.St
