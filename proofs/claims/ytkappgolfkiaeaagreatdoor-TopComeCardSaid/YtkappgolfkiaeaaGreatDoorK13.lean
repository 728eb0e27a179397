/-
  Contracts of the program's functions and of the document's. Lemmas alone; their conditions stand in them.
-/
import Derived.Test.YtkappgolfkiaeaaGreatDoorK12
open Go Go.RM
namespace Go.Proofs.YtkappgolfkiaeaaGreatDoor.St
set_option maxRecDepth 100000
def dI (s:aI):Bool:=bS 1 30 [(s.ax.length:Int)] || bS 1 4 [(s.kinds.length:Int)] || decide (8 < (s.au.length:Int))
theorem Oj {s:aI} (h:dI s=true):gv s=(1,0,3):=by unfold gv;unfold dI at h;rw [if_pos h]
theorem Si {s:aI} (h:dI s=false) {k:Nat} (hk:k < s.ax.length) (hprev:∀ i (h:i < s.ax.length),i < k→bS 0 12 [s.ax[i]]=false) (hp:bS 0 12 [s.ax[k]]=true):gv s=(1,(k:Int),7):=by unfold gv;unfold dI at h;rw [if_neg (by rw [h];decide),iu hk hprev hp];simp
def nY (s:aI) (i:Nat):Int:=match s.kinds[i]? with|some k=>fY k ((s.kinds.take i).map (·.name))|none=>0
def sQ (s:aI) (i:Nat):Int:=match s.au[i]? with|some c=>gS s c|none=>0
theorem Bn {s:aI} {i:Nat} (h:i < s.kinds.length):nY s i=fY s.kinds[i] ((s.kinds.take i).map (·.name)):=by unfold nY;rw [List.getElem?_eq_getElem h]
theorem F8 {s:aI} {i:Nat} (h:i < s.au.length):sQ s i=gS s s.au[i]:=by unfold sQ;rw [List.getElem?_eq_getElem h]
theorem vr {s:aI} (h:dI s=false) (h1:∀ i (h:i < s.ax.length),bS 0 12 [s.ax[i]]=false):gv s =
  if (bx s.kinds.length (nY s)).2 ≠ 0 then (2,(bx s.kinds.length (nY s)).1,(bx s.kinds.length (nY s)).2)
  else if (bx s.au.length (sQ s)).2 ≠ 0 then (3,(bx s.au.length (sQ s)).1,(bx s.au.length (sQ s)).2) else (0,0,0):=by
 unfold gv;unfold dI at h;rw [if_neg (by rw [h];decide),iw h1];rfl
theorem Ol {s:aI} (h:dI s=false) (h1:∀ i (h:i < s.ax.length),bS 0 12 [s.ax[i]]=false) {k:Nat} (hk:k < s.kinds.length) (hprev:∀ i,i < k→nY s i=0) (hp:nY s k ≠ 0):gv s=(2,(k:Int),nY s k):=by rw [vr h h1,eO hk hprev hp,if_pos hp]
theorem Om {s:aI} (h:dI s=false) (h1:∀ i (h:i < s.ax.length),bS 0 12 [s.ax[i]]=false) (h2:∀ i,i < s.kinds.length→nY s i=0) {k:Nat} (hk:k < s.au.length) (hprev:∀ i,i < k→sQ s i=0) (hp:sQ s k ≠ 0):gv s=(3,(k:Int),sQ s k):=by rw [vr h h1,cu h2,eO hk hprev hp,if_neg (by simp),if_pos hp]
theorem Sj {s:aI} (h:dI s=false) (h1:∀ i (h:i < s.ax.length),bS 0 12 [s.ax[i]]=false) (h2:∀ i,i < s.kinds.length→nY s i=0) (h3:∀ i,i < s.au.length→sQ s i=0):gv s=(0,0,0):=by rw [vr h h1,cu h2,cu h3,if_neg (by simp),if_neg (by simp)]
theorem Dj {s:aI} (h:dI s=false):(1≤s.ax.length∧s.ax.length≤30)∧(1≤s.kinds.length∧s.kinds.length≤4)∧s.au.length≤8:=by unfold dI at h;simp only [aX,Bool.or_eq_false_iff,Bool.not_eq_false',dA,decide_eq_false_iff_not] at h;omega
def EW:Nat→AV
 | 0=>.fl (.slice none 0 0)
 | k+1=>.dw 0 k 0 (k+1) (k+2)
def Bo (s:aI):Nat→List AB
 | 0=>[]
 | k+1=>[.cells ((s.kinds.take (k+1)).map fun x=>ST x.name) 1 k]
theorem xC (s:aI) (k:Nat):(Bo s k).all (AB.jN 1)=true:=by
 cases k with
 | zero=>rfl
 | succ k =>
  simp only [Bo,List.all_cons,List.all_nil,Bool.and_true,AB.jN]
  induction s.kinds.take (k+1) with
  | nil=>rfl
  | cons a l ih=>exact ih
theorem xD (s:aI) {k:Nat} (h:k < s.kinds.length):(s.kinds.take (k+1)).map (fun x=>ST x.name)=(s.kinds.take k).map (fun x=>ST x.name)++[ST s.kinds[k].name]:=by rw [List.take_add_one,List.getElem?_eq_getElem h,List.map_append];rfl
theorem kQ (l:List Kind):((l.map (·.name)).map eS).flatten=l.map (fun x=>ST x.name):=by
 induction l with
 | nil=>rfl
 | cons a l ih =>simp only [List.map_cons,List.flatten_cons,ih];rfl
theorem oP (l:List Kind):bG (l.map (fun x=>ST x.name))=true:=by
 induction l with
 | nil=>rfl
 | cons a l ih=>exact ih
theorem tR (l:List Kind) {n v c:Nat} (h:l.length=n):Fz [.cells (l.map fun x=>ST x.name) 1 v] (.dw 0 v 0 n c) (.sl ((l.map (·.name)).map eS) false) :=
 Fz.row (es:=1) rfl (by simp;omega) (by simp;omega) (fun el hel=>by obtain ⟨x,_,rfl⟩:=List.mem_map.1 hel;rfl) (by rw [kQ,List.drop_zero,List.take_of_length_le (by simp;omega)]) (by rw [kQ];exact oP _) (fun h=>Bool.noConfusion h)
theorem xb (s : aI) (h : s.Ok) (one : Bool) : Pu one 4 [.ag (aN s)] (.tp [av (gv s).1, av (gv s).2.1, av (gv s).2.2]) := by
  have hm := h.ax;have hk := h.kinds;have hc := h.au;have hnm := h.names;have em : ((s.ax.map eI).length : Int) = s.ax.length := by simp
  have ek : ((s.kinds.map cA).length : Int) = s.kinds.length := by simp
  have ec : ((s.au.map fL).length : Int) = s.au.length := by simp
  unfold maxLen at hm hk hc;refine af.body (fn := Tryz.f4) rfl rfl rfl rfl ?_;refine aa (mu := fun t => Nat.beq t 66) ?_;repeat' first |with_reducible (first|refine bQ ?_|refine bk ?_|refine bg ?_|refine aZ ?_)|(refine ⟨_, rfl, ?_⟩)|(refine bD (by assumption) ?_)|(refine bD rfl ?_)|(refine bV rfl ?_)|(refine bV (by assumption) ?_)|(refine ⟨_, _, rfl, by decide, ?_⟩)|(refine ⟨rfl, rfl, rfl, ?_⟩)|(refine af.call (Bm one _ _ _) rfl rfl ?_)|(refine ⟨fun h => ?_, fun h => ?_⟩)|fail
  all_goals first
    | (have hb : dI s = true := by
         unfold dI;simp only [aX]
         simp_all
       rw [Oj hb]
       exact ⟨[_, _, _], ⟨Fz.deep rfl, Fz.deep rfl, Fz.deep rfl, trivial⟩, rfl⟩)
    | skip
  have hb : dI s = false := by
    unfold dI;simp only [aX]
    simp_all
  obtain ⟨⟨m1, m2⟩, ⟨k1, k2⟩, c1⟩ := Dj hb
  skip
  refine aE.aS (ai.to (l := [(1, .pt (aN s) 0), (5, av ((0 : Nat) : Int))]) 0 rfl ⟨rfl, rfl, trivial⟩ (qq6 _) rfl rfl) ?_;refine aE.loop (fun k : Nat => k ≤ s.ax.length ∧ ∀ i (h : i < s.ax.length), i < k → bS 0 12 [s.ax[i]] = false) (fun k => ⟨bA [(1, .pt (aN s) 0), (5, av (k : Int))], [], cz.none, false, 0⟩) (fun k => s.ax.length - k) ?_ 0 ⟨qq5 _, fun i _ hi => absurd hi (by omega)⟩;intro k ⟨hk', hprev⟩;refine aa (mu := fun t => Nat.beq t 66) ?_;repeat' first |with_reducible (first|refine bk ?_|refine bg ?_)|refine u2 ?_|fail
  refine ⟨fun h => ?_, fun h => ?_⟩
  · have hlt : k < s.ax.length := by simpa using h
    repeat' first |with_reducible (first|refine bQ ?_|refine bk ?_|refine fm ?_|refine bg ?_|refine aZ ?_)|refine u2 ?_|refine ⟨eI s.ax[k], ⟨by omega, bI hlt⟩, rfl, ?_⟩|refine af.call (Bm one _ _ _) rfl rfl ?_|fail
    refine ⟨fun h2 => ?_, fun h2 => ?_⟩
    · repeat' first |with_reducible (first|refine bk ?_|refine bg ?_)|fail
      refine ⟨[_, _, _], ⟨Fz.deep rfl, Fz.deep rfl, Fz.deep rfl, trivial⟩, ?_⟩;rw [Si hb hlt hprev (by rw [aX]; exact h2)]; rfl
    · repeat' first |with_reducible refine bQ ?_|refine u2 ?_|fail
      refine ⟨k + 1, ⟨hlt, fun i hi hik => ?_⟩, (by dsimp only; omega), ai.to 0 rfl ⟨rfl, aJ (by simp), trivial⟩ (qq6 _) rfl rfl⟩;by_cases hik' : i = k
      · subst hik'; rw [aX]; exact h2
      · exact hprev i hi (by omega)
  have hmen : ∀ i (h : i < s.ax.length), bS 0 12 [s.ax[i]] = false := fun i hi => hprev i hi (by simp at h; omega);clear hprev h
  skip
  refine aE.aS (ai.to (l := [(1, .pt (aN s) 0), (6, EW 0), (7, av ((0 : Nat) : Int))]) 0 rfl ⟨rfl, rfl, rfl, trivial⟩ (qq6 _) rfl rfl) ?_;refine aE.loop (fun k : Nat => k ≤ s.kinds.length ∧ ∀ i, i < k → nY s i = 0) (fun k => ⟨bA [(1, .pt (aN s) 0), (6, EW k), (7, av (k : Int))], Bo s k, cz.none, false, 0⟩) (fun k => s.kinds.length - k) ?_ 0 ⟨qq5 _, fun i hi => absurd hi (by omega)⟩;intro k ⟨hk', hprev⟩
  cases k with
  | zero =>
    refine aa (mu := fun t => Nat.beq t 66) ?_;repeat' first |with_reducible (first|refine bk ?_|refine bg ?_)|refine u2 ?_|fail
    refine ⟨fun h => ?_, fun h => ?_⟩
    · have hlt : 0 < s.kinds.length := k1;have hce := Bn hlt;repeat' first |with_reducible (first|refine bQ ?_|refine bk ?_|refine fm ?_|refine bg ?_|refine aZ ?_)|refine u2 ?_|refine ⟨cA s.kinds[0], ⟨by omega, bI hlt⟩, rfl, ?_⟩|refine af.PT (F7 one s.kinds[0] [] false (hnm _ (List.getElem_mem _)) (qq5 _)) rfl (DK.two (Fz.deep rfl) Fz.nil) (gZ.fl _) ?_|fail
      refine ⟨[eS s.kinds[0].name], ⟨fun el hel => by rw [List.mem_singleton.1 hel]; rfl, rfl⟩, rfl, And.intro (Nat.le_of_ble_eq_true rfl) (Nat.le_of_ble_eq_true rfl), fun hn => absurd hn (by simp), fun _ => ?_⟩;rw [show fY s.kinds[0] [] = nY s 0 from by rw [hce]; rfl]
      skip
      refine ⟨fun h2 => ?_, fun h2 => ?_⟩
      · have h2 : nY s 0 ≠ 0 := by simpa using h2
        repeat' first |with_reducible (first|refine bk ?_|refine bg ?_)|fail
        refine ⟨[_, _, _], ⟨Fz.deep rfl, Fz.deep rfl, Fz.deep rfl, trivial⟩, ?_⟩;rw [Ol hb hmen hlt hprev h2]; rfl
      · have h2 : nY s 0 = 0 := by simpa using h2
        repeat' first |with_reducible refine bQ ?_|refine u2 ?_|fail
        refine ⟨1, ⟨hlt, fun i hi => ?_⟩, (by dsimp only; omega), ai.to 1 ?_ ⟨rfl, rfl, rfl, trivial⟩ (qq5 _) rfl (xC s 1)⟩
        · rw [show i = 0 from by omega]; exact h2
        · show [AB.cells [ST s.kinds[0].name] 1 0] = [AB.cells ((s.kinds.take 1).map fun x => ST x.name) 1 0];rw [xD s hlt];rfl
    · exact absurd h (by simp only [ek, decide_eq_false_iff_not]; omega)
  | succ k =>
    have hlen : ((s.kinds.take (k + 1)).map fun x => ST x.name).length = k + 1 := by simp; omega
    refine aa (mu := fun t => Nat.beq t 66) ?_;repeat' first |with_reducible (first|refine bk ?_|refine bg ?_)|refine u2 ?_|fail
    refine ⟨fun h => ?_, fun h => ?_⟩
    · have hlt : k + 1 < s.kinds.length := by simpa only [ek, decide_eq_true_eq, Int.ofNat_lt] using h
      have hce := Bn hlt
      have hz : DK (Bo s (k + 1)) [.ag (cA s.kinds[k + 1]), EW (k + 1)] [.ag (cA s.kinds[k + 1]), .sl (((s.kinds.take (k + 1)).map (·.name)).map eS) false] :=
        DK.two (Fz.deep rfl) (tR _ (by simp; omega))
      repeat' first |with_reducible (first|refine bQ ?_|refine bk ?_|refine fm ?_|refine bg ?_|refine aZ ?_)|refine u2 ?_|refine ⟨cA s.kinds[k + 1], ⟨by omega, bI hlt⟩, rfl, ?_⟩|(refine af.PT (F7 one s.kinds[k + 1] ((s.kinds.take (k + 1)).map (·.name)) false (hnm _ (List.getElem_mem _)) (by simp; unfold maxLen; omega)) rfl hz (gZ.fl _) ?_)|fail
      refine ⟨[eS s.kinds[k + 1].name], ⟨fun el hel => by rw [List.mem_singleton.1 hel]; rfl, rfl⟩, rfl, _, rfl, by rw [Nat.mul_one]; exact hlen, Or.inr rfl, And.intro (by dsimp only [List.length]; omega) (by dsimp only [List.length]; omega), fun hn => absurd hn (by simp), fun _ => ?_⟩;rw [← hce]
      skip
      refine ⟨fun h2 => ?_, fun h2 => ?_⟩
      · have h2 : nY s (k + 1) ≠ 0 := by simpa using h2
        repeat' first |with_reducible (first|refine bk ?_|refine bg ?_)|fail
        refine ⟨[_, _, _], ⟨Fz.deep rfl, Fz.deep rfl, Fz.deep rfl, trivial⟩, ?_⟩;rw [Ol hb hmen hlt hprev h2]; rfl
      · have h2 : nY s (k + 1) = 0 := by simpa using h2
        repeat' first |with_reducible refine bQ ?_|refine u2 ?_|fail
        refine ⟨k + 2, ⟨hlt, fun i hi => ?_⟩, (by dsimp only; omega), ai.to 1 ?_ ⟨rfl, rfl, aJ (by simp; omega), trivial⟩ (qq5 _) rfl (xC s (k + 2))⟩
        · by_cases hik : i = k + 1
          · rw [hik]; exact h2
          · exact hprev i (by omega)
        · show [AB.cells (((s.kinds.take (k + 1)).map fun x => ST x.name) ++ [ST s.kinds[k + 1].name]) 1 (k + 1)] = [AB.cells ((s.kinds.take (k + 2)).map fun x => ST x.name) 1 (k + 1)];rw [xD s hlt]
    · have hkin : ∀ i, i < s.kinds.length → nY s i = 0 := fun i hi => hprev i (by simp only [ek, decide_eq_false_iff_not] at h; omega);clear hprev h
      skip
      refine aE.aS (ai.to (l := [(1, .pt (aN s) 0), (9, av ((0 : Nat) : Int))]) 0 rfl ⟨rfl, rfl, trivial⟩ (qq6 _) rfl rfl) ?_;refine aE.loop (fun k : Nat => k ≤ s.au.length ∧ ∀ i, i < k → sQ s i = 0) (fun k => ⟨bA [(1, .pt (aN s) 0), (9, av (k : Int))], [], cz.none, false, 0⟩) (fun k => s.au.length - k) ?_ 0 ⟨qq5 _, fun i hi => absurd hi (by omega)⟩;intro k ⟨hk', hprev⟩;refine aa (mu := fun t => Nat.beq t 66) ?_;repeat' first |with_reducible (first|refine bk ?_|refine bg ?_)|refine u2 ?_|fail
      refine ⟨fun h => ?_, fun h => ?_⟩
      · have hlt : k < s.au.length := by simpa only [ec, decide_eq_true_eq, Int.ofNat_lt] using h
        have hce := F8 hlt;unfold gS at hce;simp only [aX] at hce;repeat' first |with_reducible (first|refine bQ ?_|refine bk ?_|refine fm ?_|refine bg ?_|refine aZ ?_)|(refine ⟨_, rfl, ?_⟩)|(refine bD (by assumption) ?_)|(refine bD rfl ?_)|(refine bV (by assumption) ?_)|(refine ⟨_, _, rfl, by decide, ?_⟩)|(refine ⟨_, _, rfl, _, rfl, ?_⟩)|(refine And.intro (Nat.le_of_ble_eq_true rfl) ?_)|(refine And.intro (by omega) ?_)|(refine And.intro (by kernel_rfl) ?_)|(refine ⟨fL s.au[k], ⟨by omega, bI hlt⟩, rfl, ?_⟩)|(refine af.call (Bm one _ _ _) rfl rfl ?_)|(refine ⟨_, _, rfl, rfl, rfl, rfl, Nat.le_of_ble_eq_true rfl, ?_⟩)|(refine ⟨fun h => ?_, fun h => ?_⟩)|fail
        all_goals first
          | (refine ⟨[_, _, _], ⟨Fz.deep rfl, Fz.deep rfl, Fz.deep rfl, trivial⟩, ?_⟩
             first
               | (have hp : sQ s k = 4 := by rw [hce]; simp_all
                  rw [Om hb hmen hkin hlt hprev (by rw [hp]; decide), hp]; rfl)
               | (have hp : sQ s k = 7 := by rw [hce]; simp_all
                  rw [Om hb hmen hkin hlt hprev (by rw [hp]; decide), hp]; rfl))
          | (have hp : sQ s k = 0 := by rw [hce]; simp_all
             refine ⟨k + 1, ⟨hlt, fun i hi => ?_⟩, (by dsimp only; omega), ai.to 0 rfl ⟨rfl, aJ (by simp), trivial⟩ (qq6 _) rfl rfl⟩;by_cases hik : i = k
             · rw [hik]; exact hp
             · exact hprev i (by omega))
      · skip
        refine ⟨[_, _, _], ⟨Fz.deep rfl, Fz.deep rfl, Fz.deep rfl, trivial⟩, ?_⟩;rw [Sj hb hmen hkin fun i hi => hprev i (by simp only [ec, decide_eq_false_iff_not] at h; omega)]; rfl
end Go.Proofs.YtkappgolfkiaeaaGreatDoor.St
