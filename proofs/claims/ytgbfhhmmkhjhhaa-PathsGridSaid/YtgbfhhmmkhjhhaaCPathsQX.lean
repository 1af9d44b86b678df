/- Ways and what they cost, without a program. Conditions: those that stand in each theorem. Written in session 7. -/
import Derived.Test.YtgbfhhmmkhjhhaaCPathsW
import Derived.Test.YtgbfhhmmkhjhhaaCPathsEVA
namespace Go.Proofs.Ytgbfhhmmkhjhhaa.Paths
open Go.Proofs.Ytgbfhhmmkhjhhaa.HeapP Go.Proofs.Ytgbfhhmmkhjhhaa.Dij
open Go.Proofs.Ytgbfhhmmkhjhhaa.Roads (outOf isN isN_iff)
set_option linter.unusedVariables false
set_option linter.unusedSimpArgs false
/-- from u to v over roads: the nodes, and what it costs -/
inductive Goes (outf : Int → List Rd) (v : Int) : Int → List Int → Int → Prop
  | stop : Goes outf v v [v] 0
  | go {u : Int} {x : Rd} {l : List Int} {k : Int} (h1 : x ∈ outf u) (h2 : Goes outf v x.2.1 l k) : Goes outf v u (u :: l) (x.2.2 + k)
section
variable {n : Nat} {outf : Int → List Rd}
theorem Goes.ne {u v : Int} {l : List Int} {k : Int} (h : Goes outf v u l k) : ∃ m, l = u :: m := by
  cases h with
  | stop => exact ⟨_, rfl⟩
  | go h1 h2 => exact ⟨_, rfl⟩
theorem Goes.ge (hN : Net n outf) {u v : Int} {l : List Int} {k : Int} (h : Goes outf v u l k) (hu : 0 ≤ u ∧ u < n) : 0 ≤ k ∧ (u = v ∨ 1 ≤ k) ∧ 0 ≤ v ∧ v < n := by
  induction h with
  | stop => exact ⟨Int.le_refl _, Or.inl rfl, hu.1, hu.2⟩
  | go h1 h2 ih =>
    have := hN.road _ _ hu.1 hu.2 h1
    have := ih ⟨this.1, this.2.1⟩
    omega
theorem Goes.join {u v t : Int} {l m : List Int} {k j : Int} (h : Goes outf v u l k) (h2 : Goes outf t v m j) : ∃ q, Goes outf t u q (k + j) := by
  induction h with
  | stop => exact ⟨m, by rw [Int.zero_add]; exact h2⟩
  | go h1 h3 ih =>
    obtain ⟨q, hq⟩ := ih
    exact ⟨_, by rw [Int.add_assoc]; exact .go h1 hq⟩
theorem Goes.snoc {u v : Int} {l : List Int} {k : Int} (h : Goes outf v u l k) {x : Rd} (hx : x ∈ outf v) : Goes outf x.2.1 u (l ++ [x.2.1]) (k + x.2.2) := by
  induction h with
  | stop =>
    have := Goes.go hx (Goes.stop (outf := outf) (v := x.2.1))
    rw [Int.zero_add]
    rw [Int.add_zero] at this
    exact this
  | go h1 h3 ih =>
    have := Goes.go h1 ih
    rw [List.cons_append, Int.add_assoc]
    exact this
/-- no way is cheaper than the cost to a node -/
theorem DistTo.least (hN : Net n outf) {t : Int} {c : List Int} (hd : DistTo n outf t c) {u : Int} {l : List Int} {k : Int} (h : Goes outf t u l k) (hu : 0 ≤ u ∧ u < n) : 0 ≤ cv c u ∧ cv c u ≤ k := by
  induction h with
  | stop => rw [hd.st]; omega
  | go h1 h2 ih =>
    have := hN.road _ _ hu.1 hu.2 h1
    have h3 := ih ⟨this.1, this.2.1⟩
    have := hd.over _ _ hu.1 hu.2 h1 h3.1
    omega
theorem DistTo.is (hN : Net n outf) {t : Int} {c : List Int} (hd : DistTo n outf t c) : ∀ (j : Nat) (u : Int), 0 ≤ u → u < n → 0 ≤ cv c u → cv c u ≤ j → ∃ l, Goes outf t u l (cv c u) := by
  intro j
  induction j with
  | zero =>
    intro u u0 u1 h0 h1
    by_cases e : u = t
    · subst e
      exact ⟨_, by rw [hd.st]; exact .stop⟩
    · obtain ⟨r, hr, h2, h3⟩ := hd.by_ u u0 u1 h0 e
      have := hN.road _ _ u0 u1 hr
      omega
  | succ j ih =>
    intro u u0 u1 h0 h1
    by_cases e : u = t
    · subst e
      exact ⟨_, by rw [hd.st]; exact .stop⟩
    · obtain ⟨r, hr, h2, h3⟩ := hd.by_ u u0 u1 h0 e
      have := hN.road _ _ u0 u1 hr
      obtain ⟨l, hl⟩ := ih r.2.1 this.1 this.2.1 h2 (by omega)
      exact ⟨_, by rw [h3, Int.add_comm]; exact .go hr hl⟩
theorem DistTo.way (hN : Net n outf) {t : Int} {c : List Int} (hd : DistTo n outf t c) {u : Int} (u0 : 0 ≤ u) (u1 : u < n) (h0 : 0 ≤ cv c u) : ∃ l, Goes outf t u l (cv c u) :=
  hd.is hN (cv c u).toNat u u0 u1 h0 (by omega)
/-- no way is cheaper than the cost from a node -/
theorem dist_least (hN : Net n outf) {s : Int} {d : List Int} (hd : Dist n outf s d) {u t : Int} {l : List Int} {k : Int} (h : Goes outf t u l k) (hu : 0 ≤ u ∧ u < n) (h0 : 0 ≤ cv d u) : 0 ≤ cv d t ∧ cv d t ≤ cv d u + k := by
  induction h with
  | stop => omega
  | go h1 h2 ih =>
    have := hN.road _ _ hu.1 hu.2 h1
    have h4 := hd.over _ _ hu.1 hu.2 h0 h1
    have h3 := ih ⟨this.1, this.2.1⟩ h4.1
    omega
theorem dist_is (hN : Net n outf) {s : Int} {d : List Int} (hd : Dist n outf s d) : ∀ (j : Nat) (u : Int), 0 ≤ u → u < n → 0 ≤ cv d u → cv d u ≤ j → ∃ l, Goes outf u s l (cv d u) := by
  intro j
  induction j with
  | zero =>
    intro u u0 u1 h0 h1
    by_cases e : u = s
    · subst e
      exact ⟨_, by rw [hd.st]; exact .stop⟩
    · obtain ⟨v, v0, v1, h2, r, hr, e1, e2⟩ := hd.by_ u u0 u1 h0 e
      have := hN.road _ _ v0 v1 hr
      omega
  | succ j ih =>
    intro u u0 u1 h0 h1
    by_cases e : u = s
    · subst e
      exact ⟨_, by rw [hd.st]; exact .stop⟩
    · obtain ⟨v, v0, v1, h2, r, hr, e1, e2⟩ := hd.by_ u u0 u1 h0 e
      have := hN.road _ _ v0 v1 hr
      obtain ⟨l, hl⟩ := ih v v0 v1 h2 (by omega)
      exact ⟨_, by rw [e2, ← e1]; exact hl.snoc hr⟩
theorem dist_way (hN : Net n outf) {s : Int} {d : List Int} (hd : Dist n outf s d) {u : Int} (u0 : 0 ≤ u) (u1 : u < n) (h0 : 0 ≤ cv d u) : ∃ l, Goes outf u s l (cv d u) :=
  dist_is hN hd (cv d u).toNat u u0 u1 h0 (by omega)
/-- there and back -/
theorem dist_both (hN : Net n outf) {s t : Int} {c d : List Int} (hd : Dist n outf s d) (hc : DistTo n outf t c) (hs : 0 ≤ s ∧ s < n) (ht : 0 ≤ t ∧ t < n) : cv c s = cv d t := by
  have g1 := hc.ge s hs.1
  have g2 := hd.ge t ht.1
  by_cases h : 0 ≤ cv c s
  · obtain ⟨l, hl⟩ := hc.way hN hs.1 hs.2 h
    have h1 := dist_least hN hd hl hs (by rw [hd.st]; omega)
    rw [hd.st] at h1
    obtain ⟨m, hm⟩ := dist_way hN hd ht.1 ht.2 h1.1
    have h2 := hc.least hN hm hs
    omega
  · by_cases h2 : 0 ≤ cv d t
    · obtain ⟨m, hm⟩ := dist_way hN hd ht.1 ht.2 h2
      have h2 := hc.least hN hm hs
      omega
    · omega
/-- the way that is answered -/
theorem WayR.goes {c : List Int} {u t : Int} {l : List Int} (hd : DistTo n outf t c) (h : WayR outf c t u l) : Goes outf t u l (cv c u) := by
  induction h with
  | stop => rw [hd.st]; exact .stop
  | go hu h1 h2 h3 ih =>
    obtain ⟨x, hx, hC, rfl⟩ := h1
    rw [← hC.2, Int.add_comm]
    exact .go hx ih
/-- a way that costs as much is not ahead of it -/
theorem WayR.first (hN : Net n outf) {c : List Int} {u t : Int} {l : List Int} (hd : DistTo n outf t c) (hu : 0 ≤ u ∧ u < n) (h : WayR outf c t u l) {m : List Int} {k : Int} (hg : Goes outf t u m k) (hk : k ≤ cv c u) :
    (∀ i : Nat, (∀ j : Nat, j < i → l[j]? = m[j]?) → ∀ a b, l[i]? = some a → m[i]? = some b → a ≤ b) ∧ ((∀ j : Nat, j < l.length → j < m.length → l[j]? = m[j]?) → l.length = m.length) := by
  induction h generalizing m k with
  | stop =>
    cases hg with
    | stop => exact ⟨fun i _ a b h1 h2 => by rw [h1] at h2; cases h2; exact Int.le_refl _, fun _ => rfl⟩
    | go h1 h2 =>
      have r := hN.road _ _ hu.1 hu.2 h1
      have := h2.ge hN ⟨r.1, r.2.1⟩
      rw [hd.st] at hk
      omega
  | @go u nx l' hne h1 h2 h3 ih =>
    cases hg with
    | stop => exact absurd rfl hne
    | @go _ x m' k' g1 g2 =>
      obtain ⟨y, hy, hC, rfl⟩ := h1
      have r := hN.road _ _ hu.1 hu.2 g1
      have ry := hN.road _ _ hu.1 hu.2 hy
      have e1 := hd.least hN g2 ⟨r.1, r.2.1⟩
      have e2 := hd.over _ _ hu.1 hu.2 g1 e1.1
      have hCx : Cand c u x := ⟨e1.1, by omega⟩
      have hle := h2 x g1 hCx
      obtain ⟨n1, q1⟩ := h3.goes hd |>.ne
      obtain ⟨n2, q2⟩ := g2.ne
      constructor
      · intro i hi a b ha hb
        cases i with
        | zero => cases ha; cases hb; exact Int.le_refl _
        | succ i =>
          rw [List.getElem?_cons_succ] at ha hb
          cases i with
          | zero =>
            rw [q1] at ha; rw [q2] at hb
            cases ha; cases hb
            exact hle
          | succ i =>
            have e0 := hi 1 (by omega)
            rw [List.getElem?_cons_succ, List.getElem?_cons_succ, q1, q2] at e0
            have e0 : y.2.1 = x.2.1 := by simpa using e0
            rw [← e0] at g2
            refine (ih ⟨ry.1, ry.2.1⟩ g2 (by have := hC.2; have := hCx.2; rw [e0] at *; omega)).1 (i + 1) (fun j hj => ?_) a b ha hb
            have := hi (j + 1) (by omega)
            rwa [List.getElem?_cons_succ, List.getElem?_cons_succ] at this
      · intro hj
        have e0 := hj 1 (by rw [q1]; simp) (by rw [q2]; simp)
        rw [List.getElem?_cons_succ, List.getElem?_cons_succ, q1, q2] at e0
        have e0 : y.2.1 = x.2.1 := by simpa using e0
        rw [← e0] at g2
        have := (ih ⟨ry.1, ry.2.1⟩ g2 (by have := hC.2; have := hCx.2; rw [e0] at *; omega)).2 (fun j h1 h2 => by
          have := hj (j + 1) (by simp; exact h1) (by simp; exact h2)
          rwa [List.getElem?_cons_succ, List.getElem?_cons_succ] at this)
        simp [this]
/-- what is left of a way behind its node i -/
theorem WayR.drop {c : List Int} {u t : Int} {l : List Int} (h : WayR outf c t u l) : ∀ (i : Nat) (v : Int), l[i]? = some v → WayR outf c t v (l.drop i) := by
  induction h with
  | stop =>
    intro i v hv
    cases i with
    | zero => cases hv; exact .stop
    | succ i => cases hv
  | go hu h1 h2 h3 ih =>
    intro i v hv
    cases i with
    | zero => cases hv; exact .go hu h1 h2 h3
    | succ i => exact ih i v hv
theorem WayR.node (hN : Net n outf) {c : List Int} {u t : Int} {l : List Int} (hu : 0 ≤ u ∧ u < n) (h : WayR outf c t u l) : ∀ v ∈ l, 0 ≤ v ∧ v < n := by
  induction h with
  | stop => intro v hv; simp at hv; subst hv; exact hu
  | go hne h1 h2 h3 ih =>
    intro v hv
    obtain ⟨x, hx, hC, rfl⟩ := h1
    have r := hN.road _ _ hu.1 hu.2 hx
    rcases List.mem_cons.1 hv with rfl | q
    · exact hu
    · exact ih ⟨r.1, r.2.1⟩ v q
/-- the costs of the nodes of a way fall -/
theorem WayR.falls (hN : Net n outf) {c : List Int} {u t : Int} {l : List Int} (hd : DistTo n outf t c) (hu : 0 ≤ u ∧ u < n) (h : WayR outf c t u l) : ∀ (j : Nat) (v : Int), l[j]? = some v → 0 ≤ cv c v ∧ (if j = 0 then v = u else cv c v < cv c u) ∧ ∃ q k, Goes outf v u q k ∧ cv c u = k + cv c v := by
  induction h with
  | stop =>
    intro j v hv
    cases j with
    | zero => cases hv; exact ⟨by rw [hd.st]; exact Int.le_refl _, rfl, _, 0, .stop, by omega⟩
    | succ j => cases hv
  | @go u nx l hne h1 h2 h3 ih =>
    intro j v hv
    obtain ⟨x, hx, hC, rfl⟩ := h1
    have r := hN.road _ _ hu.1 hu.2 hx
    have hC2 := hC.2
    have hC1 := hC.1
    cases j with
    | zero => cases hv; exact ⟨by omega, rfl, _, 0, .stop, by omega⟩
    | succ j =>
      obtain ⟨a, b, q, k, d, e⟩ := ih ⟨r.1, r.2.1⟩ j v hv
      refine ⟨a, ?_, _, _, .go hx d, by omega⟩
      rw [if_neg (by omega)]
      split at b
      · subst b; omega
      · omega
/-- a piece of the way is the way between its ends -/
theorem WayR.piece (hN : Net n outf) {c c' : List Int} {t v : Int} (hd : DistTo n outf t c) (hv : 0 ≤ v ∧ v < n) (hd' : DistTo n outf v c') {u : Int} {l : List Int} (hu : 0 ≤ u ∧ u < n) (h : WayR outf c t u l) : ∀ j, l[j]? = some v → WayR outf c' v u (l.take (j + 1)) := by
  induction h with
  | stop =>
    intro j hj
    cases j with
    | zero => cases hj; exact .stop
    | succ j => cases hj
  | @go u nx l hne h1 h2 h3 ih =>
    intro j hj
    cases j with
    | zero => cases hj; exact .stop
    | succ j =>
      have hw : WayR outf c t u (u :: l) := .go hne h1 h2 h3
      obtain ⟨f1, f2, q, k, f3, f4⟩ := hw.falls hN hd hu (j + 1) v hj
      rw [if_neg (by omega)] at f2
      have hne' : u ≠ v := fun e => by subst e; omega
      obtain ⟨x, hx, hC, rfl⟩ := h1
      have r := hN.road _ _ hu.1 hu.2 hx
      have hC1 := hC.1
      have hC2 := hC.2
      obtain ⟨p1, p2, q', k', p3, p4⟩ := h3.falls hN hd ⟨r.1, r.2.1⟩ j v hj
      obtain ⟨m, hm⟩ := hd.way hN hv.1 hv.2 f1
      -- the costs to v and on to t
      have tri : ∀ y : Int, 0 ≤ y → y < n → 0 ≤ cv c' y → 0 ≤ cv c y ∧ cv c y ≤ cv c' y + cv c v := fun y y0 y1 hy => by
        obtain ⟨a, ha⟩ := hd'.way hN y0 y1 hy
        obtain ⟨b, hb⟩ := ha.join hm
        exact hd.least hN hb ⟨y0, y1⟩
      have e1 := hd'.least hN f3 hu
      have e2 := tri u hu.1 hu.2 e1.1
      have e3 := hd'.least hN p3 ⟨r.1, r.2.1⟩
      have e4 := tri x.2.1 r.1 r.2.1 e3.1
      refine .go hne' ⟨x, hx, ⟨e3.1, by omega⟩, rfl⟩ (fun y hy hCy => h2 y hy ?_) (ih ⟨r.1, r.2.1⟩ j hj)
      have ry := hN.road _ _ hu.1 hu.2 hy
      have e5 := tri y.2.1 ry.1 ry.2.1 hCy.1
      have e6 := hd.over _ _ hu.1 hu.2 hy e5.1
      have := hCy.2
      exact ⟨e5.1, by omega⟩
/-- where a way ends -/
theorem Goes.last {u v : Int} {l : List Int} {k : Int} (h : Goes outf v u l k) : 1 ≤ l.length ∧ l[l.length - 1]? = some v := by
  induction h with
  | stop => exact ⟨by simp, rfl⟩
  | @go u x l k h1 h2 ih =>
    refine ⟨by simp, ?_⟩
    rw [List.length_cons, Nat.add_sub_cancel, show l.length = (l.length - 1) + 1 from by omega, List.getElem?_cons_succ]
    exact ih.2
theorem Goes.nodes (hN : Net n outf) {u v : Int} {l : List Int} {k : Int} (h : Goes outf v u l k) (hu : 0 ≤ u ∧ u < n) : ∀ a ∈ l, 0 ≤ a ∧ a < n := by
  induction h with
  | stop => intro a ha; simp at ha; subst ha; exact hu
  | go h1 h2 ih =>
    intro a ha
    have r := hN.road _ _ hu.1 hu.2 h1
    rcases List.mem_cons.1 ha with rfl | q
    · exact hu
    · exact ih ⟨r.1, r.2.1⟩ a q
theorem Goes.most (hN : Net n outf) {u v : Int} {l : List Int} {k : Int} (h : Goes outf v u l k) (hu : 0 ≤ u ∧ u < n) : k ≤ 1048576 * (l.length : Int) := by
  induction h with
  | stop => simp
  | go h1 h2 ih =>
    have r := hN.road _ _ hu.1 hu.2 h1
    have := ih ⟨r.1, r.2.1⟩
    rw [List.length_cons]
    omega
end
end Go.Proofs.Ytgbfhhmmkhjhhaa.Paths
namespace Go.Proofs.Ytgbfhhmmkhjhhaa.Paths
open Go.Proofs.Ytgbfhhmmkhjhhaa.HeapP Go.Proofs.Ytgbfhhmmkhjhhaa.Dij
open Go.Proofs.Ytgbfhhmmkhjhhaa.Roads (outOf isN isN_iff roadP)
set_option linter.unusedVariables false
set_option linter.unusedSimpArgs false
section
variable {n : Nat} {outf outg : Int → List Rd}
/-- the roads with one more -/
def Plus (outf outg : Int → List Rd) (x : Rd) : Prop := ∀ (v : Int) (r : Rd), r ∈ outg v ↔ r ∈ outf v ∨ (v = x.1 ∧ r = x)
theorem Goes.plus {x : Rd} (hp : Plus outf outg x) {u v : Int} {l : List Int} {k : Int} (h : Goes outf v u l k) : Goes outg v u l k := by
  induction h with
  | stop => exact .stop
  | go h1 h2 ih => exact .go ((hp _ _).2 (Or.inl h1)) ih
theorem Goes.less {x : Rd} (hp : Plus outf outg x) {u v : Int} {l : List Int} {k : Int} (h : Goes outg v u l k) : Goes outf v u l k ∨ ∃ l1 k1 l2 k2, Goes outf x.1 u l1 k1 ∧ Goes outg v x.2.1 l2 k2 ∧ k = k1 + x.2.2 + k2 := by
  induction h with
  | stop => exact Or.inl .stop
  | @go u y l k h1 h2 ih =>
    rcases (hp _ _).1 h1 with q | ⟨e1, e2⟩
    · rcases ih with i | ⟨l1, k1, l2, k2, i1, i2, i3⟩
      · exact Or.inl (.go q i)
      · exact Or.inr ⟨_, _, l2, k2, .go q i1, i2, by omega⟩
    · subst e2
      subst e1
      exact Or.inr ⟨_, 0, l, k, .stop, h2, by omega⟩
/-- the new cost -/
def moreP (d b : List Int) (x : Rd) (i : Int) : Int := if 0 ≤ cv d x.1 ∧ 0 ≤ cv b i ∧ (cv d i < 0 ∨ cv d x.1 + x.2.2 + cv b i < cv d i) then cv d x.1 + x.2.2 + cv b i else cv d i
theorem more_dist (hN : Net n outf) (hM : Net n outg) {x : Rd} (hp : Plus outf outg x) (hx : 0 ≤ x.1 ∧ x.1 < n) {s : Int} (hs : 0 ≤ s ∧ s < n) {d d' b : List Int} (hd : Dist n outf s d) (hd' : Dist n outg s d') (hb : Dist n outg x.2.1 b) {v : Int} (hv : 0 ≤ v ∧ v < n) : cv d' v = moreP d b x v := by
  have hxm : x ∈ outg x.1 := (hp _ _).2 (Or.inr ⟨rfl, rfl⟩)
  have hxr := hM.road _ _ hx.1 hx.2 hxm
  have g1 := hd.ge v hv.1
  have g2 := hd'.ge v hv.1
  have g3 := hb.ge v hv.1
  have g4 := hd.ge x.1 hx.1
  -- what stood goes on
  have a1 : 0 ≤ cv d v → 0 ≤ cv d' v ∧ cv d' v ≤ cv d v := fun h => by
    obtain ⟨l, hl⟩ := dist_way hN hd hv.1 hv.2 h
    have := dist_least hM hd' (hl.plus hp) hs (by rw [hd'.st]; omega)
    rw [hd'.st] at this
    omega
  have a2 : 0 ≤ cv d x.1 → 0 ≤ cv b v → 0 ≤ cv d' v ∧ cv d' v ≤ cv d x.1 + x.2.2 + cv b v := fun h1 h2 => by
    obtain ⟨l, hl⟩ := dist_way hN hd hx.1 hx.2 h1
    obtain ⟨m, hm⟩ := dist_way hM hb hv.1 hv.2 h2
    obtain ⟨q, hq⟩ := ((hl.plus hp).snoc hxm).join hm
    have := dist_least hM hd' hq hs (by rw [hd'.st]; omega)
    rw [hd'.st] at this
    omega
  have a3 : 0 ≤ cv d' v → (0 ≤ cv d v ∧ cv d v ≤ cv d' v) ∨ (0 ≤ cv d x.1 ∧ 0 ≤ cv b v ∧ cv d x.1 + x.2.2 + cv b v ≤ cv d' v) := fun h => by
    obtain ⟨l, hl⟩ := dist_way hM hd' hv.1 hv.2 h
    rcases hl.less hp with q | ⟨l1, k1, l2, k2, q1, q2, q3⟩
    · have := dist_least hN hd q hs (by rw [hd.st]; omega)
      rw [hd.st] at this
      omega
    · have h1 := dist_least hN hd q1 hs (by rw [hd.st]; omega)
      have h2 := dist_least hM hb q2 ⟨hxr.1, hxr.2.1⟩ (by rw [hb.st]; omega)
      rw [hd.st] at h1
      rw [hb.st] at h2
      omega
  unfold moreP
  split <;> omega
end
/-- Road, where it is laid -/
theorem road_plus {n : Nat} {out : List (List Rd)} (hon : out.length = n) {x : Rd} (h : (roadP out x.1 x.2.1 x.2.2).1 = 0) : isN n x.1 = true ∧ isN n x.2.1 = true ∧ Plus (outOf out) (outOf (roadP out x.1 x.2.1 x.2.2).2) x ∧ (roadP out x.1 x.2.1 x.2.2).2.length = n := by
  unfold roadP at h ⊢
  rw [hon] at h ⊢
  by_cases h1 : ¬ (isN n x.1 = true ∧ isN n x.2.1 = true)
  · rw [if_pos h1] at h; simp at h
  · rw [if_neg h1] at h ⊢
    obtain ⟨ha, hb⟩ := Classical.not_not.1 h1
    by_cases h2 : x.1 = x.2.1 ∨ x.2.2 < 1 ∨ 1048576 < x.2.2
    · rw [if_pos h2] at h; simp at h
    · rw [if_neg h2] at h ⊢
      by_cases h3 : (outOf out x.1).any (fun y => decide (y.2.1 = x.2.1)) = true
      · rw [if_pos h3] at h; simp at h
      · rw [if_neg h3]
        have hx := isN_iff.1 ha
        have hi : x.1.toNat < out.length := by omega
        have ex : ((x.1.toNat : Nat) : Int) = x.1 := by omega
        refine ⟨ha, hb, fun v r => ?_, by rw [List.length_set]; exact hon⟩
        show r ∈ outOf (out.set x.1.toNat _) v ↔ _
        rw [out_set hi, ex]
        by_cases e : v = x.1
        · subst e
          rw [if_pos rfl, Roads.mem_ins]
          constructor
          · rintro (q | q)
            · exact Or.inl q
            · exact Or.inr ⟨rfl, q⟩
          · rintro (q | q)
            · exact Or.inl q
            · exact Or.inr q.2
        · rw [if_neg e]
          constructor
          · exact Or.inl
          · rintro (q | q)
            · exact q
            · exact absurd q.1 e
/-- of the road from a node to another one; -1: there is none -/
def costL (l : List Rd) (tv : Int) : Int := match l.find? (fun x => decide (x.2.1 = tv)) with
  | some x => x.2.2
  | none => -1
theorem costL_no {l : List Rd} {tv : Int} (h : ∀ x ∈ l, x.2.1 ≠ tv) : costL l tv = -1 := by
  unfold costL
  rw [List.find?_eq_none.2 (fun x hx => by simpa using h x hx)]
theorem costL_at {l : List Rd} {tv : Int} {k : Nat} {x : Rd} (hx : l[k]? = some x) (he : x.2.1 = tv) (h : ∀ y ∈ l.take k, y.2.1 ≠ tv) : costL l tv = x.2.2 := by
  induction l generalizing k with
  | nil => simp at hx
  | cons a l ih =>
    unfold costL
    rw [List.find?_cons]
    cases k with
    | zero =>
      cases hx
      simp [he]
    | succ k =>
      have h1 := h a (by simp)
      simp only [h1, decide_false]
      exact ih hx (fun y hy => h y (by simp [hy]))
theorem costL_mem {l : List Rd} {tv : Int} (h : costL l tv ≠ -1) : ∃ x ∈ l, x.2.1 = tv ∧ x.2.2 = costL l tv := by
  unfold costL at h ⊢
  cases hf : l.find? (fun x => decide (x.2.1 = tv)) with
  | none => rw [hf] at h; simp at h
  | some x =>
    have h1 := List.find?_some hf
    exact ⟨x, List.mem_of_find?_eq_some hf, by simpa using h1, rfl⟩
theorem costL_road {n : Nat} {out : List (List Rd)} (hG : Roads.Good n out) {u : Int} {x : Rd} (hx : x ∈ outOf out u) : costL (outOf out u) x.2.1 = x.2.2 := by
  obtain ⟨k, hk, e⟩ := List.getElem_of_mem hx
  have e' : (outOf out u)[k]? = some x := by rw [List.getElem?_eq_getElem hk, e]
  refine costL_at e' rfl (fun y hy => ?_)
  obtain ⟨j, hj, ej⟩ := List.getElem_of_mem hy
  rw [List.length_take] at hj
  rw [List.getElem_take] at ej
  have ej' : (outOf out u)[j]? = some y := by rw [List.getElem?_eq_getElem (by omega), ej]
  unfold outOf at e' ej'
  split at e'
  · rename_i hi
    rw [if_pos hi] at ej'
    have hu := isN_iff.1 hi
    have hl : out[u.toNat]? = some (out.getD u.toNat []) := by rw [List.getD_eq_getElem?_getD, List.getElem?_eq_getElem (by omega)]; rfl
    have := (hG _ _ hl).2 j k y x (by omega) ej' e'
    omega
  · simp at e'
/-- what the roads of a way cost, road by road -/
def sumK (out : List (List Rd)) : List Int → Int
  | u :: v :: l => costL (outOf out u) v + sumK out (v :: l)
  | _ => 0
theorem WayR.costs {n : Nat} {out : List (List Rd)} (hG : Roads.Good n out) {c : List Int} {u t : Int} {l : List Int} (hd : DistTo n (outOf out) t c) (h : WayR (outOf out) c t u l) : sumK out l = cv c u := by
  induction h with
  | stop => rw [hd.st]; rfl
  | @go u nx l hu h1 h2 h3 ih =>
    obtain ⟨x, hx, hC, rfl⟩ := h1
    obtain ⟨m, rfl⟩ := (h3.goes hd).ne
    have e := costL_road hG hx
    have := hC.2
    unfold sumK
    rw [ih, e]
    omega
theorem WayR.roads {n : Nat} {out : List (List Rd)} (hG : Roads.Good n out) (hN : Net n (outOf out)) {c : List Int} {u t : Int} {l : List Int} (hu : 0 ≤ u ∧ u < n) (hd : DistTo n (outOf out) t c) (h : WayR (outOf out) c t u l) : ∀ (k : Nat) (a b : Int), l[k]? = some a → l[k + 1]? = some b → 1 ≤ costL (outOf out a) b ∧ costL (outOf out a) b ≤ 1048576 := by
  induction h with
  | stop => intro k a b _ hb; simp at hb
  | @go u nx l hne h1 h2 h3 ih =>
    intro k a b ha hb
    obtain ⟨x, hx, hC, rfl⟩ := h1
    obtain ⟨m, rfl⟩ := (h3.goes hd).ne
    have r := hN.road _ _ hu.1 hu.2 hx
    cases k with
    | zero =>
      simp at ha hb
      subst ha; subst hb
      rw [costL_road hG hx]
      omega
    | succ k => exact ih ⟨r.1, r.2.1⟩ k a b ha hb
theorem sumK_snoc (out : List (List Rd)) (l : List Int) (u v : Int) : sumK out (l ++ [u, v]) = sumK out (l ++ [u]) + costL (outOf out u) v := by
  induction l with
  | nil => simp [sumK]
  | cons a l ih =>
    cases l with
    | nil => simp [sumK]
    | cons b l =>
      simp only [List.cons_append] at ih ⊢
      unfold sumK
      rw [ih]
      omega
theorem sumK_take (out : List (List Rd)) (l : List Int) (k : Nat) (a b : Int) (ha : l[k]? = some a) (hb : l[k + 1]? = some b) : sumK out (l.take (k + 2)) = sumK out (l.take (k + 1)) + costL (outOf out a) b := by
  rw [List.take_add_one, hb, List.take_add_one, ha]
  simp only [Option.toList_some, List.append_assoc]
  exact sumK_snoc out _ a b
/-- over this road a node is come to, by which it is just so dear -/
def Byit (c : List Int) (u : Int) (x : Rd) (v : Int) : Prop := 0 ≤ cv c u ∧ x.2.1 = v ∧ cv c v = cv c u + x.2.2
/-- which nodes are come to, so far: behind the nodes ahead of i and the first k roads of it -/
structure CameI (n : Nat) (outf : Int → List Rd) (s : Int) (c : List Int) (i k : Nat) (b : List Bool) : Prop where
  len : b.length = n
  is : ∀ v : Nat, v < n → (b.getD v false = true ↔ ((v : Int) = s ∨ (∃ (u : Nat) (x : Rd), u < i ∧ x ∈ outf (u : Int) ∧ Byit c u x v) ∨ ∃ x ∈ (outf (i : Int)).take k, Byit c i x v))
section
variable {n : Nat} {outf : Int → List Rd} {s : Int} {c : List Int} {i k : Nat} {b : List Bool}
theorem getD_set (b : List Bool) (u v : Nat) (x : Bool) (hu : u < b.length) : (b.set u x).getD v false = if v = u then x else b.getD v false := by
  rw [List.getD_eq_getElem?_getD, List.getElem?_set, List.getD_eq_getElem?_getD]
  by_cases e : v = u
  · subst e; rw [if_pos rfl, if_pos rfl, if_pos hu]; rfl
  · rw [if_neg e, if_neg (by omega)]
theorem CameI.start (hs : 0 ≤ s ∧ s < n) : CameI n outf s c 0 0 ((List.replicate n false).set s.toNat true) where
  len := by rw [List.length_set, List.length_replicate]
  is v hv := by
    rw [getD_set _ _ _ _ (by rw [List.length_replicate]; omega), List.getD_eq_getElem?_getD, List.getElem?_replicate, if_pos hv]
    constructor
    · intro h
      split at h
      · left; omega
      · simp at h
    · rintro (h | ⟨u, x, h, _⟩ | ⟨x, h, _⟩)
      · rw [if_pos (by omega)]
      · omega
      · simp at h
theorem CameI.next (h : CameI n outf s c i k b) (hk : (outf (i : Int)).length ≤ k) : CameI n outf s c (i + 1) 0 b where
  len := h.len
  is v hv := by
    rw [h.is v hv, List.take_of_length_le hk]
    constructor
    · rintro (q | ⟨u, x, q1, q2⟩ | ⟨x, q1, q2⟩)
      · exact Or.inl q
      · exact Or.inr (Or.inl ⟨u, x, by omega, q2⟩)
      · exact Or.inr (Or.inl ⟨i, x, by omega, q1, q2⟩)
    · rintro (q | ⟨u, x, q1, q2⟩ | ⟨x, q1, q2⟩)
      · exact Or.inl q
      · by_cases e : u = i
        · subst e; exact Or.inr (Or.inr ⟨x, q2⟩)
        · exact Or.inr (Or.inl ⟨u, x, by omega, q2⟩)
      · simp at q1
theorem CameI.step (h : CameI n outf s c i k b) {x : Rd} (hx : (outf (i : Int))[k]? = some x) (h0 : 0 ≤ x.2.1) (h1 : x.2.1 < n) {q : Bool} (hq : q = (b.getD x.2.1.toNat false || (decide (0 ≤ cv c i) && decide (cv c x.2.1 = cv c i + x.2.2)))) : CameI n outf s c i (k + 1) (b.set x.2.1.toNat q) where
  len := by rw [List.length_set]; exact h.len
  is v hv := by
    rw [getD_set _ _ _ _ (by rw [h.len]; omega)]
    have hm : ∀ y : Rd, y ∈ (outf (i : Int)).take (k + 1) ↔ y ∈ (outf (i : Int)).take k ∨ y = x := fun y => take_more hx
    by_cases e : v = x.2.1.toNat
    · rw [if_pos e, hq, ← e, Bool.or_eq_true, Bool.and_eq_true, decide_eq_true_iff, decide_eq_true_iff, h.is v hv]
      have ev : x.2.1 = (v : Int) := by omega
      constructor
      · rintro ((q | q | ⟨y, q1, q2⟩) | ⟨q1, q2⟩)
        · exact Or.inl q
        · exact Or.inr (Or.inl q)
        · exact Or.inr (Or.inr ⟨y, (hm y).2 (Or.inl q1), q2⟩)
        · exact Or.inr (Or.inr ⟨x, (hm x).2 (Or.inr rfl), q1, ev, by rw [← ev]; exact q2⟩)
      · rintro (q | q | ⟨y, q1, q2⟩)
        · exact Or.inl (Or.inl q)
        · exact Or.inl (Or.inr (Or.inl q))
        · rcases (hm y).1 q1 with q | rfl
          · exact Or.inl (Or.inr (Or.inr ⟨y, q, q2⟩))
          · exact Or.inr ⟨q2.1, by rw [ev]; exact q2.2.2⟩
    · rw [if_neg e, h.is v hv]
      constructor
      · rintro (q | q | ⟨y, q1, q2⟩)
        · exact Or.inl q
        · exact Or.inr (Or.inl q)
        · exact Or.inr (Or.inr ⟨y, (hm y).2 (Or.inl q1), q2⟩)
      · rintro (q | q | ⟨y, q1, q2⟩)
        · exact Or.inl q
        · exact Or.inr (Or.inl q)
        · rcases (hm y).1 q1 with q | rfl
          · exact Or.inr (Or.inr ⟨y, q, q2⟩)
          · have := q2.2.1
            omega
theorem CameI.done (h : CameI n outf s c n k b) (hN : Net n outf) (hd : Dist n outf s c) (hk : k = 0) (hs : 0 ≤ s) : ∀ v : Nat, v < n → (decide (0 ≤ cv c v)) = b.getD v false := by
  subst hk
  intro v hv
  have e : b.getD v false = true ↔ 0 ≤ cv c v := by
    rw [h.is v hv]
    constructor
    · rintro (q | ⟨u, x, q1, q2, q3⟩ | ⟨x, q1, _⟩)
      · rw [q, hd.st]; exact Int.le_refl _
      · have := hd.over (u : Int) x (by omega) (by omega) q3.1 q2
        rw [q3.2.1] at this
        exact this.1
      · simp at q1
    · intro q
      by_cases e : (v : Int) = s
      · exact Or.inl e
      · obtain ⟨u, u0, u1, u2, r, hr, e1, e2⟩ := hd.by_ (v : Int) (by omega) (by omega) q e
        refine Or.inr (Or.inl ⟨u.toNat, r, by omega, by rw [Int.toNat_of_nonneg u0]; exact hr, ?_⟩)
        rw [Int.toNat_of_nonneg u0]
        exact ⟨u2, e1, e2⟩
  by_cases q : 0 ≤ cv c v
  · rw [e.2 q, decide_eq_true q]
  · rw [decide_eq_false q]
    cases hb : b.getD v false with
    | false => rfl
    | true => exact absurd (e.1 hb) q
end
end Go.Proofs.Ytgbfhhmmkhjhhaa.Paths
namespace Go.Proofs.Ytgbfhhmmkhjhhaa.Paths
open Go.RowKit Go.Proofs.YtgbfhhmmkhjhhaaW.PrintWords Go.Proofs.YtgbfhhmmkhjhhaaW.PrintLast Go.Proofs.YtgbfhhmmkhjhhaaW.PrintMore Go.Proofs.Ytgbfhhmmkhjhhaa.HeapW Go.Proofs.Ytgbfhhmmkhjhhaa.HeapP Go.Proofs.Ytgbfhhmmkhjhhaa.MapAt Go.Proofs.Ytgbfhhmmkhjhhaa.Dij
open Go.Proofs.Ytgbfhhmmkhjhhaa.HeapIR hiding It Pt kIt_K infoZ reps_single
open Go.Proofs.Ytgbfhhmmkhjhhaa.Roads (kRd rd_at NetS outOf isN isN_iff isN_no)
set_option linter.unusedVariables false
set_option linter.unusedSimpArgs false
set_option maxHeartbeats 6400000 in
set_option maxRecDepth 100000 in
theorem cost_calls {w : World} {base g : Nat} {ps : List Roads.Pt} {out : List (List Rd)} {F : Nat → Prop} (h : NetS w base g ps out F) (hb : base ≤ w.heap.size) (fr tv : Int) :
    Calls Try.prog 15 #[.pointer (some ⟨g, 0, none⟩), .int .i64 fr, .int .i64 tv] w fun e w' => e = .returned (.int .i64 (costL (outOf out fr) tv)) ∧ Below w.heap.size w w' := by
  have H := Aside0.mk h
  have HL4 : Aside0 ((outOf out fr).length ≤ 4096) := ⟨out_len h.good rfl (by have := h.len; omega) _⟩
  clear h hb
  go_enter Try.func15, Try.ntmps15
  go_wp2_with fail
  refine (H.out.out fr).mono ?_
  rintro e w1 ⟨A, c, rfl, hr, hb1⟩
  obtain ⟨L, hL⟩ : ∃ L, L = (outOf out fr).length := ⟨_, rfl⟩
  have HLL := Aside0.mk hL
  have HC : Aside0 (Kd.C kRd w1 A L (outOf out fr)) := ⟨by rw [hL]; exact (Kd.R_reads' hr).2.2⟩
  have HB1 := Aside0.mk hb1
  rw [← hL]
  clear hr hb1 hL
  go_wp2_with ((with_reducible refine gate_upon ?_); go_simp)
  go_loopg [6, 8] L (fun kq v6 v8 w' => ∃ k : Nat, v6 = .int .i64 0 ∧ v8 = .int .i64 k ∧ Aside0 (k + kq = L) ∧ Aside0 (∀ y ∈ (outOf out fr).take k, y.2.1 ≠ tv) ∧ Aside0 (Below w1.heap.size w1 w'))
  case atStart => exact ⟨0, rfl, rfl, ⟨by omega⟩, ⟨by simp⟩, ⟨Below.refl _ _⟩⟩
  case round =>
    obtain ⟨k, rfl, rfl, HK, HP, HBW⟩ := hrel
    cases gk with
    | zero =>
      have hk : L = k := by have := HK.out; omega
      subst hk
      have hgt : decide (L < L) = false := decide_eq_false (by omega)
      go_wp2_with ((with_reducible refine gate_upon ?_); go_simp)
      go_ret
      refine ⟨?_, below_step HB1.out HBW.out⟩
      rw [costL_no (fun x hx => HP.out x (by rw [List.take_of_length_le (by rw [← HLL.out]; exact Nat.le_refl _)]; exact hx))]
      rfl
    | succ gk2 =>
      have hkl : k < L := by have := HK.out; omega
      have hlt : decide (k < L) = true := decide_eq_true hkl
      have hltI : (k : Int) < L := by omega
      obtain ⟨a, x, ha, hlx, hcx⟩ := rd_at HC.out HLL.out (by rw [← HLL.out]; exact hkl)
      obtain ⟨q0, q1, q2⟩ := hcx wr HBW.out
      have HLX := Aside0.mk hlx
      have HK1 : Aside0 (k + 1 + gk2 = L) := ⟨by have := HK.out; omega⟩
      have HWK : Aside0 (wrap64 ((k : Int) + 1) = (k : Int) + 1) := ⟨by unfold wrap64; have := HK.out; have := HL4.out; have := HLL.out; omega⟩
      subst ha
      clear hlx hcx
      by_cases e : x.2.1 = tv
      · have h1 : (x.2.1 == tv) = true := by rw [beq_iff_eq]; exact e
        have HE := Aside0.mk e
        clear e
        go_wp2_with ((with_reducible refine gate_upon ?_); go_simp)
        go_ret
        refine ⟨?_, below_step HB1.out HBW.out⟩
        rw [costL_at HLX.out HE.out HP.out]
        rfl
      · have h1 : (x.2.1 == tv) = false := by rw [beq_eq_false_iff_ne]; exact e
        have HE := Aside0.mk e
        clear e
        have hwk := HWK.out
        go_wp2_with ((with_reducible refine gate_upon ?_); go_simp)
        go_roundg gk2
        case measure => first | exact Nat.lt_succ_self _ | omega
        case rel => exact ⟨k + 1, rfl, by first | rfl | (simp; done) | (rw [hwk]; rfl), HK1, ⟨fun y hy => by
          rcases (take_more HLX.out).1 hy with q | q
          · exact HP.out y q
          · rw [q]; exact HE.out⟩, HBW⟩
end Go.Proofs.Ytgbfhhmmkhjhhaa.Paths
namespace Go.Proofs.Ytgbfhhmmkhjhhaa.Paths
open Go.RowKit Go.Proofs.YtgbfhhmmkhjhhaaW.PrintWords Go.Proofs.YtgbfhhmmkhjhhaaW.PrintLast Go.Proofs.YtgbfhhmmkhjhhaaW.PrintMore Go.Proofs.Ytgbfhhmmkhjhhaa.HeapW Go.Proofs.Ytgbfhhmmkhjhhaa.HeapP Go.Proofs.Ytgbfhhmmkhjhhaa.MapAt Go.Proofs.Ytgbfhhmmkhjhhaa.Dij
open Go.Proofs.Ytgbfhhmmkhjhhaa.HeapIR hiding It Pt kIt_K infoZ reps_single
open Go.Proofs.Ytgbfhhmmkhjhhaa.Roads (kRd rd_at NetS outOf isN isN_iff isN_no flat_keep)
set_option linter.unusedVariables false
set_option linter.unusedSimpArgs false
theorem row_at {W : World} {base gl n cap : Nat} {c : List Int} (h : kInt.R 3 W base (fun _ => True) (.slice (some ⟨gl, 0, none⟩) n cap) c) (v : Int) (h0 : 0 ≤ v) (h1 : v < n) : W.cell? ⟨gl, v.toNat, none⟩ = some (.int .i64 (cv c v)) :=
  (Kd.R_celln (n := n) (d := (-1 : Int)) h v h0 h1).1
theorem row_nat {W : World} {base gl n cap : Nat} {c : List Int} (h : kInt.R 3 W base (fun _ => True) (.slice (some ⟨gl, 0, none⟩) n cap) c) (v : Nat) (h1 : v < n) : W.cell? ⟨gl, v, none⟩ = some (.int .i64 (cv c (v : Int))) := by
  have := row_at h (v : Int) (by omega) (by omega)
  rwa [Int.toNat_natCast] at this
/-- a row that is none of the roads' blocks stays where the roads change -/
theorem row_chg {W W' : World} {base gl n cap : Nat} {c : List Int} {F : Nat → Prop} (h : kInt.R 3 W base (fun _ => True) (.slice (some ⟨gl, 0, none⟩) n cap) c) (hc : Chg F W W') (hF : ∀ k, F k → k < base) : kInt.R 3 W' base (fun _ => True) (.slice (some ⟨gl, 0, none⟩) n cap) c :=
  flat_keep flatInt h (fun k hk => hc.block k (Kd.R_lt h k hk) (fun q => by have := hF k q; have := Kd.R_base h k hk; omega)) (fun _ _ => trivial)
section
variable {w : World} {base g : Nat} {ps : List Roads.Pt} {out : List (List Rd)} {F : Nat → Prop}
theorem from_gone (h : NetS w base g ps out F) (hb : base ≤ w.heap.size) {v : Int} (hv : isN out.length v = false) : Calls Try.prog 11 #[.pointer (some ⟨g, 0, none⟩), .int .i64 v] w fun e w' => e = .returned (.tuple #[.slice none 0 0, .int .i64 131]) ∧ Below w.heap.size w w' := by
  refine (from_calls h hb v).mono ?_
  rintro e w' ⟨h1, (⟨_, h2⟩ | ⟨h2, _⟩)⟩
  · exact ⟨h2, h1⟩
  · rw [hv] at h2; cases h2
theorem from_row (h : NetS w base g ps out F) (hb : base ≤ w.heap.size) {v : Int} (hv : isN out.length v = true) {n : Nat} (hn : out.length = n) : Calls Try.prog 11 #[.pointer (some ⟨g, 0, none⟩), .int .i64 v] w fun e w' => ∃ (gl cc : Nat) (d : List Int), e = .returned (.tuple #[.slice (some ⟨gl, 0, none⟩) n cc, .int .i64 0]) ∧ kInt.R 3 w' w.heap.size (fun _ => True) (.slice (some ⟨gl, 0, none⟩) n cc) d ∧ Dist n (outOf out) v d ∧ Below w.heap.size w w' := by
  subst hn
  refine (from_calls h hb v).mono ?_
  rintro e w' ⟨h1, (⟨h2, _⟩ | ⟨h2, A, cc, c, rfl, hr, hd⟩)⟩
  · rw [hv] at h2; cases h2
  · have hv' := isN_iff.1 hv
    obtain ⟨gl, cap, hA, _⟩ := Kd.R_form hr (by rw [hd.len]; omega)
    rw [hd.len] at hA
    simp only [Value.slice.injEq] at hA
    obtain ⟨rfl, -, rfl⟩ := hA
    exact ⟨gl, cc, c, rfl, hr, hd, h1⟩
theorem way_gone (h : NetS w base g ps out F) (hb : base ≤ w.heap.size) {fr tv : Int} (hv : (isN out.length fr && isN out.length tv) = false) : Calls Try.prog 14 #[.pointer (some ⟨g, 0, none⟩), .int .i64 fr, .int .i64 tv] w fun e w' => e = .returned (.tuple #[.slice none 0 0, .int .i64 0, .int .i64 131]) ∧ Below w.heap.size w w' := by
  refine (way_calls h hb fr tv).mono ?_
  rintro e w' ⟨h1, (⟨_, h2⟩ | ⟨h2, _⟩)⟩
  · exact ⟨h2, h1⟩
  · rw [hv] at h2; cases h2
theorem way_any (h : NetS w base g ps out F) (hb : base ≤ w.heap.size) {fr tv : Int} (hv : (isN out.length fr && isN out.length tv) = true) : Calls Try.prog 14 #[.pointer (some ⟨g, 0, none⟩), .int .i64 fr, .int .i64 tv] w fun e w' => ∃ c, DistTo out.length (outOf out) tv c ∧ Below w.heap.size w w' ∧ ((cv c fr < 0 ∧ e = .returned (.tuple #[.slice none 0 0, .int .i64 0, .int .i64 131])) ∨ (0 ≤ cv c fr ∧ ∃ (gl cc : Nat) (l : List Int), e = .returned (.tuple #[.slice (some ⟨gl, 0, none⟩) l.length cc, .int .i64 (cv c fr), .int .i64 0]) ∧ kInt.R 3 w' w.heap.size (fun _ => True) (.slice (some ⟨gl, 0, none⟩) l.length cc) l ∧ WayR (outOf out) c tv fr l)) := by
  refine (way_calls h hb fr tv).mono ?_
  rintro e w' ⟨h1, (⟨h2, _⟩ | ⟨h2, c, hd, h3⟩)⟩
  · rw [hv] at h2; cases h2
  · refine ⟨c, hd, h1, ?_⟩
    rcases h3 with h3 | ⟨h3, A, cc, l, rfl, hr, hw⟩
    · exact Or.inl h3
    · obtain ⟨m, hm⟩ := (hw.goes hd).ne
      obtain ⟨gl, cap, hA, _⟩ := Kd.R_form hr (by rw [hm]; simp)
      simp only [Value.slice.injEq] at hA
      obtain ⟨rfl, -, rfl⟩ := hA
      exact Or.inr ⟨h3, gl, cc, l, rfl, hr, hw⟩
end
end Go.Proofs.Ytgbfhhmmkhjhhaa.Paths
