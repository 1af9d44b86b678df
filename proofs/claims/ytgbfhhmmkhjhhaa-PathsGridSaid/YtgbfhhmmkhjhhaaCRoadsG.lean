/- Roads: what Node, Road, Nodes, Out do, told without the roads' rows. Conditions: those that stand in each theorem. Written in session 6. -/
import Derived.Test.YtgbfhhmmkhjhhaaCRoadsR
import Derived.Test.YtgbfhhmmkhjhhaaCHeapB
namespace Go.Proofs.Ytgbfhhmmkhjhhaa.Roads
open Go.RowKit Go.Proofs.YtgbfhhmmkhjhhaaW.PrintWords Go.Proofs.YtgbfhhmmkhjhhaaW.PrintLast Go.Proofs.YtgbfhhmmkhjhhaaW.PrintMore Go.Proofs.Ytgbfhhmmkhjhhaa.HeapW Go.Proofs.Ytgbfhhmmkhjhhaa.MapAt Go.Proofs.Ytgbfhhmmkhjhhaa.Copy
set_option linter.unusedVariables false
set_option linter.unusedSimpArgs false
/-- each node's roads: from it, over the plane's nodes, in order -/
def Good (n : Nat) (out : List (List Rd)) : Prop := ∀ (j : Nat) (l : List Rd), out[j]? = some l → (∀ x ∈ l, x.1 = (j : Int) ∧ 0 ≤ x.2.1 ∧ x.2.1 < n ∧ x.2.1 ≠ (j : Int) ∧ 1 ≤ x.2.2 ∧ x.2.2 ≤ 1048576) ∧ ∀ (i k : Nat) (x y : Rd), i < k → l[i]? = some x → l[k]? = some y → x.2.1 < y.2.1
/-- the place of a road in order -/
def place (l : List Rd) (tv : Int) : Nat := (l.takeWhile (fun x => decide (x.2.1 < tv))).length
theorem place_eq {l : List Rd} {tv : Int} {i : Nat} (hi : i ≤ l.length) (h1 : ∀ (k : Nat) (x : Rd), k < i → l[k]? = some x → x.2.1 < tv) (h2 : ∀ (k : Nat) (x : Rd), i ≤ k → l[k]? = some x → tv < x.2.1) : place l tv = i := by
  unfold place
  induction l generalizing i with
  | nil => simp at hi; simp [hi]
  | cons a r ih =>
    cases i with
    | zero =>
      have := h2 0 a (Nat.le_refl _) rfl
      rw [List.takeWhile_cons, if_neg (by simp; omega)]
      rfl
    | succ i =>
      have := h1 0 a (by omega) rfl
      rw [List.takeWhile_cons, if_pos (by simp; omega), List.length_cons, ih (i := i) (by simp at hi; omega) (fun k x hk hx => h1 (k + 1) x (by omega) (by simpa using hx)) (fun k x hk hx => h2 (k + 1) x (by omega) (by simpa using hx))]
theorem mem_ins {l : List Rd} {i : Nat} {x y : Rd} : y ∈ insL l i x ↔ y ∈ l ∨ y = x := by
  unfold insL
  rw [List.mem_append, List.mem_append, List.mem_singleton]
  constructor
  · rintro ((h | h) | h)
    · exact Or.inl (List.mem_of_mem_take h)
    · exact Or.inr h
    · exact Or.inl (List.mem_of_mem_drop h)
  · rintro (h | h)
    · rw [← List.take_append_drop i l, List.mem_append] at h
      rcases h with h | h
      · exact Or.inl (Or.inl h)
      · exact Or.inr h
    · exact Or.inl (Or.inr h)
theorem ins_at {α : Type} {l : List α} {i : Nat} {x : α} (hi : i ≤ l.length) (j : Nat) : (insL l i x)[j]? = if j < i then l[j]? else if j = i then some x else l[j - 1]? := by
  unfold insL
  rw [List.append_assoc, List.getElem?_append, List.length_take, Nat.min_eq_left hi]
  by_cases h1 : j < i
  · rw [if_pos h1, if_pos h1, List.getElem?_take, if_pos h1]
  · rw [if_neg h1, if_neg h1, List.singleton_append]
    by_cases h2 : j = i
    · subst h2
      simp
    · rw [if_neg h2, show j - i = (j - i - 1) + 1 by omega, List.getElem?_cons_succ, List.getElem?_drop]
      congr 1
      omega
theorem Good.ins {n : Nat} {out : List (List Rd)} (h : Good n out) {j : Nat} {l : List Rd} (hl : out[j]? = some l) {tv co : Int} {i : Nat} (hi : i ≤ l.length) (h1 : ∀ (k : Nat) (x : Rd), k < i → l[k]? = some x → x.2.1 < tv) (h2 : ∀ (k : Nat) (x : Rd), i ≤ k → l[k]? = some x → tv < x.2.1) (ht : 0 ≤ tv ∧ tv < n) (hne : (j : Int) ≠ tv) (hc : 1 ≤ co ∧ co ≤ 1048576) : Good n (out.set j (insL l i ((j : Int), tv, co))) := by
  intro k l' hk
  rcases set_get hk with ⟨rfl, rfl⟩ | ⟨_, q⟩
  · obtain ⟨g1, g2⟩ := h _ _ hl
    refine ⟨fun x hx => ?_, fun a b x y hab hx hy => ?_⟩
    · rcases mem_ins.1 hx with q | rfl
      · exact g1 x q
      · exact ⟨rfl, ht.1, ht.2, Ne.symm hne, hc.1, hc.2⟩
    · rw [ins_at hi] at hx hy
      by_cases ha : a < i
      · rw [if_pos ha] at hx
        by_cases hb : b < i
        · rw [if_pos hb] at hy
          exact g2 a b x y hab hx hy
        · rw [if_neg hb] at hy
          by_cases hb2 : b = i
          · rw [if_pos hb2] at hy
            cases hy
            exact h1 a x ha hx
          · rw [if_neg hb2] at hy
            exact g2 a (b - 1) x y (by omega) hx hy
      · rw [if_neg ha] at hx
        rw [if_neg (by omega), if_neg (by omega)] at hy
        by_cases ha2 : a = i
        · rw [if_pos ha2] at hx
          cases hx
          exact h2 (b - 1) y (by omega) hy
        · rw [if_neg ha2] at hx
          exact g2 (a - 1) (b - 1) x y (by omega) hx hy
  · exact h k l' q
theorem Good.len {n : Nat} {out : List (List Rd)} (h : Good n out) {j : Nat} {l : List Rd} (hl : out[j]? = some l) (hj : j < n) : l.length < n := by
  obtain ⟨g1, g2⟩ := h _ _ hl
  have hn : (((j : Int)) :: l.map (fun x => x.2.1)).Nodup := by
    rw [List.nodup_cons]
    refine ⟨fun hm => ?_, ?_⟩
    · obtain ⟨x, hx, e⟩ := List.mem_map.1 hm
      exact (g1 x hx).2.2.2.1 e
    · unfold List.Nodup
      rw [List.pairwise_map, List.pairwise_iff_getElem]
      intro a b ha hb hab
      have := g2 a b _ _ hab (List.getElem?_eq_getElem ha) (List.getElem?_eq_getElem hb)
      omega
  have := Dij.nodup_le (n := n) hn (by
    intro v hv
    rcases List.mem_cons.1 hv with rfl | hv
    · omega
    · obtain ⟨x, hx, rfl⟩ := List.mem_map.1 hv
      exact ⟨(g1 x hx).2.1, (g1 x hx).2.2.1⟩)
  rw [List.length_cons, List.length_map] at this
  omega
theorem Good.more {n : Nat} {out : List (List Rd)} (h : Good n out) : Good (n + 1) (out ++ [[]]) := by
  intro j l hl
  rw [List.getElem?_append] at hl
  split at hl
  · obtain ⟨g1, g2⟩ := h j l hl
    exact ⟨fun x hx => by have := g1 x hx; omega, g2⟩
  · have : l = [] := by
      rcases hh : j - out.length with _ | m
      · rw [hh] at hl
        simpa using hl.symm
      · rw [hh] at hl
        simp at hl
    subst this
    exact ⟨by simp, by simp⟩
/-- Node: what it answers, the nodes, the roads -/
def nodeP (ps : List Pt) (out : List (List Rd)) (p : Pt) : (Int × Int) × List Pt × List (List Rd) :=
  if 4096 ≤ ps.length then ((0, 3), ps, out) else if p ∈ ps then ((0, 130), ps, out) else (((ps.length : Nat), 0), ps ++ [p], out ++ [[]])
/-- the roads from a node -/
def outOf (out : List (List Rd)) (v : Int) : List Rd := if isN out.length v = true then out.getD v.toNat [] else []
/-- Road: what it answers, the roads -/
def roadP (out : List (List Rd)) (fr tv co : Int) : Int × List (List Rd) :=
  if ¬ (isN out.length fr = true ∧ isN out.length tv = true) then (131, out) else if fr = tv ∨ co < 1 ∨ 1048576 < co then (1, out) else if (outOf out fr).any (fun x => decide (x.2.1 = tv)) then (130, out) else (0, out.set fr.toNat (insL (outOf out fr) (place (outOf out fr) tv) (fr, tv, co)))
/-- roads at block g; their blocks are F -/
def NetS (w : World) (base g : Nat) (ps : List Pt) (out : List (List Rd)) (F : Nat → Prop) : Prop :=
  ∃ PA pc OA oc b hs, NetAt w base g PA pc OA oc b ps hs out ∧ F = nfp g b PA OA hs ∧ Good ps.length out
theorem NetS.below {w w' : World} {base g : Nat} {ps : List Pt} {out : List (List Rd)} {F : Nat → Prop} (h : NetS w base g ps out F) (hb : Below w.heap.size w w') : NetS w' base g ps out F := by
  obtain ⟨PA, pc, OA, oc, b, hs, h1, h2, h3⟩ := h
  exact ⟨PA, pc, OA, oc, b, hs, h1.below hb, h2, h3⟩
theorem NetS.move {w w' : World} {base g : Nat} {ps : List Pt} {out : List (List Rd)} {F : Nat → Prop} (h : NetS w base g ps out F) (hm : ∀ k, F k → w'.heap[k]? = w.heap[k]?) : NetS w' base g ps out F := by
  obtain ⟨PA, pc, OA, oc, b, hs, h1, rfl, h3⟩ := h
  exact ⟨PA, pc, OA, oc, b, hs, h1.move hm, rfl, h3⟩
theorem NetS.chg {w w' : World} {base g : Nat} {ps : List Pt} {out : List (List Rd)} {F G : Nat → Prop} (h : NetS w base g ps out F) (hc : Chg G w w') (hFG : ∀ k, F k → ¬ G k) : NetS w' base g ps out F := by
  have h0 := h
  obtain ⟨PA, pc, OA, oc, b, hs, h1, rfl, h3⟩ := h
  exact h0.move (fun k hk => hc.block k (h1.fp_ge k hk).2 (hFG k hk))
theorem NetS.ge {w : World} {base g : Nat} {ps : List Pt} {out : List (List Rd)} {F : Nat → Prop} (h : NetS w base g ps out F) (k : Nat) (hk : F k) : base ≤ k ∧ k < w.heap.size := by
  obtain ⟨PA, pc, OA, oc, b, hs, h1, rfl, h3⟩ := h
  exact h1.fp_ge k hk
theorem NetS.at_g {w : World} {base g : Nat} {ps : List Pt} {out : List (List Rd)} {F : Nat → Prop} (h : NetS w base g ps out F) : F g := by
  obtain ⟨PA, pc, OA, oc, b, hs, h1, rfl, h3⟩ := h
  exact Or.inl rfl
theorem NetS.len {w : World} {base g : Nat} {ps : List Pt} {out : List (List Rd)} {F : Nat → Prop} (h : NetS w base g ps out F) : out.length = ps.length ∧ ps.length ≤ 4096 := by
  obtain ⟨PA, pc, OA, oc, b, hs, h1, rfl, h3⟩ := h
  exact ⟨h1.len.2, h1.most⟩
theorem NetS.good {w : World} {base g : Nat} {ps : List Pt} {out : List (List Rd)} {F : Nat → Prop} (h : NetS w base g ps out F) : Good out.length out := by
  have hl := h.len.1
  obtain ⟨PA, pc, OA, oc, b, hs, h1, rfl, h3⟩ := h
  rw [hl]
  exact h3
theorem new_net (w : World) : Calls Try.prog 24 #[] w fun e w' => ∃ g F, e = .returned (.pointer (some ⟨g, 0, none⟩)) ∧ NetS w' w.heap.size g [] [] F ∧ Below w.heap.size w w' := by
  refine (new_calls w).mono ?_
  rintro e w' ⟨g, b, rfl, h, hb⟩
  exact ⟨g, _, rfl, ⟨_, _, _, _, _, _, h, rfl, fun j l hl => by simp at hl⟩, hb⟩
theorem NetS.nodes {w : World} {base g : Nat} {ps : List Pt} {out : List (List Rd)} {F : Nat → Prop} (h : NetS w base g ps out F) : Calls Try.prog 12 #[.pointer (some ⟨g, 0, none⟩)] w fun e w' => e = .returned (.int .i64 (out.length : Nat)) ∧ w' = w := by
  rw [h.len.1]
  obtain ⟨PA, pc, OA, oc, b, hs, h1, rfl, h3⟩ := h
  exact h1.nodes
theorem NetS.node {w : World} {base g : Nat} {ps : List Pt} {out : List (List Rd)} {F : Nat → Prop} (h : NetS w base g ps out F) (hb : base ≤ w.heap.size) (p : Pt) (hp : okP p) :
    Calls Try.prog 25 #[.pointer (some ⟨g, 0, none⟩), .agg #[.int .i16 p.1, .int .i16 p.2]] w fun e w' => e = .returned (.tuple #[.int .i64 (nodeP ps out p).1.1, .int .i64 (nodeP ps out p).1.2]) ∧ ∃ F', NetS w' base g (nodeP ps out p).2.1 (nodeP ps out p).2.2 F' ∧ Chg F w w' ∧ ∀ k, F' k → F k ∨ w.heap.size ≤ k := by
  obtain ⟨PA, pc, OA, oc, b, hs, h1, rfl, h3⟩ := h
  unfold nodeP
  by_cases hf : 4096 ≤ ps.length
  · rw [if_pos hf]
    refine (h1.node_full p (by have := h1.most; omega)).mono ?_
    rintro e w' ⟨rfl, hw⟩
    exact ⟨rfl, _, ⟨PA, pc, OA, oc, b, hs, h1.below hw, rfl, h3⟩, Chg.of_below hw, fun k hk => Or.inl hk⟩
  · rw [if_neg hf]
    by_cases hin : p ∈ ps
    · rw [if_pos hin]
      refine (h1.node_twice p hp (by omega) hin).mono ?_
      rintro e w' ⟨rfl, hw⟩
      exact ⟨rfl, _, ⟨PA, pc, OA, oc, b, hs, h1.below hw, rfl, h3⟩, Chg.of_below hw, fun k hk => Or.inl hk⟩
    · rw [if_neg hin]
      refine (h1.node_new p hp (by omega) hin hb).mono ?_
      rintro e w' ⟨rfl, PA', pc', OA', oc', h4, h5, h6⟩
      refine ⟨rfl, _, ⟨PA', pc', OA', oc', b, _, h4, rfl, ?_⟩, h5, h6⟩
      show Good (ps ++ [p]).length _
      rw [List.length_append]
      exact h3.more
theorem NetS.road {w : World} {base g : Nat} {ps : List Pt} {out : List (List Rd)} {F : Nat → Prop} (h : NetS w base g ps out F) (hb : base ≤ w.heap.size) (fr tv co : Int) :
    Calls Try.prog 17 #[.pointer (some ⟨g, 0, none⟩), .int .i64 fr, .int .i64 tv, .int .i64 co] w fun e w' => e = .returned (.int .i64 (roadP out fr tv co).1) ∧ ∃ F', NetS w' base g ps (roadP out fr tv co).2 F' ∧ Chg F w w' ∧ ∀ k, F' k → F k ∨ w.heap.size ≤ k := by
  have hlen := h.len
  obtain ⟨PA, pc, OA, oc, b, hs, h1, rfl, h3⟩ := h
  unfold roadP
  rw [hlen.1]
  by_cases hg : ¬ (isN ps.length fr = true ∧ isN ps.length tv = true)
  · rw [if_pos hg]
    refine (h1.road_gone fr tv co (fun q => hg ⟨isN_iff.2 q.1, isN_iff.2 q.2⟩)).mono ?_
    rintro e w' ⟨rfl, rfl⟩
    exact ⟨rfl, _, ⟨PA, pc, OA, oc, b, hs, h1, rfl, h3⟩, Chg.refl _ _, fun k hk => Or.inl hk⟩
  · rw [if_neg hg]
    obtain ⟨hf, ht⟩ := Classical.not_not.1 hg
    by_cases ha : fr = tv ∨ co < 1 ∨ 1048576 < co
    · rw [if_pos ha]
      refine (h1.road_arg fr tv co (isN_iff.1 hf) (isN_iff.1 ht) ha).mono ?_
      rintro e w' ⟨rfl, rfl⟩
      exact ⟨rfl, _, ⟨PA, pc, OA, oc, b, hs, h1, rfl, h3⟩, Chg.refl _ _, fun k hk => Or.inl hk⟩
    · rw [if_neg ha]
      obtain ⟨i, rfl⟩ : ∃ i : Nat, fr = (i : Int) := ⟨fr.toNat, by have := (isN_iff.1 hf).1; omega⟩
      have hi : i < out.length := by have := (isN_iff.1 hf).2; omega
      have hl : out[i]? = some out[i] := List.getElem?_eq_getElem hi
      have ho : outOf out (i : Int) = out[i] := by
        unfold outOf
        rw [if_pos (by rw [hlen.1]; exact hf), Int.toNat_natCast, List.getD_eq_getElem?_getD, hl]
        rfl
      rw [ho]
      obtain ⟨l, hll⟩ : ∃ l, l = out[i] := ⟨_, rfl⟩
      rw [← hll] at hl ⊢
      obtain ⟨g1, g2⟩ := h3 i l hl
      have hx : ∀ x ∈ l, 0 ≤ x.2.1 ∧ x.2.1 < ps.length := fun x hx => ⟨(g1 x hx).2.1, (g1 x hx).2.2.1⟩
      by_cases hany : l.any (fun x => decide (x.2.1 = tv)) = true
      · rw [if_pos hany]
        rw [List.any_eq_true] at hany
        obtain ⟨x, hxm, hxt⟩ := hany
        refine (h1.road_twice i tv co l hl (isN_iff.1 ht) (fun e => ha (Or.inl e)) (by omega) (by omega) g2 hx ⟨x, hxm, by simpa using hxt⟩).mono ?_
        rintro e w' ⟨rfl, hw⟩
        exact ⟨rfl, _, ⟨PA, pc, OA, oc, b, hs, h1.below hw, rfl, h3⟩, Chg.of_below hw, fun k hk => Or.inl hk⟩
      · rw [if_neg hany]
        have hno : ∀ x ∈ l, x.2.1 ≠ tv := fun x hxm e => hany (List.any_eq_true.2 ⟨x, hxm, by simpa using e⟩)
        have hlt := h3.len hl (by rw [← hlen.1]; exact hi)
        refine (h1.road_new i tv co l hl (isN_iff.1 ht) (fun e => ha (Or.inl e)) (by omega) (by omega) g2 hx hno (by omega) hb).mono ?_
        rintro e w' ⟨rfl, OA', oc', hs', i4, h4, h5, h6, h7, h8, h9⟩
        have hp := place_eq h5 h6 h7
        rw [hp, Int.toNat_natCast]
        exact ⟨rfl, _, ⟨PA, pc, OA', oc', b, hs', h4, rfl, h3.ins hl h5 h6 h7 (isN_iff.1 ht) (fun e => ha (Or.inl e)) (by omega)⟩, h8, h9⟩
theorem NetS.out {w : World} {base g : Nat} {ps : List Pt} {out : List (List Rd)} {F : Nat → Prop} (h : NetS w base g ps out F) (v : Int) :
    Calls Try.prog 13 #[.pointer (some ⟨g, 0, none⟩), .int .i64 v] w fun e w' => ∃ A cap, e = .returned (.slice A (outOf out v).length cap) ∧ kRd.R 40 w' w.heap.size (fun _ => True) (.slice A (outOf out v).length cap) (outOf out v) ∧ Below w.heap.size w w' := by
  have hlen := h.len
  obtain ⟨PA, pc, OA, oc, b, hs, h1, rfl, h3⟩ := h
  unfold outOf
  by_cases hf : isN out.length v = true
  · rw [if_pos hf]
    obtain ⟨i, rfl⟩ : ∃ i : Nat, v = (i : Int) := ⟨v.toNat, by have := (isN_iff.1 hf).1; omega⟩
    have hi : i < out.length := by have := (isN_iff.1 hf).2; omega
    have hl : out[i]? = some out[i] := List.getElem?_eq_getElem hi
    have e : out.getD (i : Int).toNat [] = out[i] := by
      rw [Int.toNat_natCast, List.getD_eq_getElem?_getD, hl]
      rfl
    rw [e]
    exact h1.outs i out[i] hl
  · rw [if_neg hf]
    refine (h1.out_gone v (fun q => hf (by rw [hlen.1]; exact isN_iff.2 q))).mono ?_
    rintro e w' ⟨rfl, rfl⟩
    exact ⟨none, 0, rfl, Kd.R_nil _ _ _ _ _, Below.refl _ _⟩
end Go.Proofs.Ytgbfhhmmkhjhhaa.Roads
