/- HeapKinds: the order by two numbers, '==' of points and riders, which of a list is the best. Conditions: those that stand in each theorem. Written in this session. -/
import Derived.Test.YtibipbfmhbkpiaaHeapPRC
import Derived.Test.YtibipbfmhbkpiaaHeapPRD
import Derived.Test.YtibipbfmhbkpiaaHeapS
import Derived.Test.YtibipbfmhbkpiaaHeapAl
import Derived.Test.YtibipbfmhbkpiaaQ33
import Derived.Test.YtibipbfmhbkpiaaWEqStruct
namespace Go.Proofs.Ytibipbfmhbkpiaa.HeapPR
open Go.RowKit Go.Proofs.YtibipbfmhbkpiaaW.PrintWords Go.Proofs.YtibipbfmhbkpiaaW.PrintLast Go.Proofs.YtibipbfmhbkpiaaW.PrintMore Go.Proofs.Ytibipbfmhbkpiaa.HeapW Go.Proofs.Ytibipbfmhbkpiaa.HeapP Go.Proofs.Ytibipbfmhbkpiaa.MapAt Go.Proofs.Ytibipbfmhbkpiaa.Q
set_option linter.unusedVariables false
set_option linter.unusedSimpArgs false
def soon (a b : Pt) : Bool := if a.1 = b.1 then decide (a.2 < b.2) else decide (a.1 < b.1)
theorem swo_soon : Swo soon := ⟨fun a b h => by
  unfold soon at *
  split at h
  · rename_i e
    rw [if_pos e.symm]
    simp at *
    omega
  · rename_i e
    rw [if_neg (fun q => e q.symm)]
    simp at *
    omega, fun a b c h => by
  have hs : ∀ x y : Pt, soon x y = true ↔ (x.1 < y.1 ∨ x.1 = y.1 ∧ x.2 < y.2) := fun x y => by
    unfold soon
    split
    · rename_i q
      simp [q]
    · rename_i q
      simp [q]
  rw [hs] at h ⊢
  rw [hs]
  omega⟩
theorem less_soon : Less 24 soon where
  fn := ⟨Try.f24, Try.func24, by kernel_rfl, by kernel_rfl⟩
  calls a b w := by
    refine cabstandlaw07_sooner.calls a.1 a.2 b.1 b.2 (soon a b) w ?_
    unfold cabstandlaw07_sooner.f soon
    split <;> rfl
theorem eqi (k : IntKind) {t : TypeId} (ht : Try.prog.underlying t = some (.int k)) (x y : Int) (d : Nat) (W : World) : (Op.equalIn (d + 1) t (.int k x) (.int k y)).run Try.prog W = .ok (x == y) W := by
  rw [run_equalIn_int (P := Try.prog) W d t k k x y ht]
theorem parti {t : TypeId} (h : ∀ W, (isAgg t).run Try.prog W = .ok false W) (xs : Array Value) (i : Nat) (u : Value) (W : World) (hx : xs[i]? = some u) : (part t xs i).run Try.prog W = .ok u W := by
  simp [part, Sem.run_bind, h W, hx]
theorem agg16 (W : World) : (isAgg 64).run Try.prog W = .ok false W := by kernel_rfl
theorem agg64 (W : World) : (isAgg 3).run Try.prog W = .ok false W := by kernel_rfl
theorem eq_point (a b c d : Int) (W : World) : (binOp .eql 66 (.agg #[.int .i16 a, .int .i16 b]) (.agg #[.int .i16 c, .int .i16 d])).run Try.prog W = .ok (.bool (a == c && b == d)) W := by
  have h := eqA_of (P := Try.prog) (d := 9999) (w := W) (xs := #[.int .i16 a, .int .i16 b]) (ys := #[.int .i16 c, .int .i16 d]) Try.underlying66 (by kernel_rfl) (eqf_cons (by rfl) (parti agg16 _ 0 _ W rfl) (parti agg16 _ 0 _ W rfl) (eqi .i16 Try.underlying64 a c 9998 W) (eqf_last (by rfl) (parti agg16 _ 1 _ W rfl) (parti agg16 _ 1 _ W rfl) (eqi .i16 Try.underlying64 b d 9998 W)))
  simp only [binOp]
  have e : (Op.equal 66 (.agg #[.int .i16 a, .int .i16 b]) (.agg #[.int .i16 c, .int .i16 d])).run Try.prog W = .ok (a == c && b == d) W := h
  simp [e]
theorem eq_rider (a b c d : Int) (W : World) : (binOp .eql 68 (.agg #[.int .i64 a, .int .i64 b]) (.agg #[.int .i64 c, .int .i64 d])).run Try.prog W = .ok (.bool (a == c && b == d)) W := by
  have h := eqA_of (P := Try.prog) (d := 9999) (w := W) (xs := #[.int .i64 a, .int .i64 b]) (ys := #[.int .i64 c, .int .i64 d]) Try.underlying68 (by kernel_rfl) (eqf_cons (by rfl) (parti agg64 _ 0 _ W rfl) (parti agg64 _ 0 _ W rfl) (eqi .i64 Try.underlying3 a c 9998 W) (eqf_last (by rfl) (parti agg64 _ 1 _ W rfl) (parti agg64 _ 1 _ W rfl) (eqi .i64 Try.underlying3 b d 9998 W)))
  simp only [binOp]
  have e : (Op.equal 68 (.agg #[.int .i64 a, .int .i64 b]) (.agg #[.int .i64 c, .int .i64 d])).run Try.prog W = .ok (a == c && b == d) W := h
  simp [e]
def kPt : Kd Kt := Kd.pair (Kd.int .i16) (Kd.int .i16)
theorem at_pt {w : World} {A : Option Addr} {n : Nat} {xs : List Kt} (h : Kd.C kPt w A n xs) (i : Nat) (hi : i < n) : ∃ ad, A = some ad ∧ w.cell? (ad.add (i * 2)) = some (.int .i16 (xs.getD i default).1) ∧ w.cell? ⟨(ad.add (i * 2)).block, (ad.add (i * 2)).off + 1, none⟩ = some (.int .i16 (xs.getD i default).2) := by
  obtain ⟨ad, c, e, _, hK, hc0⟩ := Kd.C_get h default (i : Int) (by omega) (by omega)
  rw [Int.toNat_natCast] at hK hc0
  have hc : ∀ j u, c[j]? = some u → w.cell? (ad.add (i * 2 + j)) = some u := hc0
  obtain ⟨_, _, rfl, h0, h1⟩ := hK
  cases h0; cases h1
  exact ⟨ad, e, hc 0 _ rfl, by rw [← add_field _ _ 1 (by omega)]; exact hc 1 _ rfl⟩
/-- what came, as pairs -/
def plL (l : List Kt) (ds : List Int) (n : Nat) : List (Kt × Pt) := (List.range n).map (fun j => (l.getD j default, (rd ds j, (j : Int))))
theorem plL_len (l : List Kt) (ds : List Int) (n : Nat) : (plL l ds n).length = n := by simp [plL]
theorem plL_get (l : List Kt) (ds : List Int) {n j : Nat} (h : j < n) : (plL l ds n).getD j default = (l.getD j default, (rd ds j, (j : Int))) := by
  unfold plL
  rw [List.getD_eq_getElem?_getD, List.getElem?_map, List.getElem?_range h]
  rfl
/-- the best of the first i -/
def BestAt (l : List Kt) (ds : List Int) (n i : Nat) (b : Int) : Prop :=
  (b = -1 ∧ ∀ j, j < i → lastUp (plL l ds n) n j = false) ∨ ∃ b' : Nat, b = b' ∧ b' < i ∧ lastUp (plL l ds n) n b' = true ∧ ∀ j, j < i → lastUp (plL l ds n) n j = true → rd ds b' ≤ rd ds j ∧ (j < b' → rd ds b' < rd ds j)
theorem BestAt.start (l : List Kt) (ds : List Int) (n : Nat) : BestAt l ds n 0 (-1) := Or.inl ⟨rfl, fun j h => by omega⟩
theorem BestAt.skip {l : List Kt} {ds : List Int} {n i : Nat} {b : Int} (h : BestAt l ds n i b) (hl : lastUp (plL l ds n) n i = false) : BestAt l ds n (i + 1) b := by
  rcases h with ⟨h1, h2⟩ | ⟨b', h1, h2, h3, h4⟩
  · refine Or.inl ⟨h1, fun j hj => ?_⟩
    by_cases e : j = i
    · subst e; exact hl
    · exact h2 j (by omega)
  · refine Or.inr ⟨b', h1, by omega, h3, fun j hj hjl => ?_⟩
    by_cases e : j = i
    · subst e; rw [hl] at hjl; cases hjl
    · exact h4 j (by omega) hjl
theorem BestAt.first {l : List Kt} {ds : List Int} {n i : Nat} (h : BestAt l ds n i (-1)) (hl : lastUp (plL l ds n) n i = true) : BestAt l ds n (i + 1) i := by
  rcases h with ⟨h1, h2⟩ | ⟨b', h1, h2, h3, h4⟩
  · refine Or.inr ⟨i, rfl, by omega, hl, fun j hj hjl => ?_⟩
    by_cases e : j = i
    · subst e; exact ⟨Int.le_refl _, fun q => by omega⟩
    · rw [h2 j (by omega)] at hjl; cases hjl
  · omega
theorem BestAt.better {l : List Kt} {ds : List Int} {n i b : Nat} (h : BestAt l ds n i b) (hl : lastUp (plL l ds n) n i = true) (hd : rd ds i < rd ds b) : BestAt l ds n (i + 1) i := by
  rcases h with ⟨h1, h2⟩ | ⟨b', h1, h2, h3, h4⟩
  · omega
  · have e : b = b' := by omega
    subst e
    refine Or.inr ⟨i, rfl, by omega, hl, fun j hj hjl => ?_⟩
    by_cases e : j = i
    · subst e; exact ⟨Int.le_refl _, fun q => by omega⟩
    · have := (h4 j (by omega) hjl).1
      exact ⟨by omega, fun _ => by omega⟩
theorem BestAt.keep {l : List Kt} {ds : List Int} {n i b : Nat} (h : BestAt l ds n i b) (hl : lastUp (plL l ds n) n i = true) (hd : ¬ rd ds i < rd ds b) : BestAt l ds n (i + 1) b := by
  rcases h with ⟨h1, h2⟩ | ⟨b', h1, h2, h3, h4⟩
  · omega
  · have e : b = b' := by omega
    subst e
    refine Or.inr ⟨b, rfl, by omega, h3, fun j hj hjl => ?_⟩
    by_cases e : j = i
    · subst e; exact ⟨by omega, fun q => by omega⟩
    · exact h4 j (by omega) hjl
theorem BestAt.none {l : List Kt} {ds : List Int} {n : Nat} (h : BestAt l ds n n (-1)) {hl : List It} {c : Int} (hm : RelM hl c (cameL (plL l ds n) n)) : hl = [] := by
  rcases h with ⟨h1, h2⟩ | ⟨b', h1, h2, h3, h4⟩
  · have e : cameL (plL l ds n) n = [] := by
      unfold cameL
      rw [List.filter_eq_nil_iff.2 (fun j hj => by rw [h2 j (List.mem_range.1 hj)]; decide)]
      rfl
    have := hm.perm.length_eq
    rw [e] at this
    exact List.eq_nil_of_length_eq_zero this
  · omega
theorem mkI_pl (l : List Kt) (ds : List Int) {n j : Nat} (h : j < n) : mkI (plL l ds n) j = (l.getD j default, (rd ds j, (j : Int)), ((j + 1 : Nat) : Int)) := by
  unfold mkI
  rw [plL_get l ds h]
theorem BestAt.some {l : List Kt} {ds : List Int} {n b : Nat} (h : BestAt l ds n n b) {hl : List It} {c : Int} (hm : RelM hl c (cameL (plL l ds n) n)) (hh : HeapOK soon hl) : b < n ∧ 0 < hl.length ∧ at_ hl 0 = (l.getD b default, (rd ds b, (b : Int)), ((b + 1 : Nat) : Int)) := by
  rcases h with ⟨h1, h2⟩ | ⟨b', h1, h2, h3, h4⟩
  · omega
  · have e : b = b' := by omega
    subst e
    have hy : mkI (plL l ds n) b ∈ cameL (plL l ds n) n := List.mem_map.2 ⟨b, List.mem_filter.2 ⟨List.mem_range.2 h2, h3⟩, rfl⟩
    have hyl : mkI (plL l ds n) b ∈ hl := hm.perm.mem_iff.2 hy
    have h0 : 0 < hl.length := List.length_pos_of_mem hyl
    refine ⟨h2, h0, ?_⟩
    have hx := hm.perm.mem_iff.1 (at_mem h0)
    obtain ⟨j, hj, ej⟩ := List.mem_map.1 hx
    obtain ⟨hj1, hj2⟩ := List.mem_filter.1 hj
    rw [List.mem_range] at hj1
    obtain ⟨i, hi, ei⟩ := List.getElem_of_mem hyl
    have hle := heap_min swo_soon hh i i (Nat.le_refl _) hi
    rw [at_eq hi, ei, ← ej, mkI_pl l ds hj1, mkI_pl l ds h2] at hle
    unfold Le aheadB at hle
    simp only [Bool.or_eq_false_iff] at hle
    have hs := hle.1
    unfold soon at hs
    have h5 := h4 j hj1 hj2
    have : j = b := by
      split at hs
      · rename_i q
        simp at hs q
        by_cases g : j < b
        · have := h5.2 g; omega
        · omega
      · rename_i q
        simp at hs q
        omega
    rw [← ej, this, mkI_pl l ds h2]
end Go.Proofs.Ytibipbfmhbkpiaa.HeapPR
