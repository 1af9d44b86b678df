/- Heaps among other lists; what last and find answer. Conditions: those that stand in each theorem. Written in this session. -/
import Derived.Test.YtibipbfmhbkpiaaHeapOr
import Derived.Test.YtibipbfmhbkpiaaHeapAl
import Derived.Test.YtibipbfmhbkpiaaHeapS
import Derived.Test.YtibipbfmhbkpiaaQ22
import Derived.Test.YtibipbfmhbkpiaaQ27
namespace Go.Proofs.Ytibipbfmhbkpiaa.HeapII
open Go.RowKit Go.Proofs.YtibipbfmhbkpiaaW.PrintWords Go.Proofs.YtibipbfmhbkpiaaW.PrintLast Go.Proofs.YtibipbfmhbkpiaaW.PrintMore Go.Proofs.Ytibipbfmhbkpiaa.HeapW Go.Proofs.Ytibipbfmhbkpiaa.HeapP Go.Proofs.Ytibipbfmhbkpiaa.MapAt Go.Proofs.Ytibipbfmhbkpiaa.Q
set_option linter.unusedVariables false
set_option linter.unusedSimpArgs false
theorem heap_types : 79 ≠ 100 := by decide
/-- another list stays, where the heap is changed -/
theorem HAt.keepR {α : Type} {d : Kd α} {e base' : Nat} {ok : Nat → Prop} {v : Value} {xs : List α} {w w' : World} {base g : Nat} {fv : Value} {A : Option Addr} {cap b : Nat} {l : List It} {c : Int} (h : HAt w base g fv A cap b l c) (hr : d.R e w base' ok v xs) (ht : ∀ q, q ∈ e :: d.E → q ≠ 79 ∧ q ≠ 100) (hc : Chg (hfp g A b) w w') : d.R e w' base' ok v xs :=
  Kd.R_mono (Kd.R_step (Kd.R_bound hr) (fun k hk hlt => hc.block k hlt (fun hf => by
    obtain ⟨_, _, _, q, hq, cells, hcell⟩ := hk
    rcases hf with rfl | rfl | ⟨a, rfl, rfl⟩
    · rw [h.blk] at hcell
      exact (ht q hq).1 (by cases hcell; rfl)
    · exact h.map.ne hcell rfl
    · obtain ⟨inner, ho⟩ := Kd.R_own h.row
      obtain ⟨cs, hcs⟩ := own_typed ho a.block rfl
      rw [hcs] at hcell
      exact (ht q hq).2 (by cases hcell; rfl)))) (fun _ hk => hk.1)
/-- the heap stays, where another list is written -/
theorem HAt.grown {w w' : World} {base g e : Nat} {fv : Value} {A : Option Addr} {cap b : Nat} {l : List It} {c : Int} {row : Option Nat} (h : HAt w base g fv A cap b l c) (hg : w.grownBy w' row) (hty : ∀ k, row = Option.some k → ∃ cells, w.heap[k]? = Option.some (Obj.cells cells e (0, 0))) (h1 : e ≠ 79) (h2 : e ≠ 100) : HAt w' base g fv A cap b l c := by
  have hne : Option.some b ≠ row := fun q => by
    obtain ⟨cells, hc⟩ := hty b q.symm
    exact h.map.ne hc rfl
  have hr : kIt.R 100 w' base (fun _ => True) (.slice A l.length cap) l := Kd.R_mono (Kd.R_step (Kd.R_bound h.row) (fun k hk hlt => hg.block k hlt (fun q => by
    obtain ⟨_, _, _, q', hq', cells, hcell⟩ := hk
    obtain ⟨cells', hc'⟩ := hty k q.symm
    rw [hc'] at hcell
    have e1 : q' = 100 := by
      rcases List.mem_cons.1 hq' with e1 | e1
      · exact e1
      · exact absurd e1 (by show ¬ q' ∈ ([] : List Nat); simp)
    exact h2 (by cases hcell; exact e1)))) (fun _ hk => hk.1)
  refine ⟨blk_grown h.blk hg (fun q => ?_), hr, h.map.move (hg.block b h.map.lt hne), h.ge, h.keys, h.okk⟩
  obtain ⟨cells, hc⟩ := hty g q.symm
  rw [h.blk] at hc
  exact h1 (by cases hc; rfl)
theorem HAt.lower {w : World} {base base' g : Nat} {fv : Value} {A : Option Addr} {cap b : Nat} {l : List It} {c : Int} (h : HAt w base g fv A cap b l c) (hb : base' ≤ base) : HAt w base' g fv A cap b l c :=
  ⟨h.blk, Kd.R_lower h.row hb, h.map, ⟨Nat.le_trans hb h.ge.1, Nat.le_trans hb h.ge.2⟩, h.keys, h.okk⟩
/-- an item of a law -/
def toP (x : S49) : Int × Int := (x.f0, x.f1)
def toS (x : It) : S49 := ⟨x.1, x.2.1⟩
theorem getD_toP (l : List S49) (i : Nat) : (l.map toP).getD i default = toP (l.getD i z49) := by
  have : (default : Int × Int) = toP z49 := rfl
  rw [this, List.getD_eq_getElem?_getD, List.getD_eq_getElem?_getD, List.getElem?_map]
  cases l[i]? <;> rfl
theorem rd_nat (l : List S49) (i : Nat) : rd_T49 l (i : Int) = l.getD i z49 := by unfold rd_T49; rw [Int.toNat_natCast]
theorem last_l0 (l : List S49) (i : Nat) (hi : i < l.length) (hl : l.length < 9223372036854775807) : ∀ (n j : Nat), l.length ≤ n + j → j ≤ l.length → ∃ b, cabstandlaw07_last.l0 (n + 1) l i j = some b ∧ (b = true ↔ ∀ k, k < l.length → j ≤ k → (l.getD k z49).f0 ≠ (l.getD i z49).f0)
  | 0, j, h1, h2 => by
    refine ⟨true, ?_, ?_⟩
    · unfold cabstandlaw07_last.l0
      rw [if_neg (by omega)]
    · exact ⟨fun _ k hk hj => by omega, fun _ => rfl⟩
  | n + 1, j, h1, h2 => by
    unfold cabstandlaw07_last.l0
    by_cases hj : j < l.length
    · rw [if_pos (by omega), if_pos (by omega), if_pos (by omega), if_pos (by omega), rd_nat, rd_nat]
      by_cases he : (l.getD j z49).f0 = (l.getD i z49).f0
      · rw [if_pos he]
        exact ⟨false, rfl, ⟨fun q => absurd q (by decide), fun q => absurd he (q j hj (Nat.le_refl _))⟩⟩
      · rw [if_neg he]
        have e : wrap64 ((j : Int) + 1) = ((j + 1 : Nat) : Int) := by unfold wrap64; omega
        rw [e]
        obtain ⟨b, hb1, hb2⟩ := last_l0 l i hi hl n (j + 1) (by omega) (by omega)
        refine ⟨b, hb1, hb2.trans ⟨fun q k hk hjk => ?_, fun q k hk hjk => q k hk (by omega)⟩⟩
        by_cases ek : k = j
        · subst ek; exact he
        · exact q k hk (by omega)
    · rw [if_neg (by omega)]
      exact ⟨true, rfl, fun _ k hk hjk => by omega, fun _ => rfl⟩
theorem last_eq (l : List S49) (i : Nat) (hi : i < l.length) (hl : l.length < 9223372036854775807) : cabstandlaw07_last.f (l.length + 1) l i = some (lastUp (l.map toP) l.length i) := by
  obtain ⟨b, h1, h2⟩ := last_l0 l i hi hl l.length (i + 1) (by omega) (by omega)
  unfold cabstandlaw07_last.f
  have e : wrap64 ((i : Int) + 1) = ((i + 1 : Nat) : Int) := by unfold wrap64; omega
  rw [e, h1]
  congr 1
  rw [Bool.eq_iff_iff, h2, lastUp_iff]
  constructor
  · intro q k hk hik
    rw [getD_toP, getD_toP]
    exact q k hk hik
  · intro q k hk hik
    have := q k hk hik
    rw [getD_toP, getD_toP] at this
    exact this
theorem find_l0 (l : List S49) (key : Int) (hl : l.length < 9223372036854775807) : ∀ (n j : Nat), l.length ≤ n + j → j ≤ l.length → (∀ k, k < j → (l.getD k z49).f0 ≠ key) → ∃ r, cabstandlaw07_find.l0 (n + 1) l key j = some r ∧ ((r = -1 ∧ ∀ k, k < l.length → (l.getD k z49).f0 ≠ key) ∨ ∃ i : Nat, r = i ∧ i < l.length ∧ (l.getD i z49).f0 = key)
  | 0, j, h1, h2, h3 => by
    refine ⟨-1, ?_, Or.inl ⟨rfl, fun k hk => h3 k (by omega)⟩⟩
    unfold cabstandlaw07_find.l0
    rw [if_neg (by omega)]
  | n + 1, j, h1, h2, h3 => by
    unfold cabstandlaw07_find.l0
    by_cases hj : j < l.length
    · rw [if_pos (by omega), if_pos (by omega), rd_nat]
      by_cases he : (l.getD j z49).f0 = key
      · rw [if_pos he]
        exact ⟨_, rfl, Or.inr ⟨j, rfl, hj, he⟩⟩
      · rw [if_neg he]
        have e : wrap64 ((j : Int) + 1) = ((j + 1 : Nat) : Int) := by unfold wrap64; omega
        rw [e]
        refine find_l0 l key hl n (j + 1) (by omega) (by omega) (fun k hk => ?_)
        by_cases ek : k = j
        · subst ek; exact he
        · exact h3 k (by omega)
    · rw [if_neg (by omega)]
      exact ⟨-1, rfl, Or.inl ⟨rfl, fun k hk => h3 k (by omega)⟩⟩
theorem find_eq (l : List S49) (key : Int) (hl : l.length < 9223372036854775807) : ∃ r, cabstandlaw07_find.f (l.length + 1) l key = some r ∧ ((r = -1 ∧ ∀ k, k < l.length → (l.getD k z49).f0 ≠ key) ∨ ∃ i : Nat, r = i ∧ i < l.length ∧ (l.getD i z49).f0 = key) :=
  find_l0 l key hl l.length 0 (by omega) (by omega) (fun k hk => by omega)
theorem getD_toS (M : List It) {i : Nat} (hi : i < M.length) : (M.map toS).getD i z49 = toS (at_ M i) := by
  rw [List.getD_eq_getElem?_getD, List.getElem?_map, at_get hi]
  rfl
/-- of items of which no two have one key: the place of a key -/
theorem find_some {M : List It} (hk : Keys M) {key : Int} {i : Nat} (hi : idxL M key = some i) (hl : M.length < 9223372036854775807) : cabstandlaw07_find.f ((M.map toS).length + 1) (M.map toS) key = some (i : Int) := by
  obtain ⟨h1, h2⟩ := idx_some hi
  obtain ⟨r, hr, h | ⟨j, rfl, hj, he⟩⟩ := find_eq (M.map toS) key (by rw [List.length_map]; exact hl)
  · exfalso
    have := h.2 i (by rw [List.length_map]; exact h1)
    rw [getD_toS M h1] at this
    exact this h2
  · rw [hr]
    rw [List.length_map] at hj
    rw [getD_toS M hj] at he
    congr 2
    exact key_inj hk hj h1 (he.trans h2.symm)
theorem find_none {M : List It} {key : Int} (hi : idxL M key = none) (hl : M.length < 9223372036854775807) : cabstandlaw07_find.f ((M.map toS).length + 1) (M.map toS) key = some (-1) := by
  obtain ⟨r, hr, h | ⟨j, rfl, hj, he⟩⟩ := find_eq (M.map toS) key (by rw [List.length_map]; exact hl)
  · rw [hr, h.1]
  · exfalso
    rw [List.length_map] at hj
    rw [getD_toS M hj] at he
    have := idx_none.1 hi (at_ M j) (at_mem hj)
    exact this he
/-- what is wanted, as the law has it -/
def wantS (l : List S49) (i : Nat) : List S49 := ((List.range i).filter (lastUp (l.map toP) l.length)).map (fun j => l.getD j z49)
theorem wantS_succ (l : List S49) (i : Nat) : wantS l (i + 1) = if lastUp (l.map toP) l.length i = true then wantS l i ++ [l.getD i z49] else wantS l i := by
  unfold wantS
  rw [List.range_succ, List.filter_append, List.map_append]
  by_cases h : lastUp (l.map toP) l.length i = true
  · rw [if_pos h]; simp [h]
  · rw [if_neg h]; simp [h]
theorem wantS_len (l : List S49) (i : Nat) : (wantS l i).length ≤ i := by
  unfold wantS
  rw [List.length_map]
  exact Nat.le_trans (List.length_filter_le _ _) (by simp)
theorem wantS_came (l : List S49) : wantS l l.length = (cameL (l.map toP) l.length).map toS := by
  unfold wantS cameL
  rw [List.map_map]
  refine List.map_congr_left fun j _ => ?_
  show _ = toS (mkI _ _)
  unfold mkI toS
  rw [getD_toP]
  rfl
theorem came_len (l : List S49) (i : Nat) : (cameL (l.map toP) i).length ≤ i := by
  unfold cameL
  rw [List.length_map]
  exact Nat.le_trans (List.length_filter_le _ _) (by simp)
theorem came_step (l : List S49) (i : Nat) : cameL (l.map toP) (i + 1) = (cameL (l.map toP) i).filter (fun x => decide (x.1 ≠ (l.getD i z49).f0)) ++ [((l.getD i z49).f0, (l.getD i z49).f1, ((i : Int) + 1))] := by
  rw [cameL_succ, getD_toP]
  rfl
end Go.Proofs.Ytibipbfmhbkpiaa.HeapII
