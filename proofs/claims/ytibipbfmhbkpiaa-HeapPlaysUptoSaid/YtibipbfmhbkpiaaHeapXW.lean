/- Two heaps side by side, the program's and the document's: what each call does with them. Conditions: those that stand in each theorem. Written by wip/gen/heapwd.py. -/
import Derived.Test.YtibipbfmhbkpiaaHeapXR
import Derived.Test.YtibipbfmhbkpiaaHeapDIC
import Derived.Test.YtibipbfmhbkpiaaHeapDID
namespace Go.Proofs.Ytibipbfmhbkpiaa.HeapDI
open Go.RowKit Go.Proofs.YtibipbfmhbkpiaaW.PrintWords Go.Proofs.YtibipbfmhbkpiaaW.PrintLast Go.Proofs.YtibipbfmhbkpiaaW.PrintMore Go.Proofs.Ytibipbfmhbkpiaa.HeapW Go.Proofs.Ytibipbfmhbkpiaa.HeapP Go.Proofs.Ytibipbfmhbkpiaa.MapAt Go.Proofs.Ytibipbfmhbkpiaa.Q
set_option linter.unusedVariables false
set_option linter.unusedSimpArgs false
theorem bits_and1 (a : Int) : ∃ k : Nat, k < 2 ∧ bits BinOp.and IntKind.i64 a 1 = (k : Int) := by
  refine ⟨(BitVec.ofInt 64 a).toNat % 2, Nat.mod_lt _ (by decide), ?_⟩
  show IntKind.i64.wrap (((BitVec.ofInt 64 a) &&& (BitVec.ofInt 64 1)).toNat : Int) = _
  have h : ((BitVec.ofInt 64 a) &&& (BitVec.ofInt 64 1)).toNat = (BitVec.ofInt 64 a).toNat % 2 := by
    rw [BitVec.toNat_and, show (BitVec.ofInt 64 1).toNat = 1 by decide, Nat.and_one_is_mod]
  rw [h]
  have h2 : (BitVec.ofInt 64 a).toNat % 2 = 0 ∨ (BitVec.ofInt 64 a).toNat % 2 = 1 := by omega
  rcases h2 with e | e <;> rw [e] <;> decide
theorem pick_small {a k : Int} (h : 0 ≤ a ∧ a < 5) (hk : cabstandlaw07_pick.f a 5 = some k) : k = a := by
  unfold cabstandlaw07_pick.f at hk
  rw [if_neg (by decide), Int.tmod_eq_emod_of_nonneg h.1, Int.emod_eq_of_lt h.1 h.2, if_neg (by omega)] at hk
  exact (Option.some.inj hk).symm
theorem less_of {f : Nat} {lt : Int → Int → Bool} (h : HeapII.Less f lt) : Less f lt := ⟨h.fn, h.calls⟩
set_option maxHeartbeats 8000000 in
set_option maxRecDepth 100000 in
theorem put_nilf (base g : Nat) (A : Option Addr) (cap b : Nat) (l : List It) (c : Int) (key : Kt) (rank : Int) (w : World) (h : HAt w base g .nilFunc A cap b l c) :
    Calls Try.prog 30 #[.pointer (some ⟨g, 0, none⟩), .agg #[.int .u8 key.1, .int .u8 key.2.1, .int .u8 key.2.2.1, .int .u8 key.2.2.2.1, .int .u8 key.2.2.2.2.1, .int .u8 key.2.2.2.2.2.1, .int .u8 key.2.2.2.2.2.2.1, .int .u8 key.2.2.2.2.2.2.2], .int .i64 rank] w fun e w' => e = .returned (.int .i64 1) ∧ Below w.heap.size w w' := by
  have H := Aside0.mk h
  have qm := eq_map
  have qf := eq_nilfunc
  clear h
  go_enter Try.func30, Try.ntmps30
  go_upto_region 1 with (fail)
  have HXk : Aside0 ((w.alloc (.cells #[.int .u8 key.1, .int .u8 key.2.1, .int .u8 key.2.2.1, .int .u8 key.2.2.2.1, .int .u8 key.2.2.2.2.1, .int .u8 key.2.2.2.2.2.1, .int .u8 key.2.2.2.2.2.2.1, .int .u8 key.2.2.2.2.2.2.2] 33)).heap[w.heap.size]? = some (.cells #[.int .u8 key.1, .int .u8 key.2.1, .int .u8 key.2.2.1, .int .u8 key.2.2.2.1, .int .u8 key.2.2.2.2.1, .int .u8 key.2.2.2.2.2.1, .int .u8 key.2.2.2.2.2.2.1, .int .u8 key.2.2.2.2.2.2.2] 33 (0, 0))) := ⟨blk_new _ _⟩
  have HBB : Aside0 (Below w.heap.size w (w.alloc (.cells #[.int .u8 key.1, .int .u8 key.2.1, .int .u8 key.2.2.1, .int .u8 key.2.2.2.1, .int .u8 key.2.2.2.2.1, .int .u8 key.2.2.2.2.2.1, .int .u8 key.2.2.2.2.2.2.1, .int .u8 key.2.2.2.2.2.2.2] 33))) := ⟨below_alloc (Below.refl _ _) _⟩
  have HQ := Aside0.mk (H.out.below HBB.out)
  generalize w.alloc (.cells #[.int .u8 key.1, .int .u8 key.2.1, .int .u8 key.2.2.1, .int .u8 key.2.2.2.1, .int .u8 key.2.2.2.2.1, .int .u8 key.2.2.2.2.2.1, .int .u8 key.2.2.2.2.2.2.1, .int .u8 key.2.2.2.2.2.2.2] 33) = wB at HXk HBB HQ ⊢
  have hc0 : wB.cell? ⟨g, 0, none⟩ = some .nilFunc := (blk_cell HQ.out.blk 0).trans rfl
  have hc2 : wB.cell? ⟨g, 2, none⟩ = some (.map (some b)) := (blk_cell HQ.out.blk 2).trans rfl
  go_wp2
  go_ret
  exact ⟨rfl, HBB.out⟩
set_option maxHeartbeats 8000000 in
set_option maxRecDepth 100000 in
theorem new_nilf (w : World) :
    Calls Try.prog 29 #[.nilFunc] w fun e w' => ∃ g b, e = .returned (.pointer (some ⟨g, 0, none⟩)) ∧ HAt w' w.heap.size g .nilFunc none 0 b [] 0 ∧ Below w.heap.size w w' := by
  have hmk : (Instr.makeMap 110 none).run Try.prog w = .ok (.map (some w.heap.size)) (w.alloc (.map #[] 0)) := rfl
  go_enter Try.func29, Try.ntmps29
  go_wp2
  go_ret
  have hb : Below w.heap.size w ((w.alloc (.map #[] 0)).alloc (.cells #[.nilFunc, .slice none 0 0, .map (some w.heap.size), .int .i64 0] 113)) := below_alloc (below_alloc (Below.refl _ _) _) _
  have hg : ((w.alloc (.map #[] 0)).alloc (.cells #[.nilFunc, .slice none 0 0, .map (some w.heap.size), .int .i64 0] 113)).heap[w.heap.size + 1]? = some (.cells #[.nilFunc, .slice none 0 0, .map (some w.heap.size), .int .i64 0] 113 (0, 0)) := by
    have := blk_new (w.alloc (.map #[] 0)) (.cells #[.nilFunc, .slice none 0 0, .map (some w.heap.size), .int .i64 0] 113)
    rwa [World.size_alloc] at this
  refine ⟨w.heap.size + 1, w.heap.size, rfl, ⟨hg, Kd.R_nil _ _ _ _ _, ?_, ⟨by omega, Nat.le_refl _⟩, by simp [Keys], by simp⟩, hb⟩
  refine (MapAt.none w encK okK).move ?_ |>.congr (fun k _ => rfl)
  exact (below_alloc (Below.refl (w.alloc (.map #[] 0)).heap.size _) _).block _ (by rw [World.size_alloc]; omega)
theorem HAt.lower {w : World} {base base' g : Nat} {fv : Value} {A : Option Addr} {cap b : Nat} {l : List It} {c : Int} (h : HAt w base g fv A cap b l c) (hb : base' ≤ base) : HAt w base' g fv A cap b l c :=
  ⟨h.blk, Kd.R_lower h.row hb, h.map, ⟨Nat.le_trans hb h.ge.1, Nat.le_trans hb h.ge.2⟩, h.keys, h.okk⟩
/-- how a heap stands to its order -/
def Rules (fv : Value) (ord : Int) (hl : List It) : Prop := (ord = -1 ∧ fv = .nilFunc ∧ hl = []) ∨ (ord ≠ -1 ∧ ∃ f, fv = .func (.func f) #[] #[] ∧ Less f (HeapII.ordK ord) ∧ HeapOK (HeapII.ordK ord) hl)
/-- a heap and the document's: what they hold; F their blocks -/
structure Slot (w : World) (base gH gR : Nat) (ord : Int) (M : List It) (c : Nat) (L : List Rt) (F : Nat → Prop) : Prop where
  ex : ∃ (fv : Value) (A : Option Addr) (cap b : Nat) (hl : List It) (RA : Option Addr) (rcap : Nat), HAt w base gH fv A cap b hl c ∧ RelM hl c M ∧ Rules fv ord hl ∧ RefAt w base gR ord RA rcap L ∧ (∀ k, hfp gH A b k → rfp gR RA k → False) ∧ (∀ k, F k ↔ hfp gH A b k ∨ rfp gR RA k)
theorem Slot.ge {w : World} {base gH gR : Nat} {ord : Int} {M : List It} {c : Nat} {L : List Rt} {F : Nat → Prop} (h : Slot w base gH gR ord M c L F) : ∀ k, F k → base ≤ k ∧ k < w.heap.size := by
  obtain ⟨fv, A, cap, b, hl, RA, rcap, h1, h2, h3, h4, h5, h6⟩ := h.ex
  intro k hk
  rcases (h6 k).1 hk with q | q
  · exact ⟨h1.fp_ge k q, h1.fp_lt k q⟩
  · exact ⟨h4.fp_ge k q, h4.fp_lt k q⟩
theorem Slot.move {w w' : World} {base gH gR : Nat} {ord : Int} {M : List It} {c : Nat} {L : List Rt} {F : Nat → Prop} (h : Slot w base gH gR ord M c L F) (hm : ∀ k, F k → w'.heap[k]? = w.heap[k]?) : Slot w' base gH gR ord M c L F := by
  obtain ⟨fv, A, cap, b, hl, RA, rcap, h1, h2, h3, h4, h5, h6⟩ := h.ex
  exact ⟨fv, A, cap, b, hl, RA, rcap, h1.below0 (fun k hk => hm k ((h6 k).2 (Or.inl hk))), h2, h3, h4.below0 (fun k hk => hm k ((h6 k).2 (Or.inr hk))), h5, h6⟩
theorem Slot.below {w w' : World} {base gH gR : Nat} {ord : Int} {M : List It} {c : Nat} {L : List Rt} {F : Nat → Prop} (h : Slot w base gH gR ord M c L F) (hb : Below w.heap.size w w') : Slot w' base gH gR ord M c L F := h.move (fun k hk => hb.block k (h.ge k hk).2)
/-- the heap of a slot changes -/
theorem Slot.heap {w w' : World} {base gH gR : Nat} {ord : Int} {M' : List It} {c c' : Nat} {L : List Rt} {F : Nat → Prop} {fv : Value} {A A' : Option Addr} {cap cap' b : Nat} {hl hl' : List It} {RA : Option Addr} {rcap : Nat} (h1 : HAt w base gH fv A cap b hl c) (h4 : RefAt w base gR ord RA rcap L) (h5 : ∀ k, hfp gH A b k → rfp gR RA k → False) (h6 : ∀ k, F k ↔ hfp gH A b k ∨ rfp gR RA k) (h : HAt w' base gH fv A' cap' b hl' c') (hM : RelM hl' c' M') (hR : Rules fv ord hl') (hc : Chg (hfp gH A b) w w') (hA : ∀ a, A' = some a → (∃ a0 : Addr, A = some a0 ∧ a.block = a0.block) ∨ w.heap.size ≤ a.block) :
    ∃ F', Slot w' base gH gR ord M' c' L F' ∧ Chg F w w' ∧ ∀ k, F' k → F k ∨ w.heap.size ≤ k := by
  have hsub : ∀ k, hfp gH A' b k → hfp gH A b k ∨ w.heap.size ≤ k := fun k hk => by
    rcases hk with e | e | ⟨a, ha, e⟩
    · exact Or.inl (Or.inl e)
    · exact Or.inl (Or.inr (Or.inl e))
    · rcases hA a ha with ⟨a0, e0, e1⟩ | e1
      · exact Or.inl (Or.inr (Or.inr ⟨a0, e0, e.trans e1⟩))
      · exact Or.inr (by omega)
  refine ⟨fun k => hfp gH A' b k ∨ rfp gR RA k, ⟨fv, A', cap', b, hl', RA, rcap, h, hM, hR, h4.below0 (fun k hk => hc.block k (h4.fp_lt k hk) (fun q => h5 k q hk)), fun k q r => ?_, fun k => Iff.rfl⟩, hc.mono (fun k hk => (h6 k).2 (Or.inl hk)), fun k hk => ?_⟩
  · rcases hsub k q with q | q
    · exact h5 k q r
    · have := h4.fp_lt k r; omega
  · rcases hk with q | q
    · rcases hsub k q with q | q
      · exact Or.inl ((h6 k).2 (Or.inl q))
      · exact Or.inr q
    · exact Or.inl ((h6 k).2 (Or.inr q))
/-- the document's heap of a slot changes -/
theorem Slot.ref {w w' : World} {base gH gR : Nat} {ord : Int} {M : List It} {c : Nat} {L L' : List Rt} {F : Nat → Prop} {fv : Value} {A : Option Addr} {cap b : Nat} {hl : List It} {RA RA' : Option Addr} {rcap rcap' : Nat} (h1 : HAt w base gH fv A cap b hl c) (h2 : RelM hl c M) (h3 : Rules fv ord hl) (h4 : RefAt w base gR ord RA rcap L) (h5 : ∀ k, hfp gH A b k → rfp gR RA k → False) (h6 : ∀ k, F k ↔ hfp gH A b k ∨ rfp gR RA k) (h : RefAt w' base gR ord RA' rcap' L') (hc : Chg (rfp gR RA) w w') (hA : ∀ a, RA' = some a → (∃ a0 : Addr, RA = some a0 ∧ a.block = a0.block) ∨ w.heap.size ≤ a.block) :
    ∃ F', Slot w' base gH gR ord M c L' F' ∧ Chg F w w' ∧ ∀ k, F' k → F k ∨ w.heap.size ≤ k := by
  have hsub : ∀ k, rfp gR RA' k → rfp gR RA k ∨ w.heap.size ≤ k := fun k hk => by
    rcases hk with e | ⟨a, ha, e⟩
    · exact Or.inl (Or.inl e)
    · rcases hA a ha with ⟨a0, e0, e1⟩ | e1
      · exact Or.inl (Or.inr ⟨a0, e0, e.trans e1⟩)
      · exact Or.inr (by omega)
  refine ⟨fun k => hfp gH A b k ∨ rfp gR RA' k, ⟨fv, A, cap, b, hl, RA', rcap', h1.below0 (fun k hk => hc.block k (h1.fp_lt k hk) (fun q => h5 k hk q)), h2, h3, h, fun k q r => ?_, fun k => Iff.rfl⟩, hc.mono (fun k hk => (h6 k).2 (Or.inr hk)), fun k hk => ?_⟩
  · rcases hsub k r with r | r
    · exact h5 k q r
    · have := h1.fp_lt k q; omega
  · rcases hk with q | q
    · exact Or.inl ((h6 k).2 (Or.inl q))
    · rcases hsub k q with q | q
      · exact Or.inl ((h6 k).2 (Or.inr q))
      · exact Or.inr q
def errP (ord : Int) : Int := if ord = -1 then 1 else 0
def putM (ord : Int) (M : List It) (c : Nat) (key : Kt) (rank : Int) : List It := if ord = -1 then M else M.filter (fun x => decide (x.1 ≠ key)) ++ [(key, rank, (c : Int) + 1)]
def putC (ord : Int) (c : Nat) : Nat := if ord = -1 then c else c + 1
def putR (ord : Int) (L : List Rt) (key : Kt) (rank : Int) : List Rt := if ord = -1 then L else (match idxR L key with
  | none => L
  | some i => L.eraseIdx i) ++ [(key, rank)]
theorem hput_slot {w : World} {base gH gR : Nat} {ord : Int} {M : List It} {c : Nat} {L : List Rt} {F : Nat → Prop} (h : Slot w base gH gR ord M c L F) (key : Kt) (rank : Int) (hk : okK key) (hc : c < 4000000000000) (hM : M.length ≤ c) (hb : base ≤ w.heap.size) :
    Calls Try.prog 30 #[.pointer (some ⟨gH, 0, none⟩), .agg #[.int .u8 key.1, .int .u8 key.2.1, .int .u8 key.2.2.1, .int .u8 key.2.2.2.1, .int .u8 key.2.2.2.2.1, .int .u8 key.2.2.2.2.2.1, .int .u8 key.2.2.2.2.2.2.1, .int .u8 key.2.2.2.2.2.2.2], .int .i64 rank] w fun e w' => e = .returned (.int .i64 (errP ord)) ∧ ∃ F', Slot w' base gH gR ord (putM ord M c key rank) (putC ord c) L F' ∧ Chg F w w' ∧ ∀ k, F' k → F k ∨ w.heap.size ≤ k := by
  obtain ⟨fv, A, cap, b, hl, RA, rcap, h1, h2, h3, h4, h5, h6⟩ := h.ex
  have hlen := h2.perm.length_eq
  rcases h3 with ⟨e1, e2, e3⟩ | ⟨e1, f, e2, e3, e4⟩
  · subst e2
    refine (put_nilf base gH A cap b hl c key rank w h1).mono ?_
    rintro e w' ⟨rfl, hbb⟩
    refine ⟨by unfold errP; rw [if_pos e1], F, ?_, Chg.of_below hbb, fun k hk => Or.inl hk⟩
    unfold putM putC
    rw [if_pos e1, if_pos e1]
    exact h.below hbb
  · subst e2
    refine (put_calls base gH f _ e3 A cap b hl c key rank w h1 hk (by omega) hc hb).mono ?_
    rintro e w' ⟨rfl, A', cap', g1, g2, g3⟩
    refine ⟨by unfold errP; rw [if_neg e1], ?_⟩
    unfold putM putC
    rw [if_neg e1, if_neg e1]
    exact Slot.heap h1 h4 h5 h6 (c' := c + 1) (by have : (((c + 1 : Nat)) : Int) = (c : Int) + 1 := by omega
                                                  rw [this]; exact g1) (by have : (((c + 1 : Nat)) : Int) = (c : Int) + 1 := by omega
                                                                           rw [this]; exact h2.put key rank) (Or.inr ⟨e1, f, rfl, e3, putL_ok (HeapII.swo_ord ord) e4 _ _ _⟩) g2 g3
theorem rput_slot {w : World} {base gH gR : Nat} {ord : Int} {M : List It} {c : Nat} {L : List Rt} {F : Nat → Prop} (h : Slot w base gH gR ord M c L F) (key : Kt) (rank : Int) (hL : L.length ≤ 4000000000000) (hb : base ≤ w.heap.size) :
    Calls Try.prog 31 #[.pointer (some ⟨gR, 0, none⟩), .agg #[.int .u8 key.1, .int .u8 key.2.1, .int .u8 key.2.2.1, .int .u8 key.2.2.2.1, .int .u8 key.2.2.2.2.1, .int .u8 key.2.2.2.2.2.1, .int .u8 key.2.2.2.2.2.2.1, .int .u8 key.2.2.2.2.2.2.2], .int .i64 rank] w fun e w' => e = .returned (.int .i64 (errP ord)) ∧ ∃ F', Slot w' base gH gR ord M c (putR ord L key rank) F' ∧ Chg F w w' ∧ ∀ k, F' k → F k ∨ w.heap.size ≤ k := by
  obtain ⟨fv, A, cap, b, hl, RA, rcap, h1, h2, h3, h4, h5, h6⟩ := h.ex
  have hlen := h2.perm.length_eq
  by_cases e1 : ord = -1
  · refine (rput_none base gR ord RA rcap L key rank w h4 hL hb e1).mono ?_
    rintro e w' ⟨rfl, hbb⟩
    refine ⟨by unfold errP; rw [if_pos e1], F, ?_, Chg.of_below hbb, fun k hk => Or.inl hk⟩
    unfold putR
    rw [if_pos e1]
    exact h.below hbb
  · cases hi : idxR L key with
    | none =>
      refine (rput_new base gR ord RA rcap L key rank w h4 hL hb e1 hi).mono ?_
      rintro e w' ⟨rfl, RA', rcap', g1, g2, g3⟩
      refine ⟨by unfold errP; rw [if_neg e1], ?_⟩
      unfold putR
      rw [if_neg e1, hi]
      exact Slot.ref h1 h2 h3 h4 h5 h6 g1 g2 g3
    | some i =>
      refine (rput_old base gR ord RA rcap L key rank w h4 hL hb e1 hi).mono ?_
      rintro e w' ⟨rfl, RA', rcap', g1, g2, g3⟩
      refine ⟨by unfold errP; rw [if_neg e1], ?_⟩
      unfold putR
      rw [if_neg e1, hi]
      exact Slot.ref h1 h2 h3 h4 h5 h6 g1 g2 g3
theorem rem_id (M : List It) (key : Kt) (h : idxL M key = none) : M.filter (fun x => decide (x.1 ≠ key)) = M := filter_none h
theorem hdrop_slot {w : World} {base gH gR : Nat} {ord : Int} {M : List It} {c : Nat} {L : List Rt} {F : Nat → Prop} (h : Slot w base gH gR ord M c L F) (key : Kt) (hk : okK key) (hc : c < 4000000000000) (hM : M.length ≤ c) :
    Calls Try.prog 34 #[.pointer (some ⟨gH, 0, none⟩), .agg #[.int .u8 key.1, .int .u8 key.2.1, .int .u8 key.2.2.1, .int .u8 key.2.2.2.1, .int .u8 key.2.2.2.2.1, .int .u8 key.2.2.2.2.2.1, .int .u8 key.2.2.2.2.2.2.1, .int .u8 key.2.2.2.2.2.2.2]] w fun e w' => e = .returned (.bool (idxL M key).isSome) ∧ ∃ F', Slot w' base gH gR ord (M.filter (fun x => decide (x.1 ≠ key))) c L F' ∧ Chg F w w' ∧ ∀ k, F' k → F k ∨ w.heap.size ≤ k := by
  obtain ⟨fv, A, cap, b, hl, RA, rcap, h1, h2, h3, h4, h5, h6⟩ := h.ex
  have hlen := h2.perm.length_eq
  cases hi : idxL hl key with
  | none =>
    refine (drop_none base gH fv A cap b hl c key w h1 hk hi).mono ?_
    rintro e w' ⟨rfl, hbb⟩
    have hi' := h2.idx.1 hi
    rw [hi', rem_id M key hi']
    exact ⟨rfl, F, h.below hbb, Chg.of_below hbb, fun k hk => Or.inl hk⟩
  | some i =>
    obtain ⟨hil, _⟩ := idx_some hi
    rcases h3 with ⟨e1, e2, e3⟩ | ⟨e1, f, e2, e3, e4⟩
    · rw [e3] at hil; exact absurd hil (Nat.not_lt_zero _)
    · subst e2
      refine (drop_calls base gH f _ e3 A cap b hl c key w h1 hk hi (by omega)).mono ?_
      rintro e w' ⟨rfl, g1, g2⟩
      have hi' : (idxL M key).isSome = true := by
        cases hj : idxL M key with
        | none => rw [h2.idx.2 hj] at hi; cases hi
        | some j => rfl
      rw [hi']
      exact ⟨rfl, Slot.heap h1 h4 h5 h6 g1 (h2.drop hi) (Or.inr ⟨e1, f, rfl, e3, dropL_ok (HeapII.swo_ord ord) e4 hil⟩) g2 (fun a ha => Or.inl ⟨a, ha, rfl⟩)⟩
def dropR (L : List Rt) (key : Kt) : List Rt := match idxR L key with
  | none => L
  | some i => L.eraseIdx i
theorem rdrop_slot {w : World} {base gH gR : Nat} {ord : Int} {M : List It} {c : Nat} {L : List Rt} {F : Nat → Prop} (h : Slot w base gH gR ord M c L F) (key : Kt) (hL : L.length ≤ 4000000000000) (hb : base ≤ w.heap.size) :
    Calls Try.prog 35 #[.pointer (some ⟨gR, 0, none⟩), .agg #[.int .u8 key.1, .int .u8 key.2.1, .int .u8 key.2.2.1, .int .u8 key.2.2.2.1, .int .u8 key.2.2.2.2.1, .int .u8 key.2.2.2.2.2.1, .int .u8 key.2.2.2.2.2.2.1, .int .u8 key.2.2.2.2.2.2.2]] w fun e w' => e = .returned (.bool (idxR L key).isSome) ∧ ∃ F', Slot w' base gH gR ord M c (dropR L key) F' ∧ Chg F w w' ∧ ∀ k, F' k → F k ∨ w.heap.size ≤ k := by
  obtain ⟨fv, A, cap, b, hl, RA, rcap, h1, h2, h3, h4, h5, h6⟩ := h.ex
  have hlen := h2.perm.length_eq
  cases hi : idxR L key with
  | none =>
    refine (rdrop_none base gR ord RA rcap L key w h4 hL hb hi).mono ?_
    rintro e w' ⟨rfl, hbb⟩
    unfold dropR
    rw [hi]
    exact ⟨rfl, F, h.below hbb, Chg.of_below hbb, fun k hk => Or.inl hk⟩
  | some i =>
    refine (rdrop_calls base gR ord RA rcap L key w h4 hL hb hi).mono ?_
    rintro e w' ⟨rfl, RA', rcap', g1, g2, g3⟩
    unfold dropR
    rw [hi]
    exact ⟨rfl, Slot.ref h1 h2 h3 h4 h5 h6 g1 (g2.mono (fun k hk => Or.inl hk)) (fun a ha => Or.inr (g3 a ha))⟩
/-- what comes first, of what came -/
def fstM (ord : Int) (M : List It) : Option Nat := leastF (HeapII.ordK ord) (fun i => (at_ M i).2.1) M.length
def popM (ord : Int) (M : List It) : List It := match fstM ord M with
  | none => M
  | some b => M.filter (fun x => decide (x.1 ≠ (at_ M b).1))
def keyO (ord : Int) (M : List It) : Kt := match fstM ord M with
  | none => default
  | some b => (at_ M b).1
def rankO (ord : Int) (M : List It) : Int := match fstM ord M with
  | none => 0
  | some b => (at_ M b).2.1
theorem fstM_none {ord : Int} {M : List It} (h : fstM ord M = none) : M = [] := by
  rcases leastF_spec (HeapII.swo_ord ord) (fun i => (at_ M i).2.1) M.length with ⟨h0, _⟩ | ⟨b, h1, _⟩
  · exact List.eq_nil_of_length_eq_zero h0
  · unfold fstM at h
    rw [h1] at h
    cases h
theorem kt_default : (default : Kt) = (0, 0, 0, 0, 0, 0, 0, 0) := rfl
theorem hfirst_slot {w : World} {base gH gR : Nat} {ord : Int} {M : List It} {c : Nat} {L : List Rt} {F : Nat → Prop} (h : Slot w base gH gR ord M c L F) (hc : c < 4000000000000) (hM : M.length ≤ c) :
    Calls Try.prog 37 #[.pointer (some ⟨gH, 0, none⟩)] w fun e w' => e = .returned (.tuple #[.agg #[.int .u8 (keyO ord M).1, .int .u8 (keyO ord M).2.1, .int .u8 (keyO ord M).2.2.1, .int .u8 (keyO ord M).2.2.2.1, .int .u8 (keyO ord M).2.2.2.2.1, .int .u8 (keyO ord M).2.2.2.2.2.1, .int .u8 (keyO ord M).2.2.2.2.2.2.1, .int .u8 (keyO ord M).2.2.2.2.2.2.2], .int .i64 (rankO ord M), .bool (fstM ord M).isSome]) ∧ Below w.heap.size w w' := by
  obtain ⟨fv, A, cap, b, hl, RA, rcap, h1, h2, h3, h4, h5, h6⟩ := h.ex
  have hlen := h2.perm.length_eq
  unfold keyO rankO
  cases hf : fstM ord M with
  | none =>
    have hm := fstM_none hf
    subst hm
    have hl0 : hl = [] := List.eq_nil_of_length_eq_zero hlen
    subst hl0
    exact first_none base gH fv A cap b c w h1
  | some x =>
    rcases h3 with ⟨e1, e2, e3⟩ | ⟨e1, f, e2, e3, e4⟩
    · subst e3
      have hm : M = [] := List.eq_nil_of_length_eq_zero hlen.symm
      subst hm
      unfold fstM leastF at hf
      cases hf
    · obtain ⟨g1, g2, g3⟩ := h2.first (HeapII.swo_ord ord) e4 hf
      have := first_calls base gH fv A cap b hl c w h1 g3
      rw [g1] at this
      exact this
theorem hpop_slot {w : World} {base gH gR : Nat} {ord : Int} {M : List It} {c : Nat} {L : List Rt} {F : Nat → Prop} (h : Slot w base gH gR ord M c L F) (hc : c < 4000000000000) (hM : M.length ≤ c) :
    Calls Try.prog 32 #[.pointer (some ⟨gH, 0, none⟩)] w fun e w' => e = .returned (.tuple #[.agg #[.int .u8 (keyO ord M).1, .int .u8 (keyO ord M).2.1, .int .u8 (keyO ord M).2.2.1, .int .u8 (keyO ord M).2.2.2.1, .int .u8 (keyO ord M).2.2.2.2.1, .int .u8 (keyO ord M).2.2.2.2.2.1, .int .u8 (keyO ord M).2.2.2.2.2.2.1, .int .u8 (keyO ord M).2.2.2.2.2.2.2], .int .i64 (rankO ord M), .bool (fstM ord M).isSome]) ∧ ∃ F', Slot w' base gH gR ord (popM ord M) c L F' ∧ Chg F w w' ∧ ∀ k, F' k → F k ∨ w.heap.size ≤ k := by
  obtain ⟨fv, A, cap, b, hl, RA, rcap, h1, h2, h3, h4, h5, h6⟩ := h.ex
  have hlen := h2.perm.length_eq
  unfold keyO rankO popM
  cases hf : fstM ord M with
  | none =>
    have hm := fstM_none hf
    subst hm
    have hl0 : hl = [] := List.eq_nil_of_length_eq_zero hlen
    subst hl0
    refine (pop_none base gH fv A cap b c w h1).mono ?_
    rintro e w' ⟨rfl, hbb⟩
    exact ⟨rfl, F, h.below hbb, Chg.of_below hbb, fun k hk => Or.inl hk⟩
  | some x =>
    rcases h3 with ⟨e1, e2, e3⟩ | ⟨e1, f, e2, e3, e4⟩
    · subst e3
      have hm : M = [] := List.eq_nil_of_length_eq_zero hlen.symm
      subst hm
      unfold fstM leastF at hf
      cases hf
    · subst e2
      obtain ⟨g1, g2, g3⟩ := h2.first (HeapII.swo_ord ord) e4 hf
      have hq := pop_calls base gH f _ e3 A cap b hl c w h1 g3 (by omega)
      rw [g1] at hq
      refine hq.mono ?_
      rintro e w' ⟨rfl, q1, q2⟩
      have hi := idx_at h2.keys g3
      have hd := h2.drop (lt := HeapII.ordK ord) hi
      rw [g1] at hd
      exact ⟨rfl, Slot.heap h1 h4 h5 h6 q1 hd (Or.inr ⟨e1, f, rfl, e3, dropL_ok (HeapII.swo_ord ord) e4 g3⟩) q2 (fun a ha => Or.inl ⟨a, ha, rfl⟩)⟩
theorem hrank_slot {w : World} {base gH gR : Nat} {ord : Int} {M : List It} {c : Nat} {L : List Rt} {F : Nat → Prop} (h : Slot w base gH gR ord M c L F) (key : Kt) (hk : okK key) :
    Calls Try.prog 38 #[.pointer (some ⟨gH, 0, none⟩), .agg #[.int .u8 key.1, .int .u8 key.2.1, .int .u8 key.2.2.1, .int .u8 key.2.2.2.1, .int .u8 key.2.2.2.2.1, .int .u8 key.2.2.2.2.2.1, .int .u8 key.2.2.2.2.2.2.1, .int .u8 key.2.2.2.2.2.2.2]] w fun e w' => e = .returned (.tuple #[.int .i64 (match idxL M key with
      | none => 0
      | some j => (at_ M j).2.1), .bool (idxL M key).isSome]) ∧ Below w.heap.size w w' := by
  obtain ⟨fv, A, cap, b, hl, RA, rcap, h1, h2, h3, h4, h5, h6⟩ := h.ex
  have hlen := h2.perm.length_eq
  cases hi : idxL hl key with
  | none =>
    rw [h2.idx.1 hi]
    exact rank_none base gH fv A cap b hl c key w h1 hk hi
  | some i =>
    cases hj : idxL M key with
    | none => rw [h2.idx.2 hj] at hi; cases hi
    | some j =>
      have := rank_calls base gH fv A cap b hl c key w h1 hk hi
      rw [h2.rank hi hj] at this
      exact this
theorem hlen_slot {w : World} {base gH gR : Nat} {ord : Int} {M : List It} {c : Nat} {L : List Rt} {F : Nat → Prop} (h : Slot w base gH gR ord M c L F) :
    Calls Try.prog 40 #[.pointer (some ⟨gH, 0, none⟩)] w fun e w' => e = .returned (.int .i64 M.length) ∧ w' = w := by
  obtain ⟨fv, A, cap, b, hl, RA, rcap, h1, h2, h3, h4, h5, h6⟩ := h.ex
  have hlen := h2.perm.length_eq
  have := len_calls base gH fv A cap b hl c w h1
  rw [hlen] at this
  exact this
def fstR (ord : Int) (L : List Rt) : Option Nat := leastF (HeapII.ordK ord) (fun j => (rat L j).2) L.length
def popR (ord : Int) (L : List Rt) : List Rt := match fstR ord L with
  | none => L
  | some b => L.eraseIdx b
def itemO (ord : Int) (L : List Rt) : Rt := match fstR ord L with
  | none => default
  | some b => rat L b
theorem rfirst_slot {w : World} {base gH gR : Nat} {ord : Int} {M : List It} {c : Nat} {L : List Rt} {F : Nat → Prop} (h : Slot w base gH gR ord M c L F) (hL : L.length ≤ 4000000000000) (hb : base ≤ w.heap.size) :
    Calls Try.prog 36 #[.pointer (some ⟨gR, 0, none⟩)] w fun e w' => e = .returned (.tuple #[.agg #[.int .u8 (itemO ord L).1.1, .int .u8 (itemO ord L).1.2.1, .int .u8 (itemO ord L).1.2.2.1, .int .u8 (itemO ord L).1.2.2.2.1, .int .u8 (itemO ord L).1.2.2.2.2.1, .int .u8 (itemO ord L).1.2.2.2.2.2.1, .int .u8 (itemO ord L).1.2.2.2.2.2.2.1, .int .u8 (itemO ord L).1.2.2.2.2.2.2.2, .int .i64 (itemO ord L).2], .bool (fstR ord L).isSome]) ∧ Below w.heap.size w w' := by
  obtain ⟨fv, A, cap, b, hl, RA, rcap, h1, h2, h3, h4, h5, h6⟩ := h.ex
  have hlen := h2.perm.length_eq
  unfold itemO
  cases hf : fstR ord L with
  | none => exact rfirst_none base gR ord RA rcap L w h4 hL hb hf
  | some x => exact rfirst_calls base gR ord RA rcap L w h4 hL hb hf
theorem rpop_slot {w : World} {base gH gR : Nat} {ord : Int} {M : List It} {c : Nat} {L : List Rt} {F : Nat → Prop} (h : Slot w base gH gR ord M c L F) (hL : L.length ≤ 4000000000000) (hb : base ≤ w.heap.size) :
    Calls Try.prog 33 #[.pointer (some ⟨gR, 0, none⟩)] w fun e w' => e = .returned (.tuple #[.agg #[.int .u8 (itemO ord L).1.1, .int .u8 (itemO ord L).1.2.1, .int .u8 (itemO ord L).1.2.2.1, .int .u8 (itemO ord L).1.2.2.2.1, .int .u8 (itemO ord L).1.2.2.2.2.1, .int .u8 (itemO ord L).1.2.2.2.2.2.1, .int .u8 (itemO ord L).1.2.2.2.2.2.2.1, .int .u8 (itemO ord L).1.2.2.2.2.2.2.2, .int .i64 (itemO ord L).2], .bool (fstR ord L).isSome]) ∧ ∃ F', Slot w' base gH gR ord M c (popR ord L) F' ∧ Chg F w w' ∧ ∀ k, F' k → F k ∨ w.heap.size ≤ k := by
  obtain ⟨fv, A, cap, b, hl, RA, rcap, h1, h2, h3, h4, h5, h6⟩ := h.ex
  have hlen := h2.perm.length_eq
  unfold itemO popR
  cases hf : fstR ord L with
  | none =>
    refine (rpop_none base gR ord RA rcap L w h4 hL hb hf).mono ?_
    rintro e w' ⟨rfl, g1, hbb⟩
    exact ⟨rfl, F, h.below hbb, Chg.of_below hbb, fun k hk => Or.inl hk⟩
  | some x =>
    refine (rpop_calls base gR ord RA rcap L w h4 hL hb hf).mono ?_
    rintro e w' ⟨rfl, RA', rcap', g1, g2, g3⟩
    exact ⟨rfl, Slot.ref h1 h2 h3 h4 h5 h6 g1 (g2.mono (fun k hk => Or.inl hk)) (fun a ha => Or.inr (g3 a ha))⟩
theorem rrank_slot {w : World} {base gH gR : Nat} {ord : Int} {M : List It} {c : Nat} {L : List Rt} {F : Nat → Prop} (h : Slot w base gH gR ord M c L F) (key : Kt) (hL : L.length ≤ 4000000000000) (hb : base ≤ w.heap.size) :
    Calls Try.prog 39 #[.pointer (some ⟨gR, 0, none⟩), .agg #[.int .u8 key.1, .int .u8 key.2.1, .int .u8 key.2.2.1, .int .u8 key.2.2.2.1, .int .u8 key.2.2.2.2.1, .int .u8 key.2.2.2.2.2.1, .int .u8 key.2.2.2.2.2.2.1, .int .u8 key.2.2.2.2.2.2.2]] w fun e w' => e = .returned (.tuple #[.int .i64 (match idxR L key with
      | none => 0
      | some j => (rat L j).2), .bool (idxR L key).isSome]) ∧ Below w.heap.size w w' := by
  obtain ⟨fv, A, cap, b, hl, RA, rcap, h1, h2, h3, h4, h5, h6⟩ := h.ex
  have hlen := h2.perm.length_eq
  cases hi : idxR L key with
  | none => exact rrank_none base gR ord RA rcap L key w h4 hL hb hi
  | some i => exact rrank_calls base gR ord RA rcap L key w h4 hL hb hi
theorem Slot.cell {w : World} {base gH gR : Nat} {ord : Int} {M : List It} {c : Nat} {L : List Rt} {F : Nat → Prop} (h : Slot w base gH gR ord M c L F) : ∃ RA rcap, w.cell? ⟨gR, 1, none⟩ = some (.slice RA L.length rcap) := by
  obtain ⟨fv, A, cap, b, hl, RA, rcap, h1, h2, h3, h4, h5, h6⟩ := h.ex
  exact ⟨RA, rcap, (blk_cell h4.blk 1).trans rfl⟩
/-! what the document says of what came -/
theorem rat_map (M : List It) {i : Nat} (hi : i < M.length) : rat (M.map pairOf) i = pairOf (at_ M i) := by
  unfold rat
  rw [List.getD_eq_getElem?_getD, List.getElem?_map, at_get hi]
  rfl
theorem leastF_congr {lt : Int → Int → Bool} {f g : Nat → Int} : ∀ n, (∀ i, i < n → f i = g i) → leastF lt f n = leastF lt g n
  | 0, _ => rfl
  | n + 1, h => by
    unfold leastF
    rw [leastF_congr n (fun i hi => h i (by omega))]
    cases hb : leastF lt g n with
    | none => rfl
    | some b =>
      have hbn := leastF_lt hb
      simp only []
      rw [h n (by omega), h b (by omega)]
theorem fst_map (ord : Int) (M : List It) : fstR ord (M.map pairOf) = fstM ord M := by
  unfold fstR fstM
  rw [List.length_map]
  exact leastF_congr _ (fun i hi => by rw [rat_map M hi]; rfl)
theorem fstM_lt {ord : Int} {M : List It} {b : Nat} (h : fstM ord M = some b) : b < M.length := leastF_lt h
theorem item_map (ord : Int) (M : List It) : itemO ord (M.map pairOf) = (keyO ord M, rankO ord M) := by
  unfold itemO keyO rankO
  rw [fst_map]
  cases h : fstM ord M with
  | none => rfl
  | some b => simp only []; rw [rat_map M (fstM_lt h)]; rfl
theorem erase_mapP (M : List It) (k : Nat) : (M.map pairOf).eraseIdx k = (M.eraseIdx k).map pairOf := by
  rw [List.eraseIdx_eq_take_drop_succ, List.eraseIdx_eq_take_drop_succ, List.map_append, List.map_take, List.map_drop]
theorem pop_map (ord : Int) {M : List It} (hk : Keys M) : popR ord (M.map pairOf) = (popM ord M).map pairOf := by
  unfold popR popM
  rw [fst_map]
  cases h : fstM ord M with
  | none => rfl
  | some b => simp only []; rw [erase_mapP, filter_erase hk (idx_at hk (fstM_lt h))]
theorem drop_map {M : List It} (hk : Keys M) (key : Kt) : dropR (M.map pairOf) key = (M.filter (fun x => decide (x.1 ≠ key))).map pairOf := by
  unfold dropR
  rw [idxR_map]
  cases h : idxL M key with
  | none => simp only []; rw [filter_none h]
  | some b => simp only []; rw [erase_mapP, filter_erase hk h]
theorem put_map (ord : Int) {M : List It} (hk : Keys M) (c : Nat) (key : Kt) (rank : Int) : putR ord (M.map pairOf) key rank = (putM ord M c key rank).map pairOf := by
  unfold putR putM
  by_cases e : ord = -1
  · rw [if_pos e, if_pos e]
  · rw [if_neg e, if_neg e, List.map_append, idxR_map]
    cases h : idxL M key with
    | none => simp only []; rw [filter_none h]; rfl
    | some b => simp only []; rw [erase_mapP, filter_erase hk h]; rfl
theorem rank_map {M : List It} (key : Kt) : (match idxR (M.map pairOf) key with
      | none => 0
      | some j => (rat (M.map pairOf) j).2) = (match idxL M key with
      | none => (0 : Int)
      | some j => (at_ M j).2.1) := by
  rw [idxR_map]
  cases h : idxL M key with
  | none => rfl
  | some b => simp only []; rw [rat_map M (idx_some h).1]; rfl
theorem putM_len (ord : Int) (M : List It) (c : Nat) (key : Kt) (rank : Int) (h : M.length ≤ c) : (putM ord M c key rank).length ≤ putC ord c := by
  unfold putM putC
  split
  · exact h
  · rw [List.length_append]
    have := List.length_filter_le (fun x : It => decide (x.1 ≠ key)) M
    simp at *
    omega
theorem popM_len (ord : Int) (M : List It) : (popM ord M).length ≤ M.length := by
  unfold popM
  split
  · exact Nat.le_refl _
  · exact List.length_filter_le _ _
theorem Slot.keysM {w : World} {base gH gR : Nat} {ord : Int} {M : List It} {c : Nat} {L : List Rt} {F : Nat → Prop} (h : Slot w base gH gR ord M c L F) : Keys M := by
  obtain ⟨fv, A, cap, b, hl, RA, rcap, h1, h2, h3, h4, h5, h6⟩ := h.ex
  exact h2.keysM
end Go.Proofs.Ytibipbfmhbkpiaa.HeapDI
/- The two heaps of the law HeapPlays. Conditions: those that stand in each theorem. Written by wip/gen/heapwd.py. -/
namespace Go.Proofs.Ytibipbfmhbkpiaa.HeapDI
open Go.RowKit Go.Proofs.YtibipbfmhbkpiaaW.PrintWords Go.Proofs.YtibipbfmhbkpiaaW.PrintLast Go.Proofs.YtibipbfmhbkpiaaW.PrintMore Go.Proofs.Ytibipbfmhbkpiaa.HeapW Go.Proofs.Ytibipbfmhbkpiaa.HeapP Go.Proofs.Ytibipbfmhbkpiaa.MapAt Go.Proofs.Ytibipbfmhbkpiaa.Q
set_option linter.unusedVariables false
set_option linter.unusedSimpArgs false
/-- one of the two: its blocks, its order, what came -/
structure Dt where
  gH : Nat
  gR : Nat
  ord : Int
  M : List It
  c : Nat
def set2 {α : Type} (f : Nat → α) (k : Nat) (x : α) : Nat → α := fun j => if j = k then x else f j
structure WdAt (w : World) (base gw : Nat) (d : Nat → Dt) (F : Nat → Nat → Prop) : Prop where
  blk : w.heap[gw]? = some (.cells #[.pointer (some ⟨(d 0).gH, 0, none⟩), .pointer (some ⟨(d 1).gH, 0, none⟩), .pointer (some ⟨(d 0).gR, 0, none⟩), .pointer (some ⟨(d 1).gR, 0, none⟩)] 29 (0, 0))
  slot : ∀ k, k < 2 → Slot w base (d k).gH (d k).gR (d k).ord (d k).M (d k).c ((d k).M.map pairOf) (F k)
  dis : ∀ k j, k < 2 → j < 2 → k ≠ j → ∀ i, F k i → F j i → False
  out : ∀ k, k < 2 → ¬ F k gw
  ge : base ≤ gw
  len : ∀ k, k < 2 → (d k).M.length ≤ (d k).c
theorem WdAt.below {w w' : World} {base gw : Nat} {d : Nat → Dt} {F : Nat → Nat → Prop} (h : WdAt w base gw d F) (hb : Below w.heap.size w w') : WdAt w' base gw d F :=
  ⟨(hb.block _ (blk_lt h.blk)).trans h.blk, fun k hk => (h.slot k hk).below hb, h.dis, h.out, h.ge, h.len⟩
theorem WdAt.cellH {w : World} {base gw : Nat} {d : Nat → Dt} {F : Nat → Nat → Prop} (h : WdAt w base gw d F) {k : Nat} (hk : k < 2) : w.cell? ⟨gw, k, none⟩ = some (.pointer (some ⟨(d k).gH, 0, none⟩)) ∧ w.cell? ⟨gw, 2 + k, none⟩ = some (.pointer (some ⟨(d k).gR, 0, none⟩)) := by
  have h2 : k = 0 ∨ k = 1 := by omega
  rcases h2 with rfl | rfl
  · exact ⟨(blk_cell h.blk 0).trans rfl, (blk_cell h.blk 2).trans rfl⟩
  · exact ⟨(blk_cell h.blk 1).trans rfl, (blk_cell h.blk 3).trans rfl⟩
/-- one of the two changes -/
theorem WdAt.set {w w' : World} {base gw : Nat} {d : Nat → Dt} {F : Nat → Nat → Prop} (h : WdAt w base gw d F) {k : Nat} (hk : k < 2) {M' : List It} {c' : Nat} {F' : Nat → Prop} (hs : Slot w' base (d k).gH (d k).gR (d k).ord M' c' (M'.map pairOf) F') (hc : Chg (F k) w w') (hF : ∀ i, F' i → F k i ∨ w.heap.size ≤ i) (hl : M'.length ≤ c') :
    WdAt w' base gw (set2 d k ⟨(d k).gH, (d k).gR, (d k).ord, M', c'⟩) (set2 F k F') := by
  have e : ∀ {α : Type} (f : Nat → α) (x : α), set2 f k x k = x := fun f x => by unfold set2; rw [if_pos rfl]
  have ne : ∀ {α : Type} (f : Nat → α) (x : α) (j : Nat), j ≠ k → set2 f k x j = f j := fun f x j hj => by unfold set2; rw [if_neg hj]
  have hsl : ∀ j, j < 2 → j ≠ k → Slot w' base (d j).gH (d j).gR (d j).ord (d j).M (d j).c ((d j).M.map pairOf) (F j) := fun j hj hjk => (h.slot j hj).move (fun i hi => hc.block i ((h.slot j hj).ge i hi).2 (fun q => h.dis j k hj hk hjk i hi q))
  refine ⟨?_, fun j hj => ?_, fun j i hj hi hji x hx hy => ?_, fun j hj q => ?_, h.ge, fun j hj => ?_⟩
  · have hb := hc.heap h.blk (h.out k hk)
    have h0 : ∀ j, (set2 d k ⟨(d k).gH, (d k).gR, (d k).ord, M', c'⟩ j).gH = (d j).gH ∧ (set2 d k ⟨(d k).gH, (d k).gR, (d k).ord, M', c'⟩ j).gR = (d j).gR := fun j => by
      by_cases hj : j = k
      · subst hj; rw [e]; exact ⟨rfl, rfl⟩
      · rw [ne _ _ _ hj]; exact ⟨rfl, rfl⟩
    rw [(h0 0).1, (h0 0).2, (h0 1).1, (h0 1).2]
    exact hb
  · by_cases hjk : j = k
    · subst hjk; rw [e, e]; exact hs
    · rw [ne _ _ _ hjk, ne _ _ _ hjk]; exact hsl j hj hjk
  · by_cases hjk : j = k
    · subst hjk
      rw [e] at hx
      rw [ne _ _ _ (fun q => hji q.symm)] at hy
      rcases hF x hx with q | q
      · exact h.dis j i hj hi hji x q hy
      · have := ((h.slot i hi).ge x hy).2; omega
    · rw [ne _ _ _ hjk] at hx
      by_cases hik : i = k
      · subst hik
        rw [e] at hy
        rcases hF x hy with q | q
        · exact h.dis j i hj hi hji x hx q
        · have := ((h.slot j hj).ge x hx).2; omega
      · rw [ne _ _ _ hik] at hy
        exact h.dis j i hj hi hji x hx hy
  · by_cases hjk : j = k
    · subst hjk
      rw [e] at q
      rcases hF gw q with q | q
      · exact h.out j hj q
      · have := blk_lt h.blk; omega
    · rw [ne _ _ _ hjk] at q
      exact h.out j hj q
  · by_cases hjk : j = k
    · subst hjk; rw [e]; exact hl
    · rw [ne _ _ _ hjk]; exact h.len j hj
/-- a new heap in one of the two places -/
theorem WdAt.fresh {w w' : World} {base gw : Nat} {d : Nat → Dt} {F : Nat → Nat → Prop} (h : ∀ j, j < 2 → (j = 0 ∨ j = 1)) (hsl : ∀ j, j < 2 → Slot w' base (d j).gH (d j).gR (d j).ord (d j).M (d j).c ((d j).M.map pairOf) (F j)) (hb : w'.heap[gw]? = some (.cells #[.pointer (some ⟨(d 0).gH, 0, none⟩), .pointer (some ⟨(d 1).gH, 0, none⟩), .pointer (some ⟨(d 0).gR, 0, none⟩), .pointer (some ⟨(d 1).gR, 0, none⟩)] 29 (0, 0))) (hd : ∀ i, F 0 i → F 1 i → False) (ho : ∀ k, k < 2 → ¬ F k gw) (hg : base ≤ gw) (hl : ∀ k, k < 2 → (d k).M.length ≤ (d k).c) : WdAt w' base gw d F :=
  ⟨hb, hsl, fun k j hk hj hkj i hi hj' => by
    rcases h k hk with rfl | rfl <;> rcases h j hj with rfl | rfl
    · exact hkj rfl
    · exact hd i hi hj'
    · exact hd i hj' hi
    · exact hkj rfl, ho, hg, hl⟩
/-- the start of a slot -/
theorem slot_new {w : World} {base gH gR b : Nat} {ord : Int} {fv : Value} (h : HAt w base gH fv none 0 b [] 0) (hr : RefAt w base gR ord none 0 []) (hR : Rules fv ord []) : Slot w base gH gR ord [] 0 (([] : List It).map pairOf) (fun k => k = gH ∨ k = b ∨ k = gR) := by
  refine ⟨fv, none, 0, b, [], none, 0, h, RelM.empty, hR, hr, fun k q r => ?_, fun k => ?_⟩
  · rcases r with r | ⟨a, ha, _⟩
    · rcases q with q | q | ⟨a, ha, _⟩
      · have h1 := h.blk
        have h2 := hr.blk
        rw [← q, r] at h1
        rw [h1] at h2
        exact absurd h2 (by intro e; cases e)
      · exact h.map.ne hr.blk (r.symm.trans q)
      · cases ha
    · cases ha
  · constructor
    · rintro (q | q | q)
      · exact Or.inl (Or.inl q)
      · exact Or.inl (Or.inr (Or.inl q))
      · exact Or.inr (Or.inl q)
    · rintro ((q | q | ⟨a, ha, _⟩) | (q | ⟨a, ha, _⟩))
      · exact Or.inl q
      · exact Or.inr (Or.inl q)
      · cases ha
      · exact Or.inr (Or.inr q)
      · cases ha
end Go.Proofs.Ytibipbfmhbkpiaa.HeapDI
/- A new heap in one of the two places. Conditions: those that stand in each theorem. Written by wip/gen/heapwd.py. -/
namespace Go.Proofs.Ytibipbfmhbkpiaa.HeapDI
open Go.RowKit Go.Proofs.YtibipbfmhbkpiaaW.PrintWords Go.Proofs.YtibipbfmhbkpiaaW.PrintLast Go.Proofs.YtibipbfmhbkpiaaW.PrintMore Go.Proofs.Ytibipbfmhbkpiaa.HeapW Go.Proofs.Ytibipbfmhbkpiaa.HeapP Go.Proofs.Ytibipbfmhbkpiaa.MapAt Go.Proofs.Ytibipbfmhbkpiaa.Q
set_option linter.unusedVariables false
set_option linter.unusedSimpArgs false
def anew.T6 : Bool × List (List Nat × List Nat) := (true, [([], []), ([], []), ([], []), ([2], [2]), ([0], [0]), ([4], [4]), ([5, 1, 0, 1, 2, 3], [1, 5]), ([6, 3, 3, 0, 1, 2, 3], [3, 6])])
def anew.B6 : List Nat := [0, 0, 0, 4, 1, 17, 63, 127]
theorem anew.tab6 : rtab .any (opsOf Try.f8 6) = anew.T6 := by kernel_rfl
theorem anew.bits6 : waitsOk anew.T6.2 anew.B6 = true := by kernel_rfl
set_option maxHeartbeats 8000000 in
set_option maxRecDepth 100000 in
theorem anew0 (gw : Nat) (p0 p1 p2 p3 : Value) (order : Int) (w : World) (h : w.heap[gw]? = some (.cells #[p0, p1, p2, p3] 29 (0, 0))) :
    Calls Try.prog 8 #[.pointer (some ⟨gw, 0, none⟩), .int .i64 0, .int .i64 order] w fun e w' => e = .returned (.bool true) ∧ ∃ gH gR ord F', w'.heap[gw]? = some (.cells #[(.pointer (some ⟨gH, 0, none⟩)), p1, (.pointer (some ⟨gR, 0, none⟩)), p3] 29 (0, 0)) ∧ Slot w' w.heap.size gH gR ord [] 0 (([] : List It).map pairOf) F' ∧ (∀ i, F' i → w.heap.size ≤ i) ∧ Chg (· = gw) w w' := by
  have H := Aside0.mk h
  have HGW : Aside0 (gw < w.heap.size) := ⟨blk_lt h⟩
  have hnn : ∀ (g : Nat) (W : World), (binOp .neq 24 (.pointer (some ⟨g, 0, none⟩)) (.pointer none)).run Try.prog W = .ok (.bool true) W := fun g W => by first | rfl | (simp [binOp]; done) | kernel_rfl
  clear h
  go_enter Try.func8, Try.ntmps8
  by_cases ho : order = -1
  · subst ho
    go_wp2_with fail
    obtain ⟨w0, hw0⟩ : ∃ w0, w0 = w := ⟨_, rfl⟩
    have HB0 : Aside0 (Below w.heap.size w w0) := ⟨by rw [hw0]; exact Below.refl _ _⟩
    rw [← hw0]
    clear hw0
    obtain ⟨ord, hord⟩ : ∃ ord : Int, ord = -1 := ⟨_, rfl⟩
    have HRU : Aside0 (Rules .nilFunc ord []) := ⟨Or.inl ⟨hord, rfl, rfl⟩⟩
    have HORD := Aside0.mk hord
    clear hord
    have HB4 : Aside0 (Below w.heap.size w w0.drew) := ⟨below_drew HB0.out⟩
    clear HB0
    refine start_ (n := 8) (S := fun w' => True) (ds := [7]) #[false, false, false, false, false, false, false, false] (by kernel_rfl) rfl rfl trivial (fun hHeld => ?_)
    refine with_tabW anew.tab6 anew.bits6 (fun HT_ HW_ => ?_)
    generalize w0.drew = w4 at HB4 hHeld ⊢
    refine pure_ (i := 0) (N := some 15) (v := ?_) (a' := ?_) #[true, false, false, false, false, false, false, false] rfl rfl (any_of HT_.out (by kernel_rfl)) (fun _ _ _ h => h) (Or.inl ⟨by rfl, ?_⟩) ?_ ?_
    rotate_left
    · intro w'
      go_simp
      with_reducible rfl
    rotate_left
    · simp only [Act.put, List.setIfInBounds_toArray, List.set_cons_zero, List.set_cons_succ, i64_w, i32_w]
      rfl
    refine pure_ (i := 1) (N := some 16) (v := ?_) (a' := ?_) #[true, true, false, false, false, false, false, false] rfl rfl (any_of HT_.out (by kernel_rfl)) (fun _ _ _ h => h) (Or.inl ⟨by rfl, ?_⟩) ?_ ?_
    rotate_left
    · intro w'
      go_simp
      with_reducible rfl
    rotate_left
    · simp only [Act.put, List.setIfInBounds_toArray, List.set_cons_zero, List.set_cons_succ, i64_w, i32_w]
      rfl
    refine pure_ (i := 2) (N := some 17) (v := ?_) (a' := ?_) #[true, true, true, false, false, false, false, false] rfl rfl (any_of HT_.out (by kernel_rfl)) (fun _ _ _ h => h) (Or.inl ⟨by rfl, ?_⟩) ?_ ?_
    rotate_left
    · intro w'
      go_simp
      with_reducible rfl
    rotate_left
    · simp only [Act.put, List.setIfInBounds_toArray, List.set_cons_zero, List.set_cons_succ, i64_w, i32_w]
      rfl
    refine pure_ (i := 4) (N := some 19) (v := ?_) (a' := ?_) #[true, true, true, false, true, false, false, false] rfl rfl (any_of HT_.out (by kernel_rfl)) (fun _ _ _ h => h) (Or.inl ⟨by rfl, ?_⟩) ?_ ?_
    rotate_left
    · intro w'
      go_simp
      with_reducible rfl
    rotate_left
    · simp only [Act.put, List.setIfInBounds_toArray, List.set_cons_zero, List.set_cons_succ, i64_w, i32_w]
      rfl
    refine pure_ (i := 5) (N := some 20) (v := ?_) (a' := ?_) #[true, true, true, false, true, true, false, false] rfl rfl (any_of HT_.out (by kernel_rfl)) (fun _ _ _ h => h) (Or.inl ⟨by rfl, ?_⟩) ?_ ?_
    rotate_left
    · intro w'
      go_simp
      with_reducible rfl
    rotate_left
    · simp only [Act.put, List.setIfInBounds_toArray, List.set_cons_zero, List.set_cons_succ, i64_w, i32_w]
      rfl
    refine one_ (i := 3) (N := some 18) #[true, true, true, true, true, true, false, false] rfl rfl (one_of HT_.out (by kernel_rfl)) (by decide) (fun K hK => ?_)
    refine goes_ Try.func29 (by kernel_rfl) rfl #[.nilFunc] (by rfl) rfl rfl (by simp only [List.map_toArray, List.map_cons, List.map_nil]; rfl) ?_
    with_reducible refine (new_nilf w4).mono ?_
    rintro e w5 ⟨g, b, rfl, h, hb⟩
    refine ⟨_, rfl, ?_⟩
    have HB5 := Aside0.mk (below_step HB4.out hb)
    have H5 := Aside0.mk (h.lower HB4.out.size)
    have HW5 := Aside0.mk ((HB5.out.block gw HGW.out).trans H.out)
    clear h hb HB4
    refine hK.out _ _ trivial (fun hHeld => ?_)
    clear hK K
    refine norm_ (a' := ?_) ?_ ?_
    rotate_left
    · show Act.put _ (some 18) _ = _
      simp only [Act.put, List.setIfInBounds_toArray, List.set_cons_zero, List.set_cons_succ, i64_w, i32_w]
      rfl
    refine pure_ (i := 6) (N := some 21) (v := ?_) (a' := ?_) #[true, true, true, true, true, true, true, false] rfl rfl (any_of HT_.out (by kernel_rfl)) (fun _ _ _ h => h) (Or.inl ⟨by rfl, ?_⟩) ?_ ?_
    rotate_left
    · intro w'
      go_simp
      with_reducible rfl
    rotate_left
    · simp only [Act.put, List.setIfInBounds_toArray, List.set_cons_zero, List.set_cons_succ, i64_w, i32_w]
      rfl
    refine last_ (i := 7) (N := none) #[true, true, true, true, true, true, true, true] rfl rfl (one_of HT_.out (by kernel_rfl)) (by decide) (fun K hK => ?_)
    have hc1 : w5.cell? ⟨gw, 0, none⟩ = some p0 := (blk_cell HW5.out 0).trans rfl
    have hf1 := blk_frozen HW5.out 0
    refine skip_ (w1 := (w5.setCell ⟨gw, 0, none⟩ (.pointer (some ⟨g, 0, none⟩)))) (by rfl) rfl ?_ ?_
    · first | (go_simp; done) | (go_simp; rfl)
    clear hc1 hf1
    have HW6 := Aside0.mk (blk_put HW5.out 0 (.pointer (some ⟨g, 0, none⟩)) rfl)
    have HC6 : Aside0 (Chg (· = gw) w (w5.setCell ⟨gw, 0, none⟩ (.pointer (some ⟨g, 0, none⟩)))) := ⟨Chg.setCell (F := (· = gw)) (Chg.of_below HB5.out) (p := ⟨gw, 0, none⟩) (Or.inl rfl) _⟩
    have H6 : Aside0 (HAt (w5.setCell ⟨gw, 0, none⟩ (.pointer (some ⟨g, 0, none⟩))) w.heap.size g .nilFunc none 0 b [] 0) := ⟨H5.out.below0 (fun i hi => Below.heap_setCell w5 _ _ _ (fun e => by have e' : i = gw := e; have := H5.out.fp_ge i hi; have := HGW.out; omega))⟩
    have hsz : (w5.setCell ⟨gw, 0, none⟩ (.pointer (some ⟨g, 0, none⟩))).heap.size = w5.heap.size := Go.Deep.nblk_setCell _ _ _
    have HGL : Aside0 (g < (w5.setCell ⟨gw, 0, none⟩ (.pointer (some ⟨g, 0, none⟩))).heap.size) := ⟨blk_lt H6.out.blk⟩
    clear HW5 HB5 H5 hsz
    generalize (w5.setCell ⟨gw, 0, none⟩ (.pointer (some ⟨g, 0, none⟩))) = w6 at HW6 HC6 H6 HGL ⊢
    refine hK.out _ _ ?_
    clear hK K
    refine done_ (done_of HT_.out (by kernel_rfl)) ?_
    try clear hHeld
    have HR7 := Aside0.mk (blk_new w6 (.cells #[.int .i64 (-1), .slice none 0 0] 39))
    have HW7 := Aside0.mk (blk_alloc HW6.out (.cells #[.int .i64 (-1), .slice none 0 0] 39))
    have hb7 := below_alloc (Below.refl w6.heap.size w6) (.cells #[.int .i64 (-1), .slice none 0 0] 39)
    have H7 := Aside0.mk (H6.out.below hb7)
    have HC7 := Aside0.mk (HC6.out.trans (Chg.of_below hb7))
    have hcz : (w6.alloc (.cells #[.int .i64 (-1), .slice none 0 0] 39)).cell? ⟨gw, 2, none⟩ = some p2 := (blk_cell HW7.out 2).trans rfl
    have hfz := blk_frozen HW7.out 2
    have hck : ((w6.alloc (.cells #[.int .i64 (-1), .slice none 0 0] 39)).setCell ⟨gw, 2, none⟩ (.pointer (some ⟨w6.heap.size, 0, none⟩))).cell? ⟨gw, 0, none⟩ = some (.pointer (some ⟨g, 0, none⟩)) := (blk_cell (blk_put HW7.out 2 (.pointer (some ⟨w6.heap.size, 0, none⟩)) rfl) 0).trans rfl
    have HGS : Aside0 (gw < w6.heap.size) := ⟨blk_lt HW6.out⟩
    clear hb7
    go_wp2
    go_ret
    have hfin : ∀ i, i ≠ gw → ((w6.alloc (.cells #[.int .i64 (-1), .slice none 0 0] 39)).setCell ⟨gw, 2, none⟩ (.pointer (some ⟨w6.heap.size, 0, none⟩))).heap[i]? = (w6.alloc (.cells #[.int .i64 (-1), .slice none 0 0] 39)).heap[i]? := fun i hi => Below.heap_setCell _ _ _ _ (fun e => hi e)
    refine ⟨by first | rfl | simp, g, w6.heap.size, ord, _, blk_put HW7.out 2 (.pointer (some ⟨w6.heap.size, 0, none⟩)) rfl, slot_new (H7.out.below0 (fun i hi => hfin i (fun e => by have := H7.out.fp_ge i hi; have := HGW.out; omega))) (b := b) (fv := .nilFunc) ⟨(hfin _ (fun e => by have := HGS.out; omega)).trans (by first | exact HR7.out | (rw [HORD.out]; exact HR7.out)), Kd.R_nil _ _ _ _ _, HC6.out.size⟩ HRU.out, ?_, HC7.out.setCell (Or.inl rfl) _⟩
    rintro i (q | q | q)
    · rw [q]; exact H7.out.ge.1
    · rw [q]; exact H7.out.ge.2
    · rw [q]; exact HC6.out.size
  · have hno : (order != -1) = true := bne_iff_ne.mpr ho
    clear ho
    obtain ⟨pk, hpk, hp0, hp5⟩ := HeapII.pick_ok order 5 (by decide) (by decide)
    have HPK := Aside0.mk hpk
    have HPR := Aside0.mk (And.intro hp0 hp5)
    clear hpk hp0 hp5
    go_wp2_with fail
    refine (cabstandlaw07_pick.calls order 5 pk _ HPK.out).mono ?_
    rintro e w1 ⟨rfl, nq, rfl⟩
    have HB1 : Aside0 (Below w.heap.size w (w.drewN nq)) := ⟨pw_below_drewN (Below.refl _ _) nq⟩
    generalize w.drewN nq = w1 at HB1 ⊢
    go_wp2_with fail
    refine (HeapII.order_calls pk _).mono ?_
    rintro e w0 ⟨f, kk, rfl, hkf, hless, hb⟩
    have HB0 := Aside0.mk (below_step HB1.out hb)
    have hkk : kk = pk := pick_small HPR.out hkf
    rw [hkk] at hless
    have HRU : Aside0 (Rules (.func (.func f) #[] #[]) pk []) := ⟨Or.inr ⟨by have := HPR.out; omega, f, rfl, less_of hless, fun j h1 h2 => absurd h2 (Nat.not_lt_zero _)⟩⟩
    clear hb hkf hless hkk HB1
    go_wp2_with fail
    have HB4 : Aside0 (Below w.heap.size w w0.drew) := ⟨below_drew HB0.out⟩
    clear HB0
    refine start_ (n := 8) (S := fun w' => True) (ds := [7]) #[false, false, false, false, false, false, false, false] (by kernel_rfl) rfl rfl trivial (fun hHeld => ?_)
    refine with_tabW anew.tab6 anew.bits6 (fun HT_ HW_ => ?_)
    generalize w0.drew = w4 at HB4 hHeld ⊢
    refine pure_ (i := 0) (N := some 15) (v := ?_) (a' := ?_) #[true, false, false, false, false, false, false, false] rfl rfl (any_of HT_.out (by kernel_rfl)) (fun _ _ _ h => h) (Or.inl ⟨by rfl, ?_⟩) ?_ ?_
    rotate_left
    · intro w'
      go_simp
      with_reducible rfl
    rotate_left
    · simp only [Act.put, List.setIfInBounds_toArray, List.set_cons_zero, List.set_cons_succ, i64_w, i32_w]
      rfl
    refine pure_ (i := 1) (N := some 16) (v := ?_) (a' := ?_) #[true, true, false, false, false, false, false, false] rfl rfl (any_of HT_.out (by kernel_rfl)) (fun _ _ _ h => h) (Or.inl ⟨by rfl, ?_⟩) ?_ ?_
    rotate_left
    · intro w'
      go_simp
      with_reducible rfl
    rotate_left
    · simp only [Act.put, List.setIfInBounds_toArray, List.set_cons_zero, List.set_cons_succ, i64_w, i32_w]
      rfl
    refine pure_ (i := 2) (N := some 17) (v := ?_) (a' := ?_) #[true, true, true, false, false, false, false, false] rfl rfl (any_of HT_.out (by kernel_rfl)) (fun _ _ _ h => h) (Or.inl ⟨by rfl, ?_⟩) ?_ ?_
    rotate_left
    · intro w'
      go_simp
      with_reducible rfl
    rotate_left
    · simp only [Act.put, List.setIfInBounds_toArray, List.set_cons_zero, List.set_cons_succ, i64_w, i32_w]
      rfl
    refine pure_ (i := 4) (N := some 19) (v := ?_) (a' := ?_) #[true, true, true, false, true, false, false, false] rfl rfl (any_of HT_.out (by kernel_rfl)) (fun _ _ _ h => h) (Or.inl ⟨by rfl, ?_⟩) ?_ ?_
    rotate_left
    · intro w'
      go_simp
      with_reducible rfl
    rotate_left
    · simp only [Act.put, List.setIfInBounds_toArray, List.set_cons_zero, List.set_cons_succ, i64_w, i32_w]
      rfl
    refine pure_ (i := 5) (N := some 20) (v := ?_) (a' := ?_) #[true, true, true, false, true, true, false, false] rfl rfl (any_of HT_.out (by kernel_rfl)) (fun _ _ _ h => h) (Or.inl ⟨by rfl, ?_⟩) ?_ ?_
    rotate_left
    · intro w'
      go_simp
      with_reducible rfl
    rotate_left
    · simp only [Act.put, List.setIfInBounds_toArray, List.set_cons_zero, List.set_cons_succ, i64_w, i32_w]
      rfl
    refine one_ (i := 3) (N := some 18) #[true, true, true, true, true, true, false, false] rfl rfl (one_of HT_.out (by kernel_rfl)) (by decide) (fun K hK => ?_)
    refine goes_ Try.func29 (by kernel_rfl) rfl #[(.func (.func f) #[] #[])] (by rfl) rfl rfl (by simp only [List.map_toArray, List.map_cons, List.map_nil]; rfl) ?_
    with_reducible refine (new_calls f w4).mono ?_
    rintro e w5 ⟨g, b, rfl, h, hb⟩
    refine ⟨_, rfl, ?_⟩
    have HB5 := Aside0.mk (below_step HB4.out hb)
    have H5 := Aside0.mk (h.lower HB4.out.size)
    have HW5 := Aside0.mk ((HB5.out.block gw HGW.out).trans H.out)
    clear h hb HB4
    refine hK.out _ _ trivial (fun hHeld => ?_)
    clear hK K
    refine norm_ (a' := ?_) ?_ ?_
    rotate_left
    · show Act.put _ (some 18) _ = _
      simp only [Act.put, List.setIfInBounds_toArray, List.set_cons_zero, List.set_cons_succ, i64_w, i32_w]
      rfl
    refine pure_ (i := 6) (N := some 21) (v := ?_) (a' := ?_) #[true, true, true, true, true, true, true, false] rfl rfl (any_of HT_.out (by kernel_rfl)) (fun _ _ _ h => h) (Or.inl ⟨by rfl, ?_⟩) ?_ ?_
    rotate_left
    · intro w'
      go_simp
      with_reducible rfl
    rotate_left
    · simp only [Act.put, List.setIfInBounds_toArray, List.set_cons_zero, List.set_cons_succ, i64_w, i32_w]
      rfl
    refine last_ (i := 7) (N := none) #[true, true, true, true, true, true, true, true] rfl rfl (one_of HT_.out (by kernel_rfl)) (by decide) (fun K hK => ?_)
    have hc1 : w5.cell? ⟨gw, 0, none⟩ = some p0 := (blk_cell HW5.out 0).trans rfl
    have hf1 := blk_frozen HW5.out 0
    refine skip_ (w1 := (w5.setCell ⟨gw, 0, none⟩ (.pointer (some ⟨g, 0, none⟩)))) (by rfl) rfl ?_ ?_
    · first | (go_simp; done) | (go_simp; rfl)
    clear hc1 hf1
    have HW6 := Aside0.mk (blk_put HW5.out 0 (.pointer (some ⟨g, 0, none⟩)) rfl)
    have HC6 : Aside0 (Chg (· = gw) w (w5.setCell ⟨gw, 0, none⟩ (.pointer (some ⟨g, 0, none⟩)))) := ⟨Chg.setCell (F := (· = gw)) (Chg.of_below HB5.out) (p := ⟨gw, 0, none⟩) (Or.inl rfl) _⟩
    have H6 : Aside0 (HAt (w5.setCell ⟨gw, 0, none⟩ (.pointer (some ⟨g, 0, none⟩))) w.heap.size g (.func (.func f) #[] #[]) none 0 b [] 0) := ⟨H5.out.below0 (fun i hi => Below.heap_setCell w5 _ _ _ (fun e => by have e' : i = gw := e; have := H5.out.fp_ge i hi; have := HGW.out; omega))⟩
    have hsz : (w5.setCell ⟨gw, 0, none⟩ (.pointer (some ⟨g, 0, none⟩))).heap.size = w5.heap.size := Go.Deep.nblk_setCell _ _ _
    have HGL : Aside0 (g < (w5.setCell ⟨gw, 0, none⟩ (.pointer (some ⟨g, 0, none⟩))).heap.size) := ⟨blk_lt H6.out.blk⟩
    clear HW5 HB5 H5 hsz
    generalize (w5.setCell ⟨gw, 0, none⟩ (.pointer (some ⟨g, 0, none⟩))) = w6 at HW6 HC6 H6 HGL ⊢
    refine hK.out _ _ ?_
    clear hK K
    refine done_ (done_of HT_.out (by kernel_rfl)) ?_
    try clear hHeld
    have HR7 := Aside0.mk (blk_new w6 (.cells #[.int .i64 pk, .slice none 0 0] 39))
    have HW7 := Aside0.mk (blk_alloc HW6.out (.cells #[.int .i64 pk, .slice none 0 0] 39))
    have hb7 := below_alloc (Below.refl w6.heap.size w6) (.cells #[.int .i64 pk, .slice none 0 0] 39)
    have H7 := Aside0.mk (H6.out.below hb7)
    have HC7 := Aside0.mk (HC6.out.trans (Chg.of_below hb7))
    have hcz : (w6.alloc (.cells #[.int .i64 pk, .slice none 0 0] 39)).cell? ⟨gw, 2, none⟩ = some p2 := (blk_cell HW7.out 2).trans rfl
    have hfz := blk_frozen HW7.out 2
    have hck : ((w6.alloc (.cells #[.int .i64 pk, .slice none 0 0] 39)).setCell ⟨gw, 2, none⟩ (.pointer (some ⟨w6.heap.size, 0, none⟩))).cell? ⟨gw, 0, none⟩ = some (.pointer (some ⟨g, 0, none⟩)) := (blk_cell (blk_put HW7.out 2 (.pointer (some ⟨w6.heap.size, 0, none⟩)) rfl) 0).trans rfl
    have HGS : Aside0 (gw < w6.heap.size) := ⟨blk_lt HW6.out⟩
    clear hb7
    go_wp2
    go_ret
    have hfin : ∀ i, i ≠ gw → ((w6.alloc (.cells #[.int .i64 pk, .slice none 0 0] 39)).setCell ⟨gw, 2, none⟩ (.pointer (some ⟨w6.heap.size, 0, none⟩))).heap[i]? = (w6.alloc (.cells #[.int .i64 pk, .slice none 0 0] 39)).heap[i]? := fun i hi => Below.heap_setCell _ _ _ _ (fun e => hi e)
    refine ⟨by first | rfl | simp, g, w6.heap.size, pk, _, blk_put HW7.out 2 (.pointer (some ⟨w6.heap.size, 0, none⟩)) rfl, slot_new (H7.out.below0 (fun i hi => hfin i (fun e => by have := H7.out.fp_ge i hi; have := HGW.out; omega))) (b := b) (fv := (.func (.func f) #[] #[])) ⟨(hfin _ (fun e => by have := HGS.out; omega)).trans (by first | exact HR7.out | (rw [HORD.out]; exact HR7.out)), Kd.R_nil _ _ _ _ _, HC6.out.size⟩ HRU.out, ?_, HC7.out.setCell (Or.inl rfl) _⟩
    rintro i (q | q | q)
    · rw [q]; exact H7.out.ge.1
    · rw [q]; exact H7.out.ge.2
    · rw [q]; exact HC6.out.size
set_option maxHeartbeats 8000000 in
set_option maxRecDepth 100000 in
theorem anew1 (gw : Nat) (p0 p1 p2 p3 : Value) (order : Int) (w : World) (h : w.heap[gw]? = some (.cells #[p0, p1, p2, p3] 29 (0, 0))) :
    Calls Try.prog 8 #[.pointer (some ⟨gw, 0, none⟩), .int .i64 1, .int .i64 order] w fun e w' => e = .returned (.bool true) ∧ ∃ gH gR ord F', w'.heap[gw]? = some (.cells #[p0, (.pointer (some ⟨gH, 0, none⟩)), p2, (.pointer (some ⟨gR, 0, none⟩))] 29 (0, 0)) ∧ Slot w' w.heap.size gH gR ord [] 0 (([] : List It).map pairOf) F' ∧ (∀ i, F' i → w.heap.size ≤ i) ∧ Chg (· = gw) w w' := by
  have H := Aside0.mk h
  have HGW : Aside0 (gw < w.heap.size) := ⟨blk_lt h⟩
  have hnn : ∀ (g : Nat) (W : World), (binOp .neq 24 (.pointer (some ⟨g, 0, none⟩)) (.pointer none)).run Try.prog W = .ok (.bool true) W := fun g W => by first | rfl | (simp [binOp]; done) | kernel_rfl
  clear h
  go_enter Try.func8, Try.ntmps8
  by_cases ho : order = -1
  · subst ho
    go_wp2_with fail
    obtain ⟨w0, hw0⟩ : ∃ w0, w0 = w := ⟨_, rfl⟩
    have HB0 : Aside0 (Below w.heap.size w w0) := ⟨by rw [hw0]; exact Below.refl _ _⟩
    rw [← hw0]
    clear hw0
    obtain ⟨ord, hord⟩ : ∃ ord : Int, ord = -1 := ⟨_, rfl⟩
    have HRU : Aside0 (Rules .nilFunc ord []) := ⟨Or.inl ⟨hord, rfl, rfl⟩⟩
    have HORD := Aside0.mk hord
    clear hord
    have HB4 : Aside0 (Below w.heap.size w w0.drew) := ⟨below_drew HB0.out⟩
    clear HB0
    refine start_ (n := 8) (S := fun w' => True) (ds := [7]) #[false, false, false, false, false, false, false, false] (by kernel_rfl) rfl rfl trivial (fun hHeld => ?_)
    refine with_tabW anew.tab6 anew.bits6 (fun HT_ HW_ => ?_)
    generalize w0.drew = w4 at HB4 hHeld ⊢
    refine pure_ (i := 0) (N := some 15) (v := ?_) (a' := ?_) #[true, false, false, false, false, false, false, false] rfl rfl (any_of HT_.out (by kernel_rfl)) (fun _ _ _ h => h) (Or.inl ⟨by rfl, ?_⟩) ?_ ?_
    rotate_left
    · intro w'
      go_simp
      with_reducible rfl
    rotate_left
    · simp only [Act.put, List.setIfInBounds_toArray, List.set_cons_zero, List.set_cons_succ, i64_w, i32_w]
      rfl
    refine pure_ (i := 1) (N := some 16) (v := ?_) (a' := ?_) #[true, true, false, false, false, false, false, false] rfl rfl (any_of HT_.out (by kernel_rfl)) (fun _ _ _ h => h) (Or.inl ⟨by rfl, ?_⟩) ?_ ?_
    rotate_left
    · intro w'
      go_simp
      with_reducible rfl
    rotate_left
    · simp only [Act.put, List.setIfInBounds_toArray, List.set_cons_zero, List.set_cons_succ, i64_w, i32_w]
      rfl
    refine pure_ (i := 2) (N := some 17) (v := ?_) (a' := ?_) #[true, true, true, false, false, false, false, false] rfl rfl (any_of HT_.out (by kernel_rfl)) (fun _ _ _ h => h) (Or.inl ⟨by rfl, ?_⟩) ?_ ?_
    rotate_left
    · intro w'
      go_simp
      with_reducible rfl
    rotate_left
    · simp only [Act.put, List.setIfInBounds_toArray, List.set_cons_zero, List.set_cons_succ, i64_w, i32_w]
      rfl
    refine pure_ (i := 4) (N := some 19) (v := ?_) (a' := ?_) #[true, true, true, false, true, false, false, false] rfl rfl (any_of HT_.out (by kernel_rfl)) (fun _ _ _ h => h) (Or.inl ⟨by rfl, ?_⟩) ?_ ?_
    rotate_left
    · intro w'
      go_simp
      with_reducible rfl
    rotate_left
    · simp only [Act.put, List.setIfInBounds_toArray, List.set_cons_zero, List.set_cons_succ, i64_w, i32_w]
      rfl
    refine pure_ (i := 5) (N := some 20) (v := ?_) (a' := ?_) #[true, true, true, false, true, true, false, false] rfl rfl (any_of HT_.out (by kernel_rfl)) (fun _ _ _ h => h) (Or.inl ⟨by rfl, ?_⟩) ?_ ?_
    rotate_left
    · intro w'
      go_simp
      with_reducible rfl
    rotate_left
    · simp only [Act.put, List.setIfInBounds_toArray, List.set_cons_zero, List.set_cons_succ, i64_w, i32_w]
      rfl
    refine one_ (i := 3) (N := some 18) #[true, true, true, true, true, true, false, false] rfl rfl (one_of HT_.out (by kernel_rfl)) (by decide) (fun K hK => ?_)
    refine goes_ Try.func29 (by kernel_rfl) rfl #[.nilFunc] (by rfl) rfl rfl (by simp only [List.map_toArray, List.map_cons, List.map_nil]; rfl) ?_
    with_reducible refine (new_nilf w4).mono ?_
    rintro e w5 ⟨g, b, rfl, h, hb⟩
    refine ⟨_, rfl, ?_⟩
    have HB5 := Aside0.mk (below_step HB4.out hb)
    have H5 := Aside0.mk (h.lower HB4.out.size)
    have HW5 := Aside0.mk ((HB5.out.block gw HGW.out).trans H.out)
    clear h hb HB4
    refine hK.out _ _ trivial (fun hHeld => ?_)
    clear hK K
    refine norm_ (a' := ?_) ?_ ?_
    rotate_left
    · show Act.put _ (some 18) _ = _
      simp only [Act.put, List.setIfInBounds_toArray, List.set_cons_zero, List.set_cons_succ, i64_w, i32_w]
      rfl
    refine pure_ (i := 6) (N := some 21) (v := ?_) (a' := ?_) #[true, true, true, true, true, true, true, false] rfl rfl (any_of HT_.out (by kernel_rfl)) (fun _ _ _ h => h) (Or.inl ⟨by rfl, ?_⟩) ?_ ?_
    rotate_left
    · intro w'
      go_simp
      with_reducible rfl
    rotate_left
    · simp only [Act.put, List.setIfInBounds_toArray, List.set_cons_zero, List.set_cons_succ, i64_w, i32_w]
      rfl
    refine last_ (i := 7) (N := none) #[true, true, true, true, true, true, true, true] rfl rfl (one_of HT_.out (by kernel_rfl)) (by decide) (fun K hK => ?_)
    have hc1 : w5.cell? ⟨gw, 1, none⟩ = some p1 := (blk_cell HW5.out 1).trans rfl
    have hf1 := blk_frozen HW5.out 1
    refine skip_ (w1 := (w5.setCell ⟨gw, 1, none⟩ (.pointer (some ⟨g, 0, none⟩)))) (by rfl) rfl ?_ ?_
    · first | (go_simp; done) | (go_simp; rfl)
    clear hc1 hf1
    have HW6 := Aside0.mk (blk_put HW5.out 1 (.pointer (some ⟨g, 0, none⟩)) rfl)
    have HC6 : Aside0 (Chg (· = gw) w (w5.setCell ⟨gw, 1, none⟩ (.pointer (some ⟨g, 0, none⟩)))) := ⟨Chg.setCell (F := (· = gw)) (Chg.of_below HB5.out) (p := ⟨gw, 1, none⟩) (Or.inl rfl) _⟩
    have H6 : Aside0 (HAt (w5.setCell ⟨gw, 1, none⟩ (.pointer (some ⟨g, 0, none⟩))) w.heap.size g .nilFunc none 0 b [] 0) := ⟨H5.out.below0 (fun i hi => Below.heap_setCell w5 _ _ _ (fun e => by have e' : i = gw := e; have := H5.out.fp_ge i hi; have := HGW.out; omega))⟩
    have hsz : (w5.setCell ⟨gw, 1, none⟩ (.pointer (some ⟨g, 0, none⟩))).heap.size = w5.heap.size := Go.Deep.nblk_setCell _ _ _
    have HGL : Aside0 (g < (w5.setCell ⟨gw, 1, none⟩ (.pointer (some ⟨g, 0, none⟩))).heap.size) := ⟨blk_lt H6.out.blk⟩
    clear HW5 HB5 H5 hsz
    generalize (w5.setCell ⟨gw, 1, none⟩ (.pointer (some ⟨g, 0, none⟩))) = w6 at HW6 HC6 H6 HGL ⊢
    refine hK.out _ _ ?_
    clear hK K
    refine done_ (done_of HT_.out (by kernel_rfl)) ?_
    try clear hHeld
    have HR7 := Aside0.mk (blk_new w6 (.cells #[.int .i64 (-1), .slice none 0 0] 39))
    have HW7 := Aside0.mk (blk_alloc HW6.out (.cells #[.int .i64 (-1), .slice none 0 0] 39))
    have hb7 := below_alloc (Below.refl w6.heap.size w6) (.cells #[.int .i64 (-1), .slice none 0 0] 39)
    have H7 := Aside0.mk (H6.out.below hb7)
    have HC7 := Aside0.mk (HC6.out.trans (Chg.of_below hb7))
    have hcz : (w6.alloc (.cells #[.int .i64 (-1), .slice none 0 0] 39)).cell? ⟨gw, 3, none⟩ = some p3 := (blk_cell HW7.out 3).trans rfl
    have hfz := blk_frozen HW7.out 3
    have hck : ((w6.alloc (.cells #[.int .i64 (-1), .slice none 0 0] 39)).setCell ⟨gw, 3, none⟩ (.pointer (some ⟨w6.heap.size, 0, none⟩))).cell? ⟨gw, 1, none⟩ = some (.pointer (some ⟨g, 0, none⟩)) := (blk_cell (blk_put HW7.out 3 (.pointer (some ⟨w6.heap.size, 0, none⟩)) rfl) 1).trans rfl
    have HGS : Aside0 (gw < w6.heap.size) := ⟨blk_lt HW6.out⟩
    clear hb7
    go_wp2
    go_ret
    have hfin : ∀ i, i ≠ gw → ((w6.alloc (.cells #[.int .i64 (-1), .slice none 0 0] 39)).setCell ⟨gw, 3, none⟩ (.pointer (some ⟨w6.heap.size, 0, none⟩))).heap[i]? = (w6.alloc (.cells #[.int .i64 (-1), .slice none 0 0] 39)).heap[i]? := fun i hi => Below.heap_setCell _ _ _ _ (fun e => hi e)
    refine ⟨by first | rfl | simp, g, w6.heap.size, ord, _, blk_put HW7.out 3 (.pointer (some ⟨w6.heap.size, 0, none⟩)) rfl, slot_new (H7.out.below0 (fun i hi => hfin i (fun e => by have := H7.out.fp_ge i hi; have := HGW.out; omega))) (b := b) (fv := .nilFunc) ⟨(hfin _ (fun e => by have := HGS.out; omega)).trans (by first | exact HR7.out | (rw [HORD.out]; exact HR7.out)), Kd.R_nil _ _ _ _ _, HC6.out.size⟩ HRU.out, ?_, HC7.out.setCell (Or.inl rfl) _⟩
    rintro i (q | q | q)
    · rw [q]; exact H7.out.ge.1
    · rw [q]; exact H7.out.ge.2
    · rw [q]; exact HC6.out.size
  · have hno : (order != -1) = true := bne_iff_ne.mpr ho
    clear ho
    obtain ⟨pk, hpk, hp0, hp5⟩ := HeapII.pick_ok order 5 (by decide) (by decide)
    have HPK := Aside0.mk hpk
    have HPR := Aside0.mk (And.intro hp0 hp5)
    clear hpk hp0 hp5
    go_wp2_with fail
    refine (cabstandlaw07_pick.calls order 5 pk _ HPK.out).mono ?_
    rintro e w1 ⟨rfl, nq, rfl⟩
    have HB1 : Aside0 (Below w.heap.size w (w.drewN nq)) := ⟨pw_below_drewN (Below.refl _ _) nq⟩
    generalize w.drewN nq = w1 at HB1 ⊢
    go_wp2_with fail
    refine (HeapII.order_calls pk _).mono ?_
    rintro e w0 ⟨f, kk, rfl, hkf, hless, hb⟩
    have HB0 := Aside0.mk (below_step HB1.out hb)
    have hkk : kk = pk := pick_small HPR.out hkf
    rw [hkk] at hless
    have HRU : Aside0 (Rules (.func (.func f) #[] #[]) pk []) := ⟨Or.inr ⟨by have := HPR.out; omega, f, rfl, less_of hless, fun j h1 h2 => absurd h2 (Nat.not_lt_zero _)⟩⟩
    clear hb hkf hless hkk HB1
    go_wp2_with fail
    have HB4 : Aside0 (Below w.heap.size w w0.drew) := ⟨below_drew HB0.out⟩
    clear HB0
    refine start_ (n := 8) (S := fun w' => True) (ds := [7]) #[false, false, false, false, false, false, false, false] (by kernel_rfl) rfl rfl trivial (fun hHeld => ?_)
    refine with_tabW anew.tab6 anew.bits6 (fun HT_ HW_ => ?_)
    generalize w0.drew = w4 at HB4 hHeld ⊢
    refine pure_ (i := 0) (N := some 15) (v := ?_) (a' := ?_) #[true, false, false, false, false, false, false, false] rfl rfl (any_of HT_.out (by kernel_rfl)) (fun _ _ _ h => h) (Or.inl ⟨by rfl, ?_⟩) ?_ ?_
    rotate_left
    · intro w'
      go_simp
      with_reducible rfl
    rotate_left
    · simp only [Act.put, List.setIfInBounds_toArray, List.set_cons_zero, List.set_cons_succ, i64_w, i32_w]
      rfl
    refine pure_ (i := 1) (N := some 16) (v := ?_) (a' := ?_) #[true, true, false, false, false, false, false, false] rfl rfl (any_of HT_.out (by kernel_rfl)) (fun _ _ _ h => h) (Or.inl ⟨by rfl, ?_⟩) ?_ ?_
    rotate_left
    · intro w'
      go_simp
      with_reducible rfl
    rotate_left
    · simp only [Act.put, List.setIfInBounds_toArray, List.set_cons_zero, List.set_cons_succ, i64_w, i32_w]
      rfl
    refine pure_ (i := 2) (N := some 17) (v := ?_) (a' := ?_) #[true, true, true, false, false, false, false, false] rfl rfl (any_of HT_.out (by kernel_rfl)) (fun _ _ _ h => h) (Or.inl ⟨by rfl, ?_⟩) ?_ ?_
    rotate_left
    · intro w'
      go_simp
      with_reducible rfl
    rotate_left
    · simp only [Act.put, List.setIfInBounds_toArray, List.set_cons_zero, List.set_cons_succ, i64_w, i32_w]
      rfl
    refine pure_ (i := 4) (N := some 19) (v := ?_) (a' := ?_) #[true, true, true, false, true, false, false, false] rfl rfl (any_of HT_.out (by kernel_rfl)) (fun _ _ _ h => h) (Or.inl ⟨by rfl, ?_⟩) ?_ ?_
    rotate_left
    · intro w'
      go_simp
      with_reducible rfl
    rotate_left
    · simp only [Act.put, List.setIfInBounds_toArray, List.set_cons_zero, List.set_cons_succ, i64_w, i32_w]
      rfl
    refine pure_ (i := 5) (N := some 20) (v := ?_) (a' := ?_) #[true, true, true, false, true, true, false, false] rfl rfl (any_of HT_.out (by kernel_rfl)) (fun _ _ _ h => h) (Or.inl ⟨by rfl, ?_⟩) ?_ ?_
    rotate_left
    · intro w'
      go_simp
      with_reducible rfl
    rotate_left
    · simp only [Act.put, List.setIfInBounds_toArray, List.set_cons_zero, List.set_cons_succ, i64_w, i32_w]
      rfl
    refine one_ (i := 3) (N := some 18) #[true, true, true, true, true, true, false, false] rfl rfl (one_of HT_.out (by kernel_rfl)) (by decide) (fun K hK => ?_)
    refine goes_ Try.func29 (by kernel_rfl) rfl #[(.func (.func f) #[] #[])] (by rfl) rfl rfl (by simp only [List.map_toArray, List.map_cons, List.map_nil]; rfl) ?_
    with_reducible refine (new_calls f w4).mono ?_
    rintro e w5 ⟨g, b, rfl, h, hb⟩
    refine ⟨_, rfl, ?_⟩
    have HB5 := Aside0.mk (below_step HB4.out hb)
    have H5 := Aside0.mk (h.lower HB4.out.size)
    have HW5 := Aside0.mk ((HB5.out.block gw HGW.out).trans H.out)
    clear h hb HB4
    refine hK.out _ _ trivial (fun hHeld => ?_)
    clear hK K
    refine norm_ (a' := ?_) ?_ ?_
    rotate_left
    · show Act.put _ (some 18) _ = _
      simp only [Act.put, List.setIfInBounds_toArray, List.set_cons_zero, List.set_cons_succ, i64_w, i32_w]
      rfl
    refine pure_ (i := 6) (N := some 21) (v := ?_) (a' := ?_) #[true, true, true, true, true, true, true, false] rfl rfl (any_of HT_.out (by kernel_rfl)) (fun _ _ _ h => h) (Or.inl ⟨by rfl, ?_⟩) ?_ ?_
    rotate_left
    · intro w'
      go_simp
      with_reducible rfl
    rotate_left
    · simp only [Act.put, List.setIfInBounds_toArray, List.set_cons_zero, List.set_cons_succ, i64_w, i32_w]
      rfl
    refine last_ (i := 7) (N := none) #[true, true, true, true, true, true, true, true] rfl rfl (one_of HT_.out (by kernel_rfl)) (by decide) (fun K hK => ?_)
    have hc1 : w5.cell? ⟨gw, 1, none⟩ = some p1 := (blk_cell HW5.out 1).trans rfl
    have hf1 := blk_frozen HW5.out 1
    refine skip_ (w1 := (w5.setCell ⟨gw, 1, none⟩ (.pointer (some ⟨g, 0, none⟩)))) (by rfl) rfl ?_ ?_
    · first | (go_simp; done) | (go_simp; rfl)
    clear hc1 hf1
    have HW6 := Aside0.mk (blk_put HW5.out 1 (.pointer (some ⟨g, 0, none⟩)) rfl)
    have HC6 : Aside0 (Chg (· = gw) w (w5.setCell ⟨gw, 1, none⟩ (.pointer (some ⟨g, 0, none⟩)))) := ⟨Chg.setCell (F := (· = gw)) (Chg.of_below HB5.out) (p := ⟨gw, 1, none⟩) (Or.inl rfl) _⟩
    have H6 : Aside0 (HAt (w5.setCell ⟨gw, 1, none⟩ (.pointer (some ⟨g, 0, none⟩))) w.heap.size g (.func (.func f) #[] #[]) none 0 b [] 0) := ⟨H5.out.below0 (fun i hi => Below.heap_setCell w5 _ _ _ (fun e => by have e' : i = gw := e; have := H5.out.fp_ge i hi; have := HGW.out; omega))⟩
    have hsz : (w5.setCell ⟨gw, 1, none⟩ (.pointer (some ⟨g, 0, none⟩))).heap.size = w5.heap.size := Go.Deep.nblk_setCell _ _ _
    have HGL : Aside0 (g < (w5.setCell ⟨gw, 1, none⟩ (.pointer (some ⟨g, 0, none⟩))).heap.size) := ⟨blk_lt H6.out.blk⟩
    clear HW5 HB5 H5 hsz
    generalize (w5.setCell ⟨gw, 1, none⟩ (.pointer (some ⟨g, 0, none⟩))) = w6 at HW6 HC6 H6 HGL ⊢
    refine hK.out _ _ ?_
    clear hK K
    refine done_ (done_of HT_.out (by kernel_rfl)) ?_
    try clear hHeld
    have HR7 := Aside0.mk (blk_new w6 (.cells #[.int .i64 pk, .slice none 0 0] 39))
    have HW7 := Aside0.mk (blk_alloc HW6.out (.cells #[.int .i64 pk, .slice none 0 0] 39))
    have hb7 := below_alloc (Below.refl w6.heap.size w6) (.cells #[.int .i64 pk, .slice none 0 0] 39)
    have H7 := Aside0.mk (H6.out.below hb7)
    have HC7 := Aside0.mk (HC6.out.trans (Chg.of_below hb7))
    have hcz : (w6.alloc (.cells #[.int .i64 pk, .slice none 0 0] 39)).cell? ⟨gw, 3, none⟩ = some p3 := (blk_cell HW7.out 3).trans rfl
    have hfz := blk_frozen HW7.out 3
    have hck : ((w6.alloc (.cells #[.int .i64 pk, .slice none 0 0] 39)).setCell ⟨gw, 3, none⟩ (.pointer (some ⟨w6.heap.size, 0, none⟩))).cell? ⟨gw, 1, none⟩ = some (.pointer (some ⟨g, 0, none⟩)) := (blk_cell (blk_put HW7.out 3 (.pointer (some ⟨w6.heap.size, 0, none⟩)) rfl) 1).trans rfl
    have HGS : Aside0 (gw < w6.heap.size) := ⟨blk_lt HW6.out⟩
    clear hb7
    go_wp2
    go_ret
    have hfin : ∀ i, i ≠ gw → ((w6.alloc (.cells #[.int .i64 pk, .slice none 0 0] 39)).setCell ⟨gw, 3, none⟩ (.pointer (some ⟨w6.heap.size, 0, none⟩))).heap[i]? = (w6.alloc (.cells #[.int .i64 pk, .slice none 0 0] 39)).heap[i]? := fun i hi => Below.heap_setCell _ _ _ _ (fun e => hi e)
    refine ⟨by first | rfl | simp, g, w6.heap.size, pk, _, blk_put HW7.out 3 (.pointer (some ⟨w6.heap.size, 0, none⟩)) rfl, slot_new (H7.out.below0 (fun i hi => hfin i (fun e => by have := H7.out.fp_ge i hi; have := HGW.out; omega))) (b := b) (fv := (.func (.func f) #[] #[])) ⟨(hfin _ (fun e => by have := HGS.out; omega)).trans (by first | exact HR7.out | (rw [HORD.out]; exact HR7.out)), Kd.R_nil _ _ _ _ _, HC6.out.size⟩ HRU.out, ?_, HC7.out.setCell (Or.inl rfl) _⟩
    rintro i (q | q | q)
    · rw [q]; exact H7.out.ge.1
    · rw [q]; exact H7.out.ge.2
    · rw [q]; exact HC6.out.size
end Go.Proofs.Ytibipbfmhbkpiaa.HeapDI
/- One order of the script: a new heap, no order. Conditions: those that stand in each theorem. Written by wip/gen/heapdo.py. -/
namespace Go.Proofs.Ytibipbfmhbkpiaa.HeapDI
open Go.RowKit Go.Proofs.YtibipbfmhbkpiaaW.PrintWords Go.Proofs.YtibipbfmhbkpiaaW.PrintLast Go.Proofs.YtibipbfmhbkpiaaW.PrintMore Go.Proofs.Ytibipbfmhbkpiaa.HeapW Go.Proofs.Ytibipbfmhbkpiaa.HeapP Go.Proofs.Ytibipbfmhbkpiaa.MapAt Go.Proofs.Ytibipbfmhbkpiaa.Q
set_option linter.unusedVariables false
set_option linter.unusedSimpArgs false
theorem RefAt.lower {w : World} {base base' g : Nat} {ord : Int} {A : Option Addr} {cap : Nat} {l : List Rt} (h : RefAt w base g ord A cap l) (hb : base' ≤ base) : RefAt w base' g ord A cap l :=
  ⟨h.blk, Kd.R_lower h.row hb, Nat.le_trans hb h.ge⟩
theorem Slot.lower {w : World} {base base' gH gR : Nat} {ord : Int} {M : List It} {c : Nat} {L : List Rt} {F : Nat → Prop} (h : Slot w base gH gR ord M c L F) (hb : base' ≤ base) : Slot w base' gH gR ord M c L F := by
  obtain ⟨fv, A, cap, b, hl, RA, rcap, h1, h2, h3, h4, h5, h6⟩ := h.ex
  exact ⟨fv, A, cap, b, hl, RA, rcap, h1.lower hb, h2, h3, h4.lower hb, h5, h6⟩
set_option maxHeartbeats 8000000 in
set_option maxRecDepth 100000 in
theorem does_new0 (gw : Nat) (p0 p1 p2 p3 : Value) (on rank : Int) (key : Kt) (w : World) (h : w.heap[gw]? = some (.cells #[p0, p1, p2, p3] 29 (0, 0))) (hon : bits BinOp.and IntKind.i64 on 1 = 0) :
    Calls Try.prog 9 #[.pointer (some ⟨gw, 0, none⟩), .agg #[.int .i64 4, .int .i64 on, .int .i64 rank, .int .u8 key.1, .int .u8 key.2.1, .int .u8 key.2.2.1, .int .u8 key.2.2.2.1, .int .u8 key.2.2.2.2.1, .int .u8 key.2.2.2.2.2.1, .int .u8 key.2.2.2.2.2.2.1, .int .u8 key.2.2.2.2.2.2.2]] w fun e w' => e = .returned (.bool true) ∧ ∃ gH gR ord F', w'.heap[gw]? = some (.cells #[(.pointer (some ⟨gH, 0, none⟩)), p1, (.pointer (some ⟨gR, 0, none⟩)), p3] 29 (0, 0)) ∧ Slot w' w.heap.size gH gR ord [] 0 (([] : List It).map pairOf) F' ∧ (∀ i, F' i → w.heap.size ≤ i) ∧ Chg (· = gw) w w' := by
  have H := Aside0.mk h
  have HGW : Aside0 (gw < w.heap.size) := ⟨blk_lt h⟩
  clear h
  go_enter Try.func9, Try.ntmps9
  go_upto_region 1 with (fail)
  have HOX : Aside0 ((w.alloc (.cells #[.int .i64 4, .int .i64 on, .int .i64 rank, .int .u8 key.1, .int .u8 key.2.1, .int .u8 key.2.2.1, .int .u8 key.2.2.2.1, .int .u8 key.2.2.2.2.1, .int .u8 key.2.2.2.2.2.1, .int .u8 key.2.2.2.2.2.2.1, .int .u8 key.2.2.2.2.2.2.2] 35)).heap[w.heap.size]? = some (.cells #[.int .i64 4, .int .i64 on, .int .i64 rank, .int .u8 key.1, .int .u8 key.2.1, .int .u8 key.2.2.1, .int .u8 key.2.2.2.1, .int .u8 key.2.2.2.2.1, .int .u8 key.2.2.2.2.2.1, .int .u8 key.2.2.2.2.2.2.1, .int .u8 key.2.2.2.2.2.2.2] 35)) := ⟨blk_new _ _⟩
  have HBB : Aside0 (Below w.heap.size w (w.alloc (.cells #[.int .i64 4, .int .i64 on, .int .i64 rank, .int .u8 key.1, .int .u8 key.2.1, .int .u8 key.2.2.1, .int .u8 key.2.2.2.1, .int .u8 key.2.2.2.2.1, .int .u8 key.2.2.2.2.2.1, .int .u8 key.2.2.2.2.2.2.1, .int .u8 key.2.2.2.2.2.2.2] 35))) := ⟨below_alloc (Below.refl _ _) _⟩
  generalize w.alloc (.cells #[.int .i64 4, .int .i64 on, .int .i64 rank, .int .u8 key.1, .int .u8 key.2.1, .int .u8 key.2.2.1, .int .u8 key.2.2.2.1, .int .u8 key.2.2.2.2.1, .int .u8 key.2.2.2.2.2.1, .int .u8 key.2.2.2.2.2.2.1, .int .u8 key.2.2.2.2.2.2.2] 35) = wB at HOX HBB ⊢
  have hcO0 : wB.cell? ⟨w.heap.size, 0, none⟩ = some (.int .i64 4) := (blk_cell HOX.out 0).trans rfl
  have hcO1 : wB.cell? ⟨w.heap.size, 1, none⟩ = some (.int .i64 on) := (blk_cell HOX.out 1).trans rfl
  have hcO2 : wB.cell? ⟨w.heap.size, 2, none⟩ = some (.int .i64 rank) := (blk_cell HOX.out 2).trans rfl
  go_wp2_with fail
  refine (anew0 gw p0 p1 p2 p3 rank wB ((HBB.out.block _ HGW.out).trans H.out)).mono ?_
  rintro e w5 ⟨rfl, gH, gR, ord, F', q1, q2, q3, q4⟩
  have HQ := Aside0.mk (And.intro q1 (And.intro q2 (And.intro q3 q4)))
  clear q1 q2 q3 q4
  go_wp2
  go_ret
  exact ⟨rfl, gH, gR, ord, F', HQ.out.1, HQ.out.2.1.lower HBB.out.size, fun i hi => Nat.le_trans HBB.out.size (HQ.out.2.2.1 i hi), (Chg.of_below HBB.out).trans HQ.out.2.2.2⟩
set_option maxHeartbeats 8000000 in
set_option maxRecDepth 100000 in
theorem does_else (gw : Nat) (on rank : Int) (key : Kt) (w : World) (kind : Int) (h1 : (kind == 1) = false) (h2 : (kind == 2) = false) (h3 : (kind == 3) = false) (h4 : (kind == 4) = false) :
    Calls Try.prog 9 #[.pointer (some ⟨gw, 0, none⟩), .agg #[.int .i64 kind, .int .i64 on, .int .i64 rank, .int .u8 key.1, .int .u8 key.2.1, .int .u8 key.2.2.1, .int .u8 key.2.2.2.1, .int .u8 key.2.2.2.2.1, .int .u8 key.2.2.2.2.2.1, .int .u8 key.2.2.2.2.2.2.1, .int .u8 key.2.2.2.2.2.2.2]] w fun e w' => e = .returned (.bool true) ∧ Below w.heap.size w w' := by
  go_enter Try.func9, Try.ntmps9
  go_upto_region 1 with (fail)
  have HOX : Aside0 ((w.alloc (.cells #[.int .i64 kind, .int .i64 on, .int .i64 rank, .int .u8 key.1, .int .u8 key.2.1, .int .u8 key.2.2.1, .int .u8 key.2.2.2.1, .int .u8 key.2.2.2.2.1, .int .u8 key.2.2.2.2.2.1, .int .u8 key.2.2.2.2.2.2.1, .int .u8 key.2.2.2.2.2.2.2] 35)).heap[w.heap.size]? = some (.cells #[.int .i64 kind, .int .i64 on, .int .i64 rank, .int .u8 key.1, .int .u8 key.2.1, .int .u8 key.2.2.1, .int .u8 key.2.2.2.1, .int .u8 key.2.2.2.2.1, .int .u8 key.2.2.2.2.2.1, .int .u8 key.2.2.2.2.2.2.1, .int .u8 key.2.2.2.2.2.2.2] 35)) := ⟨blk_new _ _⟩
  have HBB : Aside0 (Below w.heap.size w (w.alloc (.cells #[.int .i64 kind, .int .i64 on, .int .i64 rank, .int .u8 key.1, .int .u8 key.2.1, .int .u8 key.2.2.1, .int .u8 key.2.2.2.1, .int .u8 key.2.2.2.2.1, .int .u8 key.2.2.2.2.2.1, .int .u8 key.2.2.2.2.2.2.1, .int .u8 key.2.2.2.2.2.2.2] 35))) := ⟨below_alloc (Below.refl _ _) _⟩
  generalize w.alloc (.cells #[.int .i64 kind, .int .i64 on, .int .i64 rank, .int .u8 key.1, .int .u8 key.2.1, .int .u8 key.2.2.1, .int .u8 key.2.2.2.1, .int .u8 key.2.2.2.2.1, .int .u8 key.2.2.2.2.2.1, .int .u8 key.2.2.2.2.2.2.1, .int .u8 key.2.2.2.2.2.2.2] 35) = wB at HOX HBB ⊢
  have hcO0 : wB.cell? ⟨w.heap.size, 0, none⟩ = some (.int .i64 kind) := (blk_cell HOX.out 0).trans rfl
  have hcO1 : wB.cell? ⟨w.heap.size, 1, none⟩ = some (.int .i64 on) := (blk_cell HOX.out 1).trans rfl
  have hcO2 : wB.cell? ⟨w.heap.size, 2, none⟩ = some (.int .i64 rank) := (blk_cell HOX.out 2).trans rfl
  go_wp2
  go_ret
  exact ⟨rfl, HBB.out⟩
set_option maxHeartbeats 8000000 in
set_option maxRecDepth 100000 in
theorem does_new1 (gw : Nat) (p0 p1 p2 p3 : Value) (on rank : Int) (key : Kt) (w : World) (h : w.heap[gw]? = some (.cells #[p0, p1, p2, p3] 29 (0, 0))) (hon : bits BinOp.and IntKind.i64 on 1 = 1) :
    Calls Try.prog 9 #[.pointer (some ⟨gw, 0, none⟩), .agg #[.int .i64 4, .int .i64 on, .int .i64 rank, .int .u8 key.1, .int .u8 key.2.1, .int .u8 key.2.2.1, .int .u8 key.2.2.2.1, .int .u8 key.2.2.2.2.1, .int .u8 key.2.2.2.2.2.1, .int .u8 key.2.2.2.2.2.2.1, .int .u8 key.2.2.2.2.2.2.2]] w fun e w' => e = .returned (.bool true) ∧ ∃ gH gR ord F', w'.heap[gw]? = some (.cells #[p0, (.pointer (some ⟨gH, 0, none⟩)), p2, (.pointer (some ⟨gR, 0, none⟩))] 29 (0, 0)) ∧ Slot w' w.heap.size gH gR ord [] 0 (([] : List It).map pairOf) F' ∧ (∀ i, F' i → w.heap.size ≤ i) ∧ Chg (· = gw) w w' := by
  have H := Aside0.mk h
  have HGW : Aside0 (gw < w.heap.size) := ⟨blk_lt h⟩
  clear h
  go_enter Try.func9, Try.ntmps9
  go_upto_region 1 with (fail)
  have HOX : Aside0 ((w.alloc (.cells #[.int .i64 4, .int .i64 on, .int .i64 rank, .int .u8 key.1, .int .u8 key.2.1, .int .u8 key.2.2.1, .int .u8 key.2.2.2.1, .int .u8 key.2.2.2.2.1, .int .u8 key.2.2.2.2.2.1, .int .u8 key.2.2.2.2.2.2.1, .int .u8 key.2.2.2.2.2.2.2] 35)).heap[w.heap.size]? = some (.cells #[.int .i64 4, .int .i64 on, .int .i64 rank, .int .u8 key.1, .int .u8 key.2.1, .int .u8 key.2.2.1, .int .u8 key.2.2.2.1, .int .u8 key.2.2.2.2.1, .int .u8 key.2.2.2.2.2.1, .int .u8 key.2.2.2.2.2.2.1, .int .u8 key.2.2.2.2.2.2.2] 35)) := ⟨blk_new _ _⟩
  have HBB : Aside0 (Below w.heap.size w (w.alloc (.cells #[.int .i64 4, .int .i64 on, .int .i64 rank, .int .u8 key.1, .int .u8 key.2.1, .int .u8 key.2.2.1, .int .u8 key.2.2.2.1, .int .u8 key.2.2.2.2.1, .int .u8 key.2.2.2.2.2.1, .int .u8 key.2.2.2.2.2.2.1, .int .u8 key.2.2.2.2.2.2.2] 35))) := ⟨below_alloc (Below.refl _ _) _⟩
  generalize w.alloc (.cells #[.int .i64 4, .int .i64 on, .int .i64 rank, .int .u8 key.1, .int .u8 key.2.1, .int .u8 key.2.2.1, .int .u8 key.2.2.2.1, .int .u8 key.2.2.2.2.1, .int .u8 key.2.2.2.2.2.1, .int .u8 key.2.2.2.2.2.2.1, .int .u8 key.2.2.2.2.2.2.2] 35) = wB at HOX HBB ⊢
  have hcO0 : wB.cell? ⟨w.heap.size, 0, none⟩ = some (.int .i64 4) := (blk_cell HOX.out 0).trans rfl
  have hcO1 : wB.cell? ⟨w.heap.size, 1, none⟩ = some (.int .i64 on) := (blk_cell HOX.out 1).trans rfl
  have hcO2 : wB.cell? ⟨w.heap.size, 2, none⟩ = some (.int .i64 rank) := (blk_cell HOX.out 2).trans rfl
  go_wp2_with fail
  refine (anew1 gw p0 p1 p2 p3 rank wB ((HBB.out.block _ HGW.out).trans H.out)).mono ?_
  rintro e w5 ⟨rfl, gH, gR, ord, F', q1, q2, q3, q4⟩
  have HQ := Aside0.mk (And.intro q1 (And.intro q2 (And.intro q3 q4)))
  clear q1 q2 q3 q4
  go_wp2
  go_ret
  exact ⟨rfl, gH, gR, ord, F', HQ.out.1, HQ.out.2.1.lower HBB.out.size, fun i hi => Nat.le_trans HBB.out.size (HQ.out.2.2.1 i hi), (Chg.of_below HBB.out).trans HQ.out.2.2.2⟩
end Go.Proofs.Ytibipbfmhbkpiaa.HeapDI
