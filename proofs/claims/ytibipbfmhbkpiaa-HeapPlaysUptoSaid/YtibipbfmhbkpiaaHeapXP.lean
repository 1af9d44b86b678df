/- The orders of the script and what the two heaps show. Conditions: those that stand in each theorem. Written by wip/gen/heappw.py. -/
import Derived.Test.YtibipbfmhbkpiaaHeapXD
import Derived.Test.YtibipbfmhbkpiaaHeapXW
import Derived.Test.YtibipbfmhbkpiaaHeapXL
import Derived.Test.YtibipbfmhbkpiaaOpenArr
namespace Go.Proofs.Ytibipbfmhbkpiaa.HeapDI
open Go.RowKit Go.Proofs.YtibipbfmhbkpiaaW.PrintWords Go.Proofs.YtibipbfmhbkpiaaW.PrintLast Go.Proofs.YtibipbfmhbkpiaaW.PrintMore Go.Proofs.Ytibipbfmhbkpiaa.HeapW Go.Proofs.Ytibipbfmhbkpiaa.HeapP Go.Proofs.Ytibipbfmhbkpiaa.MapAt Go.Proofs.Ytibipbfmhbkpiaa.Q
set_option linter.unusedVariables false
set_option linter.unusedSimpArgs false
theorem set2_eq {α : Type} (f : Nat → α) (k : Nat) (x : α) : set2 f k x k = x := by unfold set2; rw [if_pos rfl]
theorem set2_ne {α : Type} (f : Nat → α) (k : Nat) (x : α) {j : Nat} (h : j ≠ k) : set2 f k x j = f j := by unfold set2; rw [if_neg h]
theorem WdAt.renew {w w' : World} {base gw : Nat} {d : Nat → Dt} {F : Nat → Nat → Prop} (h : WdAt w base gw d F) {k : Nat} (hk : k < 2) {gH gR : Nat} {ord : Int} {F' : Nat → Prop} (hs : Slot w' w.heap.size gH gR ord [] 0 (([] : List It).map pairOf) F') (hblk : w'.heap[gw]? = some (.cells #[.pointer (some ⟨((set2 d k ⟨gH, gR, ord, [], 0⟩) 0).gH, 0, none⟩), .pointer (some ⟨((set2 d k ⟨gH, gR, ord, [], 0⟩) 1).gH, 0, none⟩), .pointer (some ⟨((set2 d k ⟨gH, gR, ord, [], 0⟩) 0).gR, 0, none⟩), .pointer (some ⟨((set2 d k ⟨gH, gR, ord, [], 0⟩) 1).gR, 0, none⟩)] 29 (0, 0))) (hF : ∀ i, F' i → w.heap.size ≤ i) (hc : Chg (· = gw) w w') (hb : base ≤ w.heap.size) : WdAt w' base gw (set2 d k ⟨gH, gR, ord, [], 0⟩) (set2 F k F') := by
  have hgw := blk_lt h.blk
  refine ⟨hblk, fun j hj => ?_, fun j i hj hi hji x hx hy => ?_, fun j hj q => ?_, h.ge, fun j hj => ?_⟩
  · by_cases hjk : j = k
    · subst hjk; rw [set2_eq, set2_eq]; exact hs.lower hb
    · rw [set2_ne _ _ _ hjk, set2_ne _ _ _ hjk]
      exact (h.slot j hj).move (fun i hi => hc.block i ((h.slot j hj).ge i hi).2 (fun e => h.out j hj (by have e' : i = gw := e; rw [← e']; exact hi)))
  · by_cases hjk : j = k
    · subst hjk
      rw [set2_eq] at hx
      rw [set2_ne _ _ _ (fun q => hji q.symm)] at hy
      have := ((h.slot i hi).ge x hy).2
      have := hF x hx
      omega
    · rw [set2_ne _ _ _ hjk] at hx
      by_cases hik : i = k
      · subst hik
        rw [set2_eq] at hy
        have := ((h.slot j hj).ge x hx).2
        have := hF x hy
        omega
      · rw [set2_ne _ _ _ hik] at hy
        exact h.dis j i hj hi hji x hx hy
  · by_cases hjk : j = k
    · subst hjk; rw [set2_eq] at q; have := hF gw q; omega
    · rw [set2_ne _ _ _ hjk] at q; exact h.out j hj q
  · by_cases hjk : j = k
    · subst hjk; rw [set2_eq]; exact Nat.le_refl _
    · rw [set2_ne _ _ _ hjk]; exact h.len j hj
theorem putC_le (ord : Int) (c : Nat) : putC ord c ≤ c + 1 := by unfold putC; split <;> omega
def inc (kind : Int) : Nat := if kind = 1 then 1 else 0
theorem slot_done {w w' : World} {base gw : Nat} {d : Nat → Dt} {F : Nat → Nat → Prop} (h : WdAt w base gw d F) (hb : base ≤ w.heap.size) {k : Nat} (hk : k < 2) {M' : List It} {c' : Nat} {F1 : Nat → Prop} {kind : Int} (hs : Slot w' base (d k).gH (d k).gR (d k).ord M' c' (M'.map pairOf) F1) (hc : Chg (F k) w w') (hF : ∀ i, F1 i → F k i ∨ w.heap.size ≤ i) (hl : M'.length ≤ c') (hi : c' ≤ (d k).c + inc kind) : ∃ d' F', WdAt w' base gw d' F' ∧ Below base w w' ∧ ∀ j, j < 2 → (d' j).c ≤ (d j).c + inc kind := by
  refine ⟨_, _, h.set hk hs hc hF hl, hc.below hb (fun i q => ((h.slot k hk).ge i q).1), fun j hj => ?_⟩
  by_cases e : j = k
  · subst e; rw [set2_eq]; exact hi
  · rw [set2_ne _ _ _ e]; exact Nat.le_add_right _ _
theorem new_done {w w' : World} {base gw : Nat} {d : Nat → Dt} {F : Nat → Nat → Prop} (h : WdAt w base gw d F) (hb : base ≤ w.heap.size) {k : Nat} (hk : k < 2) {gH gR : Nat} {ord : Int} {F1 : Nat → Prop} {kind : Int} (hs : Slot w' w.heap.size gH gR ord [] 0 (([] : List It).map pairOf) F1) (hblk : w'.heap[gw]? = some (.cells #[.pointer (some ⟨((set2 d k ⟨gH, gR, ord, [], 0⟩) 0).gH, 0, none⟩), .pointer (some ⟨((set2 d k ⟨gH, gR, ord, [], 0⟩) 1).gH, 0, none⟩), .pointer (some ⟨((set2 d k ⟨gH, gR, ord, [], 0⟩) 0).gR, 0, none⟩), .pointer (some ⟨((set2 d k ⟨gH, gR, ord, [], 0⟩) 1).gR, 0, none⟩)] 29 (0, 0))) (hF : ∀ i, F1 i → w.heap.size ≤ i) (hc : Chg (· = gw) w w') : ∃ d' F', WdAt w' base gw d' F' ∧ Below base w w' ∧ ∀ j, j < 2 → (d' j).c ≤ (d j).c + inc kind := by
  refine ⟨_, _, h.renew hk hs hblk hF hc hb, hc.below hb (fun i q => by have e : i = gw := q; rw [e]; exact h.ge), fun j hj => ?_⟩
  by_cases e : j = k
  · subst e; rw [set2_eq]; exact Nat.zero_le _
  · rw [set2_ne _ _ _ e]; exact Nat.le_add_right _ _
set_option maxHeartbeats 8000000 in
set_option maxRecDepth 100000 in
theorem does_calls {w : World} {base gw : Nat} {d : Nat → Dt} {F : Nat → Nat → Prop} (kind on rank : Int) (key : Kt) (h : WdAt w base gw d F) (hb : base ≤ w.heap.size) (hk : okK key) (hc : ∀ j, j < 2 → (d j).c < 4000000000000) :
    Calls Try.prog 9 #[.pointer (some ⟨gw, 0, none⟩), .agg #[.int .i64 kind, .int .i64 on, .int .i64 rank, .int .u8 key.1, .int .u8 key.2.1, .int .u8 key.2.2.1, .int .u8 key.2.2.2.1, .int .u8 key.2.2.2.2.1, .int .u8 key.2.2.2.2.2.1, .int .u8 key.2.2.2.2.2.2.1, .int .u8 key.2.2.2.2.2.2.2]] w fun e w' => e = .returned (.bool true) ∧ ∃ d' F', WdAt w' base gw d' F' ∧ Below base w w' ∧ ∀ j, j < 2 → (d' j).c ≤ (d j).c + inc kind := by
  obtain ⟨k, hk2, hbits⟩ := bits_and1 on
  have hk3 : k = 0 ∨ k = 1 := by omega
  by_cases h1 : kind = 1
  · subst h1
    rcases hk3 with rfl | rfl
    · exact (does_put0 on rank key (h.slot 0 hk2) h.blk (h.out 0 hk2) hk (hc 0 hk2) (h.len 0 hk2) hb hbits).mono (fun e w' ⟨he, F1, q1, q2, q3⟩ => ⟨he, slot_done h hb hk2 q1 q2 q3 (putM_len _ _ _ _ _ (h.len 0 hk2)) (by have := putC_le (d 0).ord (d 0).c; unfold inc; rw [if_pos rfl]; exact this)⟩)
    · exact (does_put1 on rank key (h.slot 1 hk2) h.blk (h.out 1 hk2) hk (hc 1 hk2) (h.len 1 hk2) hb hbits).mono (fun e w' ⟨he, F1, q1, q2, q3⟩ => ⟨he, slot_done h hb hk2 q1 q2 q3 (putM_len _ _ _ _ _ (h.len 1 hk2)) (by have := putC_le (d 1).ord (d 1).c; unfold inc; rw [if_pos rfl]; exact this)⟩)
  by_cases h2 : kind = 2
  · subst h2
    rcases hk3 with rfl | rfl
    · exact (does_pop0 on rank key (h.slot 0 hk2) h.blk (h.out 0 hk2) hk (hc 0 hk2) (h.len 0 hk2) hb hbits).mono (fun e w' ⟨he, F1, q1, q2, q3⟩ => ⟨he, slot_done h hb hk2 q1 q2 q3 (Nat.le_trans (popM_len _ _) (h.len 0 hk2)) (Nat.le_add_right _ _)⟩)
    · exact (does_pop1 on rank key (h.slot 1 hk2) h.blk (h.out 1 hk2) hk (hc 1 hk2) (h.len 1 hk2) hb hbits).mono (fun e w' ⟨he, F1, q1, q2, q3⟩ => ⟨he, slot_done h hb hk2 q1 q2 q3 (Nat.le_trans (popM_len _ _) (h.len 1 hk2)) (Nat.le_add_right _ _)⟩)
  by_cases h3 : kind = 3
  · subst h3
    rcases hk3 with rfl | rfl
    · exact (does_drop0 on rank key (h.slot 0 hk2) h.blk (h.out 0 hk2) hk (hc 0 hk2) (h.len 0 hk2) hb hbits).mono (fun e w' ⟨he, F1, q1, q2, q3⟩ => ⟨he, slot_done h hb hk2 q1 q2 q3 (Nat.le_trans (List.length_filter_le _ _) (h.len 0 hk2)) (Nat.le_add_right _ _)⟩)
    · exact (does_drop1 on rank key (h.slot 1 hk2) h.blk (h.out 1 hk2) hk (hc 1 hk2) (h.len 1 hk2) hb hbits).mono (fun e w' ⟨he, F1, q1, q2, q3⟩ => ⟨he, slot_done h hb hk2 q1 q2 q3 (Nat.le_trans (List.length_filter_le _ _) (h.len 1 hk2)) (Nat.le_add_right _ _)⟩)
  by_cases h4 : kind = 4
  · subst h4
    rcases hk3 with rfl | rfl
    · exact (does_new0 gw _ _ _ _ on rank key w h.blk hbits).mono (fun e w' ⟨he, gH, gR, ord, F1, q1, q2, q3, q4⟩ => ⟨he, new_done h hb hk2 q2 q1 q3 q4⟩)
    · exact (does_new1 gw _ _ _ _ on rank key w h.blk hbits).mono (fun e w' ⟨he, gH, gR, ord, F1, q1, q2, q3, q4⟩ => ⟨he, new_done h hb hk2 q2 q1 q3 q4⟩)
  refine (does_else gw on rank key w kind (beq_eq_false_iff_ne.2 h1) (beq_eq_false_iff_ne.2 h2) (beq_eq_false_iff_ne.2 h3) (beq_eq_false_iff_ne.2 h4)).mono ?_
  rintro e w' ⟨rfl, q⟩
  exact ⟨rfl, d, F, h.below q, (Chg.of_below q (F := fun _ => False)).below hb (fun _ q => q.elim), fun j hj => Nat.le_add_right _ _⟩
theorem looks_w0 {w : World} {base gw : Nat} {d : Nat → Dt} {F : Nat → Nat → Prop} (key : Kt) (h : WdAt w base gw d F) (hb : base ≤ w.heap.size) (hk : okK key) (hc : ∀ j, j < 2 → (d j).c < 4000000000000) :
    Calls Try.prog 10 #[.pointer (some ⟨gw, 0, none⟩), .int .i64 0, .agg #[.int .u8 key.1, .int .u8 key.2.1, .int .u8 key.2.2.1, .int .u8 key.2.2.2.1, .int .u8 key.2.2.2.2.1, .int .u8 key.2.2.2.2.2.1, .int .u8 key.2.2.2.2.2.2.1, .int .u8 key.2.2.2.2.2.2.2]] w fun e w' => e = .returned (.bool true) ∧ Below w.heap.size w w' :=
  looks0 key (h.slot 0 (by decide)) h.blk hk (hc 0 (by decide)) (h.len 0 (by decide)) hb
theorem looks_w1 {w : World} {base gw : Nat} {d : Nat → Dt} {F : Nat → Nat → Prop} (key : Kt) (h : WdAt w base gw d F) (hb : base ≤ w.heap.size) (hk : okK key) (hc : ∀ j, j < 2 → (d j).c < 4000000000000) :
    Calls Try.prog 10 #[.pointer (some ⟨gw, 0, none⟩), .int .i64 1, .agg #[.int .u8 key.1, .int .u8 key.2.1, .int .u8 key.2.2.1, .int .u8 key.2.2.2.1, .int .u8 key.2.2.2.2.1, .int .u8 key.2.2.2.2.2.1, .int .u8 key.2.2.2.2.2.2.1, .int .u8 key.2.2.2.2.2.2.2]] w fun e w' => e = .returned (.bool true) ∧ Below w.heap.size w w' :=
  looks1 key (h.slot 1 (by decide)) h.blk hk (hc 1 (by decide)) (h.len 1 (by decide)) hb
end Go.Proofs.Ytibipbfmhbkpiaa.HeapDI
/- The orders of a script: how they are told, where they lie. Conditions: those that stand in each theorem. Written by wip/gen/heappw.py. -/
namespace Go.Proofs.Ytibipbfmhbkpiaa.Open
open Go.RowKit Go.Proofs.YtibipbfmhbkpiaaW.PrintWords Go.Proofs.Ytibipbfmhbkpiaa.HeapDI
/-- kind, on, rank, key -/
abbrev Ot := Int × Int × Int × List Int
def kOp : Kd Ot := (Kd.pair (Kd.int .i64) (Kd.pair (Kd.int .i64) (Kd.pair (Kd.int .i64) (Kd.arr 8 (Kd.int .u8) (by decide)))))
def okOp (t : Ot) : Prop := t.2.2.2.length = 8 ∧ ∀ y ∈ t.2.2.2, (Lit.int .u8 y).wf = true
set_option maxRecDepth 100000 in
theorem openOp : Opens Try.prog 35 kOp okOp :=
  Opens.weak (Opens.struct Try.underlying35 (by kernel_rfl) (Fields.cons (Opens.int Try.underlying3 (by kernel_rfl)) (Fields.cons (Opens.int Try.underlying3 (by kernel_rfl)) (Fields.cons (Opens.int Try.underlying3 (by kernel_rfl)) (Fields.one (Opens.arr (by decide) Try.underlying33 (by kernel_rfl) (Opens.int Try.underlying5 (by kernel_rfl)))))))) (fun a h => h.2.2.2)
def keyT : List Int → Kt
  | [a, b, c, d, e, f, g, h] => (a, b, c, d, e, f, g, h)
  | _ => default
theorem op_cells {w : World} {t : Ot} {us : List Value} (h : kOp.K w t us) (hk : okOp t) : okK (keyT t.2.2.2) ∧ us = [.int .i64 t.1, .int .i64 t.2.1, .int .i64 t.2.2.1, .int .u8 (keyT t.2.2.2).1, .int .u8 (keyT t.2.2.2).2.1, .int .u8 (keyT t.2.2.2).2.2.1, .int .u8 (keyT t.2.2.2).2.2.2.1, .int .u8 (keyT t.2.2.2).2.2.2.2.1, .int .u8 (keyT t.2.2.2).2.2.2.2.2.1, .int .u8 (keyT t.2.2.2).2.2.2.2.2.2.1, .int .u8 (keyT t.2.2.2).2.2.2.2.2.2.2] := by
  obtain ⟨kind, on, rank, id⟩ := t
  obtain ⟨_, _, rfl, h0, _, _, rfl, h1, _, _, rfl, h2, h5⟩ := h
  obtain ⟨h5l, h5c⟩ := Kd.arr_cells h5
  cases h0; cases h1; cases h2
  subst h5c
  have h5l' : id.length = 8 := h5l
  obtain ⟨_, hb⟩ := hk
  match id, h5l' with
  | [i0, i1, i2, i3, i4, i5, i6, i7], _ => exact ⟨⟨hb _ (by simp [keyT]), hb _ (by simp [keyT]), hb _ (by simp [keyT]), hb _ (by simp [keyT]), hb _ (by simp [keyT]), hb _ (by simp [keyT]), hb _ (by simp [keyT]), hb _ (by simp [keyT])⟩, rfl⟩
theorem add_next (a : Addr) (n i : Nat) (hi : 0 < i) : a.add (n + i) = ⟨(a.add n).block, (a.add n).off + i, none⟩ := by
  unfold Addr.add
  rw [if_neg (by omega)]
  by_cases h : n = 0
  · subst h; simp
  · simp [h, Nat.add_assoc]
theorem op_at {w : World} {A : Option Addr} {l : List Ot} (h : Kd.C kOp w A l.length l) (hk : ∀ x ∈ l, okOp x) {j : Nat} (hj : j < l.length) :
    ∃ (a : Addr) (kind on rank : Int) (key : Kt), A = some a ∧ okK key ∧ ∀ w', Below w.heap.size w w' → w'.cell? (a.add (j * 11)) = some (.int .i64 kind) ∧ w'.cell? ⟨(a.add (j * 11)).block, (a.add (j * 11)).off + 1, none⟩ = some (.int .i64 on) ∧ w'.cell? ⟨(a.add (j * 11)).block, (a.add (j * 11)).off + 2, none⟩ = some (.int .i64 rank) ∧ w'.cell? ⟨(a.add (j * 11)).block, (a.add (j * 11)).off + 3, none⟩ = some (.int .u8 key.1) ∧ w'.cell? ⟨(a.add (j * 11)).block, (a.add (j * 11)).off + 4, none⟩ = some (.int .u8 key.2.1) ∧ w'.cell? ⟨(a.add (j * 11)).block, (a.add (j * 11)).off + 5, none⟩ = some (.int .u8 key.2.2.1) ∧ w'.cell? ⟨(a.add (j * 11)).block, (a.add (j * 11)).off + 6, none⟩ = some (.int .u8 key.2.2.2.1) ∧ w'.cell? ⟨(a.add (j * 11)).block, (a.add (j * 11)).off + 7, none⟩ = some (.int .u8 key.2.2.2.2.1) ∧ w'.cell? ⟨(a.add (j * 11)).block, (a.add (j * 11)).off + 8, none⟩ = some (.int .u8 key.2.2.2.2.2.1) ∧ w'.cell? ⟨(a.add (j * 11)).block, (a.add (j * 11)).off + 9, none⟩ = some (.int .u8 key.2.2.2.2.2.2.1) ∧ w'.cell? ⟨(a.add (j * 11)).block, (a.add (j * 11)).off + 10, none⟩ = some (.int .u8 key.2.2.2.2.2.2.2) := by
  obtain ⟨a, ha, h2⟩ := h.2.2 (by omega)
  obtain ⟨us, k1, k2, k3⟩ := h2 j l[j] (List.getElem?_eq_getElem hj)
  obtain ⟨k4, rfl⟩ := op_cells k2 (hk _ (List.getElem_mem hj))
  refine ⟨a, l[j].1, l[j].2.1, l[j].2.2.1, keyT l[j].2.2.2, ha, k4, fun w' hb => ?_⟩
  have k6 : ∀ i u, ([.int .i64 l[j].1, .int .i64 l[j].2.1, .int .i64 l[j].2.2.1, .int .u8 (keyT l[j].2.2.2).1, .int .u8 (keyT l[j].2.2.2).2.1, .int .u8 (keyT l[j].2.2.2).2.2.1, .int .u8 (keyT l[j].2.2.2).2.2.2.1, .int .u8 (keyT l[j].2.2.2).2.2.2.2.1, .int .u8 (keyT l[j].2.2.2).2.2.2.2.2.1, .int .u8 (keyT l[j].2.2.2).2.2.2.2.2.2.1, .int .u8 (keyT l[j].2.2.2).2.2.2.2.2.2.2] : List Value)[i]? = some u → w'.cell? (a.add (j * 11 + i)) = some u := fun i u hu => pw_cell_below hb (k3 i u hu)
  have k7 : ∀ i u, 0 < i → ([.int .i64 l[j].1, .int .i64 l[j].2.1, .int .i64 l[j].2.2.1, .int .u8 (keyT l[j].2.2.2).1, .int .u8 (keyT l[j].2.2.2).2.1, .int .u8 (keyT l[j].2.2.2).2.2.1, .int .u8 (keyT l[j].2.2.2).2.2.2.1, .int .u8 (keyT l[j].2.2.2).2.2.2.2.1, .int .u8 (keyT l[j].2.2.2).2.2.2.2.2.1, .int .u8 (keyT l[j].2.2.2).2.2.2.2.2.2.1, .int .u8 (keyT l[j].2.2.2).2.2.2.2.2.2.2] : List Value)[i]? = some u → w'.cell? ⟨(a.add (j * 11)).block, (a.add (j * 11)).off + i, none⟩ = some u := fun i u hi hu => by rw [← add_next a (j * 11) i hi]; exact k6 i u hu
  exact ⟨k6 0 _ rfl, k7 1 _ (by decide) rfl, k7 2 _ (by decide) rfl, k7 3 _ (by decide) rfl, k7 4 _ (by decide) rfl, k7 5 _ (by decide) rfl, k7 6 _ (by decide) rfl, k7 7 _ (by decide) rfl, k7 8 _ (by decide) rfl, k7 9 _ (by decide) rfl, k7 10 _ (by decide) rfl⟩
end Go.Proofs.Ytibipbfmhbkpiaa.Open
/- The walk of HeapPlays. Conditions: those that stand in each theorem. Written by wip/gen/heappw.py. -/
namespace Go.Proofs.Ytibipbfmhbkpiaa.HeapDI
open Go.RowKit Go.Proofs.YtibipbfmhbkpiaaW.PrintWords Go.Proofs.YtibipbfmhbkpiaaW.PrintLast Go.Proofs.YtibipbfmhbkpiaaW.PrintMore Go.Proofs.Ytibipbfmhbkpiaa.HeapW Go.Proofs.Ytibipbfmhbkpiaa.HeapP Go.Proofs.Ytibipbfmhbkpiaa.MapAt Go.Proofs.Ytibipbfmhbkpiaa.Q
set_option linter.unusedVariables false
set_option linter.unusedSimpArgs false
open Go.Proofs.Ytibipbfmhbkpiaa.Open
theorem inc_le (k : Int) : inc k ≤ 1 := by unfold inc; split <;> omega
theorem zero_key : okK (0, 0, 0, 0, 0, 0, 0, 0) := by unfold okK; decide
theorem WdAt.start {w1 w2 w3 : World} {base gw gH0 gR0 gH1 gR1 : Nat} {ord0 ord1 : Int} {F0 F1 : Nat → Prop} (h0 : Slot w2 w1.heap.size gH0 gR0 ord0 [] 0 (([] : List It).map pairOf) F0) (k0 : ∀ i, F0 i → w1.heap.size ≤ i) (h1 : Slot w3 w2.heap.size gH1 gR1 ord1 [] 0 (([] : List It).map pairOf) F1) (k1 : ∀ i, F1 i → w2.heap.size ≤ i) (hb : w3.heap[gw]? = some (.cells #[.pointer (some ⟨gH0, 0, none⟩), .pointer (some ⟨gH1, 0, none⟩), .pointer (some ⟨gR0, 0, none⟩), .pointer (some ⟨gR1, 0, none⟩)] 29 (0, 0))) (c1 : Chg (· = gw) w1 w2) (c2 : Chg (· = gw) w2 w3) (hg : gw < w1.heap.size) (hbase : base ≤ gw) :
    ∃ (d : Nat → Dt) (F : Nat → Nat → Prop), WdAt w3 base gw d F ∧ ∀ j, j < 2 → (d j).c ≤ 0 := by
  have h2 : ∀ j, j < 2 → (j = 0 ∨ j = 1) := fun j hj => by omega
  refine ⟨(fun j => if j = 0 then ⟨gH0, gR0, ord0, [], 0⟩ else ⟨gH1, gR1, ord1, [], 0⟩ : Nat → Dt), (fun j => if j = 0 then F0 else F1), WdAt.fresh (w := w1) h2 (fun j hj => ?_) hb (fun i hi hj => ?_) (fun k hk q => ?_) hbase (fun k hk => ?_), fun j hj => ?_⟩
  · rcases h2 j hj with rfl | rfl
    · exact (h0.move (fun i hi => c2.block i (h0.ge i hi).2 (fun e => by have e' : i = gw := e; have := k0 i hi; omega))).lower (by omega)
    · exact h1.lower (by have := c1.size; omega)
  · have a1 : F0 i := hi
    have a2 : F1 i := hj
    have := (h0.ge i a1).2
    have := k1 i a2
    omega
  · rcases h2 k hk with rfl | rfl
    · have a1 : F0 gw := q
      have := k0 gw a1
      omega
    · have a1 : F1 gw := q
      have := k1 gw a1
      have := c1.size
      omega
  · rcases h2 k hk with rfl | rfl <;> exact Nat.le_refl _
  · rcases h2 j hj with rfl | rfl <;> exact Nat.le_refl _
set_option maxHeartbeats 8000000 in
set_option maxRecDepth 100000 in
theorem plays_walk (A0 : Option Addr) (c0 : Nat) (l : List Ot) (w : World) (hr : Kd.C kOp w A0 l.length l) (hc : l.length ≤ c0) (hl : l.length ≤ 1048576) (hk : ∀ x ∈ l, okOp x) :
    Calls Try.prog 3 #[.slice A0 l.length c0] w fun e w' => e = .returned (.bool true) ∧ Below w.heap.size w w' := by
  have HR := Aside0.mk hr
  have HC := Aside0.mk hc
  have HL := Aside0.mk hl
  have HK := Aside0.mk hk
  clear hr hc hl hk
  go_enter Try.func3, Try.ntmps3
  go_wp2_with fail
  have HB1 : Aside0 (Below w.heap.size w (w.alloc (.cells #[.pointer none, .pointer none, .pointer none, .pointer none] 29))) := ⟨below_alloc (Below.refl _ _) _⟩
  have HS1 : Aside0 (w.heap.size < (w.alloc (.cells #[.pointer none, .pointer none, .pointer none, .pointer none] 29)).heap.size) := ⟨blk_lt (blk_new _ _)⟩
  refine (anew0 w.heap.size _ _ _ _ 0 _ (blk_new w (.cells #[.pointer none, .pointer none, .pointer none, .pointer none] 29))).mono ?_
  rintro e w2 ⟨rfl, gH0, gR0, ord0, F0, a1, a2, a3, a4⟩
  have HA := Aside0.mk (And.intro a2 (And.intro a3 a4))
  have HA1 := Aside0.mk a1
  clear a1 a2 a3 a4
  generalize w.alloc (.cells #[.pointer none, .pointer none, .pointer none, .pointer none] 29) = w1 at HB1 HS1 HA HA1
  go_wp2_with fail
  refine (anew1 w.heap.size _ _ _ _ 2 w2 HA1.out).mono ?_
  rintro e w3 ⟨rfl, gH1, gR1, ord1, F1, a1, a2, a3, a4⟩
  have HB3 : Aside0 (Below w.heap.size w w3) := ⟨HB1.out.trans (((HA.out.2.2).trans a4).below (Nat.le_of_lt HS1.out) (fun k e => by have e' : k = w.heap.size := e; omega))⟩
  obtain ⟨d, F, hw, hcc⟩ := WdAt.start (base := w.heap.size) HA.out.1 HA.out.2.1 a2 a3 a1 HA.out.2.2 a4 HS1.out (Nat.le_refl _)
  have HW3 := Aside0.mk hw
  have HC3 := Aside0.mk hcc
  clear a1 a2 a3 a4 hw hcc HA HA1
  go_wp2_with fail
  go_loopg [4] l.length (fun kq v4 w' => ∃ (i : Nat) (d : Nat → Dt) (F : Nat → Nat → Prop), v4 = .int .i64 i ∧ Aside0 (i + kq = l.length) ∧ Aside0 (WdAt w' w.heap.size w.heap.size d F) ∧ Aside0 (∀ j, j < 2 → (d j).c ≤ i) ∧ Aside0 (Below w.heap.size w w'))
  case atStart => exact ⟨0, d, F, rfl, ⟨by omega⟩, HW3, HC3, HB3⟩
  case round =>
    clear HW3 HC3 HB3
    obtain ⟨i, d, F, rfl, HI, HW, HCC, HB⟩ := hrel
    cases gk with
    | zero =>
      have hi : i = l.length := by have := HI.out; omega
      rw [hi] at HCC
      have hgt : decide (i < l.length) = false := decide_eq_false (by omega)
      clear hi
      go_wp2_with fail
      go_loopg [5] 2 (fun kq v5 w' => ∃ (k : Int) (d : Nat → Dt) (F : Nat → Nat → Prop), v5 = .int .i64 k ∧ Aside0 (k + kq = 2 ∧ 0 ≤ k) ∧ Aside0 (WdAt w' w.heap.size w.heap.size d F) ∧ Aside0 (∀ j, j < 2 → (d j).c ≤ l.length) ∧ Aside0 (Below w.heap.size w w'))
      case atStart => exact ⟨0, d, F, rfl, ⟨by omega, by omega⟩, HW, HCC, HB⟩
      case round =>
        clear HW HCC HB hgt
        obtain ⟨k, d, F, rfl, HI2, HW, HCC, HB⟩ := hrel
        cases gk with
        | zero =>
          have hk2 : k = 2 := by have := HI2.out; omega
          subst hk2
          go_wp2
          go_ret
          exact ⟨rfl, HB.out⟩
        | succ gk =>
          have hk3 : k = 0 ∨ k = 1 := by have := HI2.out; omega
          rcases hk3 with hk3 | hk3
          · subst hk3
            obtain ⟨RA, rcap, hrc⟩ := (HW.out.slot 0 (by decide)).cell
            have hcw := (HW.out.cellH (show 0 < 2 by decide)).2
            have hn1 : (d 0).M.length ≤ l.length := Nat.le_trans (HW.out.len 0 (by decide)) (HCC.out 0 (by decide))
            rw [List.length_map] at hrc
            obtain ⟨n, hn⟩ : ∃ n, n = (d 0).M.length := ⟨_, rfl⟩
            rw [← hn] at hrc hn1
            have HN1 := Aside0.mk hn1
            clear hn hn1
            obtain ⟨gRk, hgk⟩ : ∃ gRk, gRk = (d 0).gR := ⟨_, rfl⟩
            rw [← hgk] at hrc hcw
            clear hgk
            have hcw : wr.cell? ⟨w.heap.size, 2, none⟩ = some (.pointer (some ⟨gRk, 0, none⟩)) := hcw
            go_wp2_with fail
            clear hcw hrc
            go_loopg [7] (n + 1) (fun kq v7 w' => ∃ (i : Nat) (d : Nat → Dt) (F : Nat → Nat → Prop), v7 = .int .i64 i ∧ Aside0 (i + kq = n + 1) ∧ Aside0 (WdAt w' w.heap.size w.heap.size d F) ∧ Aside0 (∀ j, j < 2 → (d j).c ≤ l.length) ∧ Aside0 (Below w.heap.size w w'))
            case atStart => exact ⟨0, d, F, rfl, ⟨by omega⟩, HW, HCC, HB⟩
            case round =>
              clear HW HCC HB
              obtain ⟨i, d, F, rfl, HI3, HW, HCC, HB⟩ := hrel
              cases gk with
              | zero =>
                have hgt : decide (i ≤ n) = false := decide_eq_false (by have := HI3.out; omega)
                go_wp2
                go_roundg gk
                case measure => omega
                case rel => exact ⟨1, d, F, by first | rfl | (simp; done), ⟨by have := HI2.out; omega, by decide⟩, HW, HCC, HB⟩
              | succ gk2 =>
                have hil : (i : Int) ≤ n := by have := HI3.out; omega
                have hwi : wrap64 ((i : Int) + 1) = (i : Int) + 1 := by unfold wrap64; have := HL.out; have := HN1.out; omega
                have HC4 : Aside0 (∀ j, j < 2 → (d j).c < 4000000000000) := ⟨fun j hj => by have := HCC.out j hj; have := HL.out; omega⟩
                go_wp2_with fail
                refine (does_calls 2 0 0 (0, 0, 0, 0, 0, 0, 0, 0) HW.out HB.out.size zero_key HC4.out).mono ?_
                rintro e w5 ⟨rfl, d5, F5, a1, a2, a3⟩
                have HW5 := Aside0.mk a1
                have HB5 : Aside0 (Below w.heap.size w w5) := ⟨HB.out.trans a2⟩
                have HC5 : Aside0 (∀ j, j < 2 → (d5 j).c ≤ l.length) := ⟨fun j hj => by have := a3 j hj; have := HCC.out j hj; have e : inc 2 = 0 := rfl; omega⟩
                clear a1 a2 a3 HW HB HCC HC4
                go_wp2
                go_roundg gk2
                case measure => omega
                case rel => exact ⟨i + 1, d5, F5, by first | rfl | (simp; done) | (rw [hwi]; rfl), ⟨by have := HI3.out; omega⟩, HW5, HC5, HB5⟩
          · subst hk3
            obtain ⟨RA, rcap, hrc⟩ := (HW.out.slot 1 (by decide)).cell
            have hcw := (HW.out.cellH (show 1 < 2 by decide)).2
            have hn1 : (d 1).M.length ≤ l.length := Nat.le_trans (HW.out.len 1 (by decide)) (HCC.out 1 (by decide))
            rw [List.length_map] at hrc
            obtain ⟨n, hn⟩ : ∃ n, n = (d 1).M.length := ⟨_, rfl⟩
            rw [← hn] at hrc hn1
            have HN1 := Aside0.mk hn1
            clear hn hn1
            obtain ⟨gRk, hgk⟩ : ∃ gRk, gRk = (d 1).gR := ⟨_, rfl⟩
            rw [← hgk] at hrc hcw
            clear hgk
            have hcw : wr.cell? ⟨w.heap.size, 3, none⟩ = some (.pointer (some ⟨gRk, 0, none⟩)) := hcw
            go_wp2_with fail
            clear hcw hrc
            go_loopg [7] (n + 1) (fun kq v7 w' => ∃ (i : Nat) (d : Nat → Dt) (F : Nat → Nat → Prop), v7 = .int .i64 i ∧ Aside0 (i + kq = n + 1) ∧ Aside0 (WdAt w' w.heap.size w.heap.size d F) ∧ Aside0 (∀ j, j < 2 → (d j).c ≤ l.length) ∧ Aside0 (Below w.heap.size w w'))
            case atStart => exact ⟨0, d, F, rfl, ⟨by omega⟩, HW, HCC, HB⟩
            case round =>
              clear HW HCC HB
              obtain ⟨i, d, F, rfl, HI3, HW, HCC, HB⟩ := hrel
              cases gk with
              | zero =>
                have hgt : decide (i ≤ n) = false := decide_eq_false (by have := HI3.out; omega)
                go_wp2
                go_roundg gk
                case measure => omega
                case rel => exact ⟨2, d, F, by first | rfl | (simp; done), ⟨by have := HI2.out; omega, by decide⟩, HW, HCC, HB⟩
              | succ gk2 =>
                have hil : (i : Int) ≤ n := by have := HI3.out; omega
                have hwi : wrap64 ((i : Int) + 1) = (i : Int) + 1 := by unfold wrap64; have := HL.out; have := HN1.out; omega
                have HC4 : Aside0 (∀ j, j < 2 → (d j).c < 4000000000000) := ⟨fun j hj => by have := HCC.out j hj; have := HL.out; omega⟩
                go_wp2_with fail
                refine (does_calls 2 1 0 (0, 0, 0, 0, 0, 0, 0, 0) HW.out HB.out.size zero_key HC4.out).mono ?_
                rintro e w5 ⟨rfl, d5, F5, a1, a2, a3⟩
                have HW5 := Aside0.mk a1
                have HB5 : Aside0 (Below w.heap.size w w5) := ⟨HB.out.trans a2⟩
                have HC5 : Aside0 (∀ j, j < 2 → (d5 j).c ≤ l.length) := ⟨fun j hj => by have := a3 j hj; have := HCC.out j hj; have e : inc 2 = 0 := rfl; omega⟩
                clear a1 a2 a3 HW HB HCC HC4
                go_wp2
                go_roundg gk2
                case measure => omega
                case rel => exact ⟨i + 1, d5, F5, by first | rfl | (simp; done) | (rw [hwi]; rfl), ⟨by have := HI3.out; omega⟩, HW5, HC5, HB5⟩
    | succ gk =>
      have hil : (i : Int) < l.length := by have := HI.out; omega
      obtain ⟨a, kind, on, rank, key, ha, hok, hx⟩ := op_at HR.out HK.out (show i < l.length by omega)
      have HX := Aside0.mk hx
      have HOK := Aside0.mk hok
      cases ha
      clear hx hok
      have hwi : wrap64 ((i : Int) + 1) = (i : Int) + 1 := by unfold wrap64; have := HL.out; omega
      have HC4 : Aside0 (∀ j, j < 2 → (d j).c < 4000000000000) := ⟨fun j hj => by have := HCC.out j hj; have := HL.out; have := HI.out; omega⟩
      obtain ⟨q0, q1, q2, q3, q4, q5, q6, q7, q8, q9, q10⟩ := HX.out wr HB.out
      go_wp2_with fail
      refine (does_calls kind on rank key HW.out HB.out.size HOK.out HC4.out).mono ?_
      rintro e w5 ⟨rfl, d5, F5, a1, a2, a3⟩
      have HW5 := Aside0.mk a1
      have HB5 : Aside0 (Below w.heap.size w w5) := ⟨HB.out.trans a2⟩
      have HC5 : Aside0 (∀ j, j < 2 → (d5 j).c ≤ i + 1) := ⟨fun j hj => by have := a3 j hj; have := HCC.out j hj; have := inc_le kind; omega⟩
      have HC6 : Aside0 (∀ j, j < 2 → (d5 j).c < 4000000000000) := ⟨fun j hj => by have := HC5.out j hj; have := HL.out; have := HI.out; omega⟩
      clear a1 a2 a3 HW HB HCC HC4 q0 q1 q2 q3 q4 q5 q6 q7 q8 q9 q10
      obtain ⟨q0, q1, q2, q3, q4, q5, q6, q7, q8, q9, q10⟩ := HX.out w5 HB5.out
      go_wp2_with fail
      refine (looks_w0 key HW5.out HB5.out.size HOK.out HC6.out).mono ?_
      rintro e w6 ⟨rfl, a1⟩
      have HW6 := Aside0.mk (HW5.out.below a1)
      have HB6 := Aside0.mk (below_step HB5.out a1)
      clear a1 HW5 HB5 q0 q1 q2 q3 q4 q5 q6 q7 q8 q9 q10
      obtain ⟨q0, q1, q2, q3, q4, q5, q6, q7, q8, q9, q10⟩ := HX.out w6 HB6.out
      go_wp2_with fail
      refine (looks_w1 key HW6.out HB6.out.size HOK.out HC6.out).mono ?_
      rintro e w7 ⟨rfl, a1⟩
      have HW7 := Aside0.mk (HW6.out.below a1)
      have HB7 := Aside0.mk (below_step HB6.out a1)
      clear a1 HW6 HB6 q0 q1 q2 q3 q4 q5 q6 q7 q8 q9 q10
      go_wp2
      go_roundg gk
      case measure => omega
      case rel => exact ⟨i + 1, d5, F5, by first | rfl | (simp; done) | (rw [hwi]; rfl), ⟨by have := HI.out; omega⟩, HW7, HC5, HB7⟩
end Go.Proofs.Ytibipbfmhbkpiaa.HeapDI
