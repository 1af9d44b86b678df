/- A map of the program's own whose elements are places in a list: what a look-up, a write and 'delete' do. Conditions: those that stand in each theorem. Written in this session. -/
import Derived.Maps.Own
import Derived.Test.YtibipbfmhbkpiaaWWords
namespace Go.Proofs.Ytibipbfmhbkpiaa.MapAt
open Go.ChangeMaps Go.MapKept Go.RowKit
open Go.Maps (Keyed)
set_option linter.unusedVariables false
/-- keys of type kt, told by enc: those of ok read as keys, and differ where they do -/
structure Law (P : Program) (kt : TypeId) {K : Type} (enc : K → Value) (ok : K → Prop) : Prop where
  keyed : Keyed P kt
  lit : ∀ k, ok k → ∃ l, keyOf P kt (enc k) = some l
  inj : ∀ a b, ok a → ok b → enc a = enc b → a = b
section
variable {P : Program} {kt : TypeId} {K : Type} {enc : K → Value} {ok : K → Prop}
/-- block b of w is a map that tells f -/
def MapAt (enc : K → Value) (ok : K → Prop) (w : World) (b : Nat) (f : K → Option Nat) : Prop :=
  ∃ (es : Array MapEntry) (clock : Nat), w.heap[b]? = some (.map es clock) ∧ (∀ e ∈ es.toList, ∃ k n, ok k ∧ e.key = enc k ∧ e.val = .int .i64 (n : Nat) ∧ f k = some n) ∧ (∀ k n, ok k → f k = some n → ∃ e ∈ es.toList, e.key = enc k) ∧ Stamped es clock
def upd [DecidableEq K] (f : K → Option Nat) (k : K) (n : Nat) : K → Option Nat := fun x => if x = k then some n else f x
def rem [DecidableEq K] (f : K → Option Nat) (k : K) : K → Option Nat := fun x => if x = k then none else f x
theorem pw {es : Array MapEntry} {cl : Nat} (h : Stamped es cl) : es.toList.Pairwise (fun a b => a.key ≠ b.key) := by
  have := h.2.2
  unfold List.Nodup at this
  rw [List.pairwise_map] at this
  exact this
theorem MapAt.congr {w : World} {b : Nat} {f g : K → Option Nat} (h : MapAt enc ok w b f) (hg : ∀ k, ok k → g k = f k) : MapAt enc ok w b g := by
  obtain ⟨es, cl, h1, h2, h3, h4⟩ := h
  refine ⟨es, cl, h1, fun e he => ?_, fun k n hk hn => h3 k n hk (by rw [← hg k hk]; exact hn), h4⟩
  obtain ⟨k, n, a, b, c, d⟩ := h2 e he
  exact ⟨k, n, a, b, c, by rw [hg k a]; exact d⟩
theorem MapAt.lt {w : World} {b : Nat} {f : K → Option Nat} (h : MapAt enc ok w b f) : b < w.heap.size := by
  obtain ⟨es, cl, h1, _⟩ := h
  exact (Array.getElem?_eq_some_iff.1 h1).1
theorem MapAt.move {w w' : World} {b : Nat} {f : K → Option Nat} (h : MapAt enc ok w b f) (hb : w'.heap[b]? = w.heap[b]?) : MapAt enc ok w' b f := by
  obtain ⟨es, cl, h1, h2⟩ := h
  exact ⟨es, cl, hb.trans h1, h2⟩
theorem MapAt.none (w : World) (enc : K → Value) (ok : K → Prop) : MapAt enc ok (w.alloc (.map #[] 0)) w.heap.size (fun _ => none) :=
  ⟨#[], 0, (MapKept.heap_alloc w _).1, by simp, by simp, stamped_empty 0⟩
/-- the block is no row of cells -/
theorem MapAt.ne {w : World} {b : Nat} {f : K → Option Nat} (h : MapAt enc ok w b f) {g : Nat} {cs : Array Value} {t : TypeId} {fr : Nat × Nat} (hg : w.heap[g]? = some (.cells cs t fr)) : g ≠ b := by
  obtain ⟨es, cl, h1, _⟩ := h
  intro e
  rw [e, h1] at hg
  cases hg
/-- 'n, ok := m[k]' -/
theorem MapAt.look (L : Law P kt enc ok) {w : World} {b : Nat} {f : K → Option Nat} (h : MapAt enc ok w b f) {t e : TypeId} (ht : P.underlying t = some (.map kt e)) (hz : (zeroValue e).run P w = .ok (.int .i64 0) w) {k : K} (hk : ok k) :
    (Instr.lookup t (.map (some b)) (enc k) true).run P w = .ok (.tuple #[.int .i64 (((f k).getD 0 : Nat) : Int), .bool (f k).isSome]) w := by
  obtain ⟨es, cl, h1, h2, h3, h4⟩ := h
  obtain ⟨l, hl⟩ := L.lit k hk
  have hks : ∀ e ∈ es.toList, ∃ l, keyOf P kt e.key = some l := fun e he => by
    obtain ⟨k', n, a, b, _⟩ := h2 e he
    rw [b]
    exact L.lit k' a
  rcases L.keyed.find w hl es.toList hks with ⟨r1, r2⟩ | ⟨j, e0, r1, r2, r3⟩
  · have hf : f k = Option.none := by
      cases hf : f k with
      | none => rfl
      | some n =>
        obtain ⟨e, he, hek⟩ := h3 k n hk hf
        exact absurd hek (r2 e he)
    rw [hf]
    simp [Instr.lookup, run_underlying ht, MapKept.run_getObj_map h1, L.keyed.check w _ hl, r1, hz, Result.andThen]
  · have hm : e0 ∈ es.toList := List.mem_of_getElem? r2
    obtain ⟨k', n, a, b', c, d⟩ := h2 e0 hm
    have : k' = k := L.inj _ _ a hk (b'.symm.trans r3)
    subst this
    rw [d]
    simp [Instr.lookup, run_underlying ht, MapKept.run_getObj_map h1, L.keyed.check w _ hl, r1, c, Result.andThen]
theorem mem_modify {es : List MapEntry} {j : Nat} {g : MapEntry → MapEntry} {e : MapEntry} (h : e ∈ es.modify j g) : (∃ e0, es[j]? = some e0 ∧ e = g e0) ∨ ∃ i, i ≠ j ∧ es[i]? = some e := by
  obtain ⟨i, hi⟩ := List.getElem?_of_mem h
  rw [List.getElem?_modify] at hi
  by_cases hij : j = i
  · subst hij
    simp at hi
    obtain ⟨e0, h1, h2⟩ := hi
    exact Or.inl ⟨e0, h1, h2.symm⟩
  · simp [hij] at hi
    exact Or.inr ⟨i, fun q => hij q.symm, hi⟩
/-- 'm[k] = n' -/
theorem MapAt.put [DecidableEq K] (L : Law P kt enc ok) {w : World} {b : Nat} {f : K → Option Nat} (h : MapAt enc ok w b f) {t e : TypeId} (ht : P.underlying t = some (.map kt e)) {k : K} (hk : ok k) (n : Nat) :
    ∃ w', (Instr.mapUpdate t (.map (some b)) (enc k) (.int .i64 (n : Nat))).run P w = .ok () w' ∧ MapAt enc ok w' b (upd f k n) ∧ w.grownBy w' (some b) := by
  obtain ⟨es, cl, h1, h2, h3, h4⟩ := h
  obtain ⟨l, hl⟩ := L.lit k hk
  have hks : ∀ e ∈ es.toList, ∃ l, keyOf P kt e.key = some l := fun e he => by
    obtain ⟨k', n, a, b, _⟩ := h2 e he
    rw [b]
    exact L.lit k' a
  have hgr : ∀ o, w.grownBy (setBlock w b o) (some b) := fun o => ⟨rfl, rfl, rfl, by simp [setBlock], fun i _ hi => heap_setBlock_other h1 _ (fun e => hi (by rw [e]))⟩
  rcases L.keyed.find w hl es.toList hks with ⟨r1, r2⟩ | ⟨j, e0, r1, r2, r3⟩
  · refine ⟨setBlock w b (.map (es.push ⟨enc k, .int .i64 (n : Nat), cl⟩) (cl + 1)), ?_, ⟨es.push ⟨enc k, .int .i64 (n : Nat), cl⟩, cl + 1, heap_setBlock_same h1 _, ?_, ?_, ?_⟩, hgr _⟩
    · simp [Instr.mapUpdate, run_underlying ht, MapKept.run_getObj_map h1, L.keyed.check w false hl, r1, MapKept.run_setObj_map _ h1, Result.andThen, setBlock]
    · intro x hx
      simp only [Array.toList_push, List.mem_append, List.mem_singleton] at hx
      rcases hx with hx | rfl
      · obtain ⟨k', n', a, b', c, d⟩ := h2 x hx
        refine ⟨k', n', a, b', c, ?_⟩
        unfold upd
        rw [if_neg (fun q => r2 x hx (by rw [b', q]))]
        exact d
      · exact ⟨k, n, hk, rfl, rfl, by simp [upd]⟩
    · intro k' n' hk' hn'
      unfold upd at hn'
      simp only [Array.toList_push, List.mem_append, List.mem_singleton]
      by_cases q : k' = k
      · subst q
        exact ⟨_, Or.inr rfl, rfl⟩
      · rw [if_neg q] at hn'
        obtain ⟨x, hx, hxk⟩ := h3 k' n' hk' hn'
        exact ⟨x, Or.inl hx, hxk⟩
    · exact stamped_push h4 r2
  · have hjl : j < es.toList.length := (List.getElem?_eq_some_iff.1 r2).1
    have hget : es[j]? = some e0 := by rw [← Array.getElem?_toList]; exact r2
    refine ⟨setBlock w b (.map (es.modify j fun e => { e with key := enc k, val := .int .i64 (n : Nat) }) cl), ?_, ⟨es.modify j fun e => { e with key := enc k, val := .int .i64 (n : Nat) }, cl, heap_setBlock_same h1 _, ?_, ?_, ?_⟩, hgr _⟩
    · simp [Instr.mapUpdate, run_underlying ht, MapKept.run_getObj_map h1, L.keyed.check w false hl, r1, hget, r3, L.keyed.stays w hl, MapKept.run_setObj_map _ h1, Result.andThen, setBlock]
    · intro x hx
      rw [Array.toList_modify] at hx
      rcases mem_modify hx with ⟨e1, q1, rfl⟩ | ⟨i, hij, q1⟩
      · exact ⟨k, n, hk, rfl, rfl, by simp [upd]⟩
      · have hm := List.mem_of_getElem? q1
        obtain ⟨k', n', a, b', c, d⟩ := h2 x hm
        refine ⟨k', n', a, b', c, ?_⟩
        unfold upd
        rw [if_neg ?_]
        · exact d
        · intro q
          have hil : i < es.toList.length := (List.getElem?_eq_some_iff.1 q1).1
          have e2 : es.toList[i] = x := (List.getElem?_eq_some_iff.1 q1).2
          have e3 : es.toList[j] = e0 := (List.getElem?_eq_some_iff.1 r2).2
          have e4 : x.key = e0.key := by rw [b', q, r3]
          rcases Nat.lt_or_ge i j with hlt | hge
          · have := List.pairwise_iff_getElem.1 (pw h4) i j hil hjl hlt
            rw [e2, e3] at this
            exact this e4
          · have := List.pairwise_iff_getElem.1 (pw h4) j i hjl hil (by omega)
            rw [e2, e3] at this
            exact this e4.symm
    · intro k' n' hk' hn'
      unfold upd at hn'
      rw [Array.toList_modify]
      by_cases q : k' = k
      · subst q
        refine ⟨{ e0 with key := enc k', val := .int .i64 (n : Nat) }, ?_, rfl⟩
        refine List.mem_of_getElem? (i := j) ?_
        rw [List.getElem?_modify, r2]
        simp
      · rw [if_neg q] at hn'
        obtain ⟨x, hx, hxk⟩ := h3 k' n' hk' hn'
        obtain ⟨i, hi⟩ := List.getElem?_of_mem hx
        refine ⟨x, List.mem_of_getElem? (i := i) ?_, hxk⟩
        rw [List.getElem?_modify]
        have hij : j ≠ i := fun e => by
          subst e
          rw [r2] at hi
          cases hi
          exact q (L.inj _ _ hk' hk (hxk.symm.trans r3))
        simp [hij, hi]
    · refine stamped_modify h4 j _ (fun _ _ => rfl) (fun e he hj => ?_)
      rw [hget] at hj
      cases hj
      exact r3.symm
/-- 'delete(m, k)' -/
theorem MapAt.del [DecidableEq K] (L : Law P kt enc ok) {w : World} {b : Nat} {f : K → Option Nat} (h : MapAt enc ok w b f) {t e : TypeId} (ht : P.underlying t = some (.map kt e)) {k : K} (hk : ok k) (tk ty : TypeId) :
    ∃ w', (Builtin.delete_ #[t, tk] ty #[.map (some b), enc k]).run P w = .ok (.tuple #[]) w' ∧ MapAt enc ok w' b (rem f k) ∧ w.grownBy w' (some b) := by
  obtain ⟨es, cl, h1, h2, h3, h4⟩ := h
  obtain ⟨l, hl⟩ := L.lit k hk
  have hks : ∀ e ∈ es.toList, ∃ l, keyOf P kt e.key = some l := fun e he => by
    obtain ⟨k', n, a, b, _⟩ := h2 e he
    rw [b]
    exact L.lit k' a
  have hgr : ∀ o, w.grownBy (setBlock w b o) (some b) := fun o => ⟨rfl, rfl, rfl, by simp [setBlock], fun i _ hi => heap_setBlock_other h1 _ (fun e => hi (by rw [e]))⟩
  rcases L.keyed.find w hl es.toList hks with ⟨r1, r2⟩ | ⟨j, e0, r1, r2, r3⟩
  · refine ⟨setBlock w b (.map es cl), ?_, ⟨es, cl, heap_setBlock_same h1 _, ?_, ?_, h4⟩, hgr _⟩
    · simp [Builtin.delete_, run_underlying ht, MapKept.run_getObj_map h1, L.keyed.check w _ hl, r1, MapKept.run_setObj_map _ h1, Result.andThen, setBlock]
    · intro x hx
      obtain ⟨k', n', a, b', c, d⟩ := h2 x hx
      refine ⟨k', n', a, b', c, ?_⟩
      unfold rem
      rw [if_neg (fun q => r2 x hx (by rw [b', q]))]
      exact d
    · intro k' n' hk' hn'
      unfold rem at hn'
      split at hn'
      · cases hn'
      · exact h3 k' n' hk' hn'
  · have hjl : j < es.toList.length := (List.getElem?_eq_some_iff.1 r2).1
    have hjs : j < es.size := by simpa using hjl
    have hsub : (es.eraseIdxIfInBounds j).toList = es.toList.eraseIdx j := by
      unfold Array.eraseIdxIfInBounds
      rw [dif_pos hjs]
      simp
    have e3 : es.toList[j] = e0 := (List.getElem?_eq_some_iff.1 r2).2
    refine ⟨setBlock w b (.map (es.eraseIdxIfInBounds j) cl), ?_, ⟨es.eraseIdxIfInBounds j, cl, heap_setBlock_same h1 _, ?_, ?_, ?_⟩, hgr _⟩
    · simp [Builtin.delete_, run_underlying ht, MapKept.run_getObj_map h1, L.keyed.check w _ hl, r1, MapKept.run_setObj_map _ h1, Result.andThen, setBlock]
    · intro x hx
      rw [hsub, List.mem_eraseIdx_iff_getElem] at hx
      obtain ⟨i, hil, hij, rfl⟩ := hx
      obtain ⟨k', n', a, b', c, d⟩ := h2 es.toList[i] (List.getElem_mem hil)
      refine ⟨k', n', a, b', c, ?_⟩
      unfold rem
      rw [if_neg ?_]
      · exact d
      · intro q
        have e4 : (es.toList[i]).key = (es.toList[j]).key := by rw [b', q, e3, r3]
        rcases Nat.lt_or_ge i j with hlt | hge
        · exact List.pairwise_iff_getElem.1 (pw h4) i j hil hjl hlt e4
        · exact List.pairwise_iff_getElem.1 (pw h4) j i hjl hil (by omega) e4.symm
    · intro k' n' hk' hn'
      unfold rem at hn'
      split at hn'
      · cases hn'
      · rename_i q
        obtain ⟨x, hx, hxk⟩ := h3 k' n' hk' hn'
        obtain ⟨i, hil, hi⟩ := List.getElem_of_mem hx
        refine ⟨x, ?_, hxk⟩
        rw [hsub, List.mem_eraseIdx_iff_getElem]
        refine ⟨i, hil, fun e => ?_, hi⟩
        subst e
        rw [hi] at e3
        subst e3
        exact q (L.inj _ _ hk' hk (hxk.symm.trans r3))
    · exact stamped_erase h4 j
/-- 'm[k], .. = n, ..' of a key that is there: the entry is looked up first, then written -/
theorem MapAt.entry [DecidableEq K] (L : Law P kt enc ok) {w : World} {b : Nat} {f : K → Option Nat} (h : MapAt enc ok w b f) {t e : TypeId} (ht : P.underlying t = some (.map kt e)) {k : K} (hk : ok k) {n : Nat} (hn : f k = some n) :
    ∃ st : Nat, (Instr.mapEntry t (.map (some b)) (enc k)).run P w = .ok (.tuple #[.int .i64 (n : Nat), .int .i64 (st : Nat)]) w ∧
      ∀ v : Nat, ∃ w', (Instr.entryStore t (.map (some b)) (.int .i64 (st : Nat)) (.int .i64 (v : Nat))).run P w = .ok () w' ∧ MapAt enc ok w' b (upd f k v) ∧ w.grownBy w' (some b) := by
  have h0 := h
  obtain ⟨es, cl, h1, h2, h3, h4⟩ := h
  obtain ⟨l, hl⟩ := L.lit k hk
  have hks : ∀ e ∈ es.toList, ∃ l, keyOf P kt e.key = some l := fun e he => by
    obtain ⟨k', n, a, b, _⟩ := h2 e he
    rw [b]
    exact L.lit k' a
  have hgr : ∀ o, w.grownBy (setBlock w b o) (some b) := fun o => ⟨rfl, rfl, rfl, by simp [setBlock], fun i _ hi => heap_setBlock_other h1 _ (fun e => hi (by rw [e]))⟩
  rcases L.keyed.find w hl es.toList hks with ⟨r1, r2⟩ | ⟨j, e0, r1, r2, r3⟩
  · obtain ⟨x, hx, hxk⟩ := h3 k n hk hn
    exact absurd hxk (r2 x hx)
  · have hjl : j < es.toList.length := (List.getElem?_eq_some_iff.1 r2).1
    have hjs : j < es.size := by simpa using hjl
    have hget : es[j]? = some e0 := by rw [← Array.getElem?_toList]; exact r2
    have hm : e0 ∈ es.toList := List.mem_of_getElem? r2
    have e3 : es.toList[j] = e0 := (List.getElem?_eq_some_iff.1 r2).2
    obtain ⟨k', n', q1, q2, q3, q4⟩ := h2 e0 hm
    have hkk : k' = k := L.inj _ _ q1 hk (q2.symm.trans r3)
    subst hkk
    rw [hn] at q4
    cases q4
    have hsame : es.modify j (fun e => { e with key := enc k' }) = es := by
      apply Array.ext_getElem?
      intro i
      rw [Array.getElem?_modify]
      by_cases hi : j = i
      · subst hi
        rw [if_pos rfl, hget]
        simp only [Option.map_some, Option.some.injEq]
        rw [← r3]
      · rw [if_neg hi]
    have hw : ({ w with heap := w.heap.setIfInBounds b (.map es cl) } : World) = w := by
      have : w.heap.setIfInBounds b (.map es cl) = w.heap := by
        apply Array.ext_getElem?
        intro i
        rw [Array.getElem?_setIfInBounds]
        by_cases hi : b = i
        · subst hi
          rw [if_pos rfl, h1]
          have := (Array.getElem?_eq_some_iff.1 h1).1
          simp [this]
        · rw [if_neg hi]
      rw [this]
    refine ⟨e0.born, ?_, fun v => ?_⟩
    · simp [Instr.mapEntry, run_underlying ht, MapKept.run_getObj_map h1, L.keyed.check w false hl, r1, hget, r3, L.keyed.stays w hl, MapKept.run_setObj_map _ h1, Result.andThen, hsame, hw, goInt, q3]
    · have hfi : es.findIdx? (fun e => ((e.born : Int) == (e0.born : Int))) = some j := by
        rw [Array.findIdx?_eq_some_iff_getElem]
        have ej : es[j] = e0 := (Array.getElem?_eq_some_iff.1 hget).2
        refine ⟨hjs, by rw [ej]; simp, fun i hi => ?_⟩
        have hb := h4.2.1
        unfold List.Nodup at hb
        rw [List.pairwise_map] at hb
        have := List.pairwise_iff_getElem.1 hb i j (by simp; omega) hjl hi
        simp only [Array.getElem_toList] at this
        rw [ej] at this
        simp
        intro q
        exact this (by exact_mod_cast q)
      have hput : ∃ w', (Instr.mapUpdate t (.map (some b)) (enc k') (.int .i64 (v : Nat))).run P w = .ok () w' ∧ MapAt enc ok w' b (upd f k' v) ∧ w.grownBy w' (some b) := MapAt.put L h0 ht hk v
      obtain ⟨w', p1, p2, p3⟩ := hput
      refine ⟨w', ?_, p2, p3⟩
      rw [← p1]
      have hmod : es.modify j (fun e => { e with val := .int .i64 (v : Nat) }) = es.modify j (fun e => { e with key := enc k', val := .int .i64 (v : Nat) }) := by
        apply Array.ext_getElem?
        intro i
        rw [Array.getElem?_modify, Array.getElem?_modify]
        by_cases hi : j = i
        · subst hi
          rw [if_pos rfl, if_pos rfl, hget]
          simp only [Option.map_some, Option.some.injEq]
          rw [← r3]
        · rw [if_neg hi, if_neg hi]
      simp [Instr.entryStore, Instr.mapUpdate, asInt, asIntOf, run_underlying ht, MapKept.run_getObj_map h1, L.keyed.check w false hl, r1, hget, r3, L.keyed.stays w hl, MapKept.run_setObj_map _ h1, Result.andThen, hfi, hmod]
end
end Go.Proofs.Ytibipbfmhbkpiaa.MapAt
