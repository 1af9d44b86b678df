/- How an argument is told as a value of a kind, with a bound by its bulk. No condition. Written in this session. -/
import Derived.Test.YtjijmikpoenbcaaBulk
import Derived.Test.YtjijmikpoenbcaaOpenArr
namespace Go.Proofs.Ytjijmikpoenbcaa.Open
open Go.RowKit Go.Proofs.YtjijmikpoenbcaaW.PrintWords
set_option linter.unusedVariables false
structure OpensB {α : Type} (P : Program) (t : TypeId) (d : Kd α) (ok : α → Prop) (bd : α → Nat → Prop) : Prop where
  cells : P.cellsOf t = d.sz
  mono : ∀ {a : α} {n m : Nat}, n ≤ m → bd a n → bd a m
  get : ∀ {H : Type} {enc : TypeId × Value → H} {w : World} {base : Nat} {spare : Nat → Bool} {held : Bool} {fuel : Nat} {cs : List Value} {x : DataW H × List MemPlace},
    DataW.trod enc P w base spare held fuel t cs = some x → ∃ a : α, d.K w a cs ∧ ((∀ n ∈ x.1.weights P t, n ≤ reachBytes) → ok a) ∧ bd a (Rows.uptoBulk x.1)
theorem OpensB.of {α : Type} {P : Program} {t : TypeId} {d : Kd α} {ok : α → Prop} (h : Opens P t d ok) : OpensB P t d ok (fun _ _ => True) :=
  ⟨h.cells, fun _ h => h, fun hx => by obtain ⟨a, h1, h2⟩ := h.get hx; exact ⟨a, h1, h2, trivial⟩⟩
theorem OpensB.weak {α : Type} {P : Program} {t : TypeId} {d : Kd α} {ok ok' : α → Prop} {bd bd' : α → Nat → Prop} (h : OpensB P t d ok bd) (hm : ∀ {a : α} {n m : Nat}, n ≤ m → bd' a n → bd' a m) (hk : ∀ a, ok a → ok' a) (hb : ∀ a n, bd a n → bd' a n) : OpensB P t d ok' bd' :=
  ⟨h.cells, hm, fun hx => by obtain ⟨a, h1, h2, h3⟩ := h.get hx; exact ⟨a, h1, fun hn => hk _ (h2 hn), hb _ _ h3⟩⟩
structure FieldsB {α : Type} (P : Program) (fs : List Field) (off : Nat) (d : Kd α) (ok : α → Prop) (bd : α → Nat → Prop) : Prop where
  mono : ∀ {a : α} {n m : Nat}, n ≤ m → bd a n → bd a m
  get : ∀ {H : Type} {enc : TypeId × Value → H} {w : World} {base : Nat} {spare : Nat → Bool} {held : Bool} {n : Nat} {cs : List Value} {xs : List (DataW H × List MemPlace)},
    xs.length = fs.length → off + d.sz ≤ cs.length →
    (∀ (i : Nat) (f : Field), fs[i]? = some f → DataW.trod enc P w base spare held n f.type ((cs.drop f.offset).take (P.cellsOf f.type)) = xs[i]?) →
    ∃ a : α, d.K w a ((cs.drop off).take d.sz) ∧ ((∀ n ∈ DataW.weightsEach P (fs.map (·.type)) (xs.map (·.1)), n ≤ reachBytes) → ok a) ∧ bd a (Rows.uptoBulkAll (xs.map (·.1)))
theorem FieldsB.one {α : Type} {P : Program} {f : Field} {d : Kd α} {ok : α → Prop} {bd : α → Nat → Prop} (h : OpensB P f.type d ok bd) : FieldsB P [f] f.offset d ok bd := by
  refine ⟨h.mono, ?_⟩
  intro H enc w base spare held n cs xs hl hs hx
  match xs, hl with
  | [x], _ =>
    have h0 := hx 0 f rfl
    rw [h.cells] at h0
    obtain ⟨a, ha, hk, hb⟩ := h.get h0
    refine ⟨a, ha, fun hw => hk (fun m hm => hw m ?_), h.mono ?_ hb⟩
    · simp only [List.map_cons, List.map_nil, DataW.weightsEach, List.append_nil]
      exact hm
    · simp only [List.map_cons, List.map_nil, Rows.uptoBulkAll]
      omega
theorem FieldsB.cons {α β : Type} {P : Program} {f : Field} {fs : List Field} {d : Kd α} {e : Kd β} {ok : α → Prop} {ok' : β → Prop} {bd : α → Nat → Prop} {bd' : β → Nat → Prop} (h : OpensB P f.type d ok bd) (hr : FieldsB P fs (f.offset + d.sz) e ok' bd') :
    FieldsB P (f :: fs) f.offset (Kd.pair d e) (fun x => ok x.1 ∧ ok' x.2) (fun x n => bd x.1 n ∧ bd' x.2 n) := by
  refine ⟨fun hn hb => ⟨h.mono hn hb.1, hr.mono hn hb.2⟩, ?_⟩
  intro H enc w base spare held n cs xs hl hs hx
  match xs, hl with
  | x :: xs, hl =>
    have h0 := hx 0 f rfl
    rw [h.cells] at h0
    obtain ⟨a, ha, hk, hb1⟩ := h.get h0
    have hs' : f.offset + (d.sz + e.sz) ≤ cs.length := hs
    obtain ⟨b, hb, hk', hb2⟩ := hr.get (n := n) (cs := cs) (xs := xs) (by simpa using hl) (by omega) (fun i g hg => by simpa using hx (i + 1) g (by simpa using hg))
    refine ⟨(a, b), ⟨_, _, ?_, ha, hb⟩, fun hw => ⟨hk (fun m hm => hw m ?_), hk' (fun m hm => hw m ?_)⟩, h.mono ?_ hb1, hr.mono ?_ hb2⟩
    · show (cs.drop f.offset).take (d.sz + e.sz) = _
      rw [List.take_add, List.drop_drop]
    · simp only [List.map_cons, DataW.weightsEach, List.mem_append]
      exact Or.inl hm
    · simp only [List.map_cons, DataW.weightsEach, List.mem_append]
      exact Or.inr hm
    · simp only [List.map_cons, Rows.uptoBulkAll]
      omega
    · simp only [List.map_cons, Rows.uptoBulkAll]
      omega
theorem OpensB.struct {α : Type} {P : Program} {t : TypeId} {fs : Array Field} {d : Kd α} {ok : α → Prop} {bd : α → Nat → Prop} (hu : P.underlying t = some (.struct fs)) (hc : P.cellsOf t = d.sz) (h : FieldsB P fs.toList 0 d ok bd) : OpensB P t d ok bd := by
  refine ⟨hc, h.mono, ?_⟩
  intro H enc w base spare held fuel cs x hx
  obtain ⟨xs, n, rfl, rfl, hl, hn, hel⟩ := DataW.trod_struct hu hx
  obtain ⟨a, ha, hk, hb⟩ := h.get (n := n) (cs := cs) (xs := xs) (by simpa using hn) (by omega) (fun i f hf => hel i f (by simpa using hf))
  refine ⟨a, ?_, fun hw => hk (fun m hm => hw m ?_), h.mono ?_ hb⟩
  · rw [List.drop_zero, ← hc, ← hl, List.take_length] at ha
    exact ha
  · simp only [DataW.weights, hu]
    exact hm
  · simp only [Rows.uptoBulk]
    omega
theorem bulk_mem {H : Type} {d : DataW H} {l : List (DataW H)} (h : d ∈ l) : Rows.uptoBulk d ≤ Rows.uptoBulkAll l := by
  induction l with
  | nil => cases h
  | cons x r ih =>
    simp only [Rows.uptoBulkAll]
    rcases List.mem_cons.1 h with h | h
    · subst h; omega
    · have := ih h; omega
theorem OpensB.slice {α : Type} {P : Program} {t e : TypeId} {d : Kd α} {ok : α → Prop} {bd : α → Nat → Prop} (B : Nat) (hu : P.underlying t = some (.slice e)) (hc : P.cellsOf t = 1) (hB : P.bytesOf e = B) (h : OpensB P e d ok bd) :
    OpensB P t (Kd.slice e d) (fun xs => xs.length * B ≤ reachBytes ∧ ∀ y ∈ xs, ok y) (fun xs n => xs.length ≤ n ∧ ∀ y ∈ xs, bd y n) := by
  subst hB
  refine ⟨hc, fun hn hb => ⟨Nat.le_trans hb.1 hn, fun y hy => h.mono hn (hb.2 y hy)⟩, ?_⟩
  intro H enc w base spare held fuel cs x hx
  rcases Deep.open_slice hu hx with ⟨rfl, rfl⟩ | ⟨a, len, cap, m, n, D, Pl, rfl, hb, hl, hm, hmm, rfl, hel⟩
  · exact ⟨[], ⟨none, 0, rfl, Nat.le_refl _, Kd.C_nil _ _⟩, fun _ => ⟨by simp, by simp⟩, by simp, by simp⟩
  · have hle : len ≤ m := by rw [hmm]; split <;> omega
    have key : ∀ i, i < len → ∃ (z : α), (∃ cs' : List Value, cs'.length = d.sz ∧ d.K w z cs' ∧ (∀ j u, cs'[j]? = some u → w.cell? (a.add (i * d.sz + j)) = some u)) ∧ ((∀ n ∈ (D i).weights P e, n ≤ reachBytes) → ok z) ∧ bd z (Rows.uptoBulk (D i)) := by
      intro i hi
      obtain ⟨cs', h1, h2⟩ := hel i (by omega)
      obtain ⟨z, hz, hk, hbz⟩ := h.get h2
      rw [h.cells] at h1
      obtain ⟨_, hlen, hcell⟩ := World.cells?_some h1
      refine ⟨z, ⟨cs', hlen, hz, fun j u hu => ?_⟩, hk, hbz⟩
      have hj : j < d.sz := by have := (List.getElem?_eq_some_iff.1 hu).1; omega
      rw [← Deep.add_add, hcell j hj]
      exact hu
    obtain ⟨zs, hlen, hf⟩ := exists_list key
    refine ⟨zs, ⟨some a, cap, by rw [hlen], by rw [hlen]; exact hl, ?_⟩, fun hw => ⟨?_, ?_⟩, ?_, ?_⟩
    · rw [hlen]
      refine ⟨hlen, by unfold maxLen at hm; omega, fun _ => ⟨a, rfl, fun j p hj => ?_⟩⟩
      obtain ⟨⟨c, h1, h2, h3⟩, _⟩ := hf j p hj
      exact ⟨c, h1, h2, h3⟩
    · have := hw ((len + (m - len)) * P.bytesOf e) (by simp [DataW.weights, hu])
      rw [hlen]
      exact Nat.le_trans (Nat.mul_le_mul_right _ (by omega)) this
    · intro y hy
      obtain ⟨i, hi, rfl⟩ := List.getElem_of_mem hy
      have hil : i < len := by omega
      obtain ⟨_, h4, _⟩ := hf i _ (List.getElem?_eq_getElem hi)
      refine h4 (fun q hq => hw q ?_)
      simp only [DataW.weights, hu, List.mem_cons, List.mem_append]
      exact Or.inr (Or.inl (weightsAll_mem (List.mem_map.2 ⟨i, by simpa using hil, rfl⟩) q hq))
    · have := Bulk.length_le ((List.range len).map D)
      simp only [List.length_map, List.length_range] at this
      simp only [Rows.uptoBulk]
      omega
    · intro y hy
      obtain ⟨i, hi, rfl⟩ := List.getElem_of_mem hy
      have hil : i < len := by omega
      obtain ⟨_, _, h5⟩ := hf i _ (List.getElem?_eq_getElem hi)
      refine h.mono ?_ h5
      have := bulk_mem (List.mem_map.2 ⟨i, by simpa using hil, rfl⟩ : D i ∈ (List.range len).map D)
      simp only [Rows.uptoBulk]
      omega
end Go.Proofs.Ytjijmikpoenbcaa.Open
