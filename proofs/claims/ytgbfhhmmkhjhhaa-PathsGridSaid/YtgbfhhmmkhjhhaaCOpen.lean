/- How an argument that is read as data is told as a value of a printed kind (whole numbers, bools, slices, structs, one inside the other), with the bounds that the reach gives. No condition. Written in this session. -/
import Derived.Test.YtgbfhhmmkhjhhaaWWords
import Derived.ProofKit
import Derived.Deep.Slices
import Derived.SizedLaws
namespace Go.Proofs.Ytgbfhhmmkhjhhaa.Open
open Go.RowKit Go.Proofs.YtgbfhhmmkhjhhaaW.PrintWords
set_option linter.unusedVariables false

/-- type t is told as kind d; 'ok': what is known besides of what is told (of the reach's weights) -/
structure Opens {α : Type} (P : Program) (t : TypeId) (d : Kd α) (ok : α → Prop) : Prop where
  cells : P.cellsOf t = d.sz
  get : ∀ {H : Type} {enc : TypeId × Value → H} {w : World} {base : Nat} {spare : Nat → Bool} {held : Bool} {fuel : Nat} {cs : List Value} {x : DataW H × List MemPlace},
    DataW.trod enc P w base spare held fuel t cs = some x → ∃ a : α, d.K w a cs ∧ ((∀ n ∈ x.1.weights P t, n ≤ reachBytes) → ok a)

theorem Opens.int {P : Program} {t : TypeId} {k : IntKind} (hu : P.underlying t = some (.int k)) (hc : P.cellsOf t = 1) : Opens P t (Kd.int k) (fun a => (Lit.int k a).wf = true) := by
  refine ⟨hc, ?_⟩
  intro H enc w base spare held fuel cs x h
  obtain ⟨n, rfl, rfl, hw⟩ := DataW.trod_int hu h
  exact ⟨n, rfl, fun _ => hw⟩

theorem Opens.iso {α β : Type} {P : Program} {t : TypeId} {d : Kd α} {ok : α → Prop} (h : Opens P t d ok) (f : β → α) (g : α → β) (hfg : ∀ a, f (g a) = a) : Opens P t (Kd.iso d f) (fun b => ok (f b)) := by
  refine ⟨h.cells, ?_⟩
  intro H enc w base spare held fuel cs x hx
  obtain ⟨a, ha, hk⟩ := h.get hx
  exact ⟨g a, by show d.K w (f (g a)) cs; rw [hfg]; exact ha, fun hn => by show ok (f (g a)); rw [hfg]; exact hk hn⟩

theorem Opens.weak {α : Type} {P : Program} {t : TypeId} {d : Kd α} {ok ok' : α → Prop} (h : Opens P t d ok) (hk : ∀ a, ok a → ok' a) : Opens P t d ok' := by
  refine ⟨h.cells, ?_⟩
  intro H enc w base spare held fuel cs x hx
  obtain ⟨a, ha, h1⟩ := h.get hx
  exact ⟨a, ha, fun hn => hk _ (h1 hn)⟩

/-- fields from a place on -/
structure Fields {α : Type} (P : Program) (fs : List Field) (off : Nat) (d : Kd α) (ok : α → Prop) : Prop where
  get : ∀ {H : Type} {enc : TypeId × Value → H} {w : World} {base : Nat} {spare : Nat → Bool} {held : Bool} {n : Nat} {cs : List Value} {xs : List (DataW H × List MemPlace)},
    xs.length = fs.length → off + d.sz ≤ cs.length →
    (∀ (i : Nat) (f : Field), fs[i]? = some f → DataW.trod enc P w base spare held n f.type ((cs.drop f.offset).take (P.cellsOf f.type)) = xs[i]?) →
    ∃ a : α, d.K w a ((cs.drop off).take d.sz) ∧ ((∀ n ∈ DataW.weightsEach P (fs.map (·.type)) (xs.map (·.1)), n ≤ reachBytes) → ok a)

theorem Fields.one {α : Type} {P : Program} {f : Field} {d : Kd α} {ok : α → Prop} (h : Opens P f.type d ok) : Fields P [f] f.offset d ok := by
  refine ⟨?_⟩
  intro H enc w base spare held n cs xs hl hs hx
  match xs, hl with
  | [x], _ =>
    have h0 := hx 0 f rfl
    rw [h.cells] at h0
    obtain ⟨a, ha, hk⟩ := h.get h0
    refine ⟨a, ha, fun hw => hk (fun m hm => hw m ?_)⟩
    simp only [List.map_cons, List.map_nil, DataW.weightsEach, List.append_nil]
    exact hm

theorem Fields.cons {α β : Type} {P : Program} {f : Field} {fs : List Field} {d : Kd α} {e : Kd β} {ok : α → Prop} {ok' : β → Prop} (h : Opens P f.type d ok) (hr : Fields P fs (f.offset + d.sz) e ok') :
    Fields P (f :: fs) f.offset (Kd.pair d e) (fun x => ok x.1 ∧ ok' x.2) := by
  refine ⟨?_⟩
  intro H enc w base spare held n cs xs hl hs hx
  match xs, hl with
  | x :: xs, hl =>
    have h0 := hx 0 f rfl
    rw [h.cells] at h0
    obtain ⟨a, ha, hk⟩ := h.get h0
    have hs' : f.offset + (d.sz + e.sz) ≤ cs.length := hs
    obtain ⟨b, hb, hk'⟩ := hr.get (n := n) (cs := cs) (xs := xs) (by simpa using hl) (by omega) (fun i g hg => by simpa using hx (i + 1) g (by simpa using hg))
    refine ⟨(a, b), ⟨_, _, ?_, ha, hb⟩, fun hw => ⟨hk (fun m hm => hw m ?_), hk' (fun m hm => hw m ?_)⟩⟩
    · show (cs.drop f.offset).take (d.sz + e.sz) = _
      rw [List.take_add, List.drop_drop]
    · simp only [List.map_cons, DataW.weightsEach, List.mem_append]
      exact Or.inl hm
    · simp only [List.map_cons, DataW.weightsEach, List.mem_append]
      exact Or.inr hm

theorem Opens.struct {α : Type} {P : Program} {t : TypeId} {fs : Array Field} {d : Kd α} {ok : α → Prop} (hu : P.underlying t = some (.struct fs)) (hc : P.cellsOf t = d.sz) (h : Fields P fs.toList 0 d ok) : Opens P t d ok := by
  refine ⟨hc, ?_⟩
  intro H enc w base spare held fuel cs x hx
  obtain ⟨xs, n, rfl, rfl, hl, hn, hel⟩ := DataW.trod_struct hu hx
  obtain ⟨a, ha, hk⟩ := h.get (n := n) (cs := cs) (xs := xs) (by simpa using hn) (by omega) (fun i f hf => hel i f (by simpa using hf))
  refine ⟨a, ?_, fun hw => hk (fun m hm => hw m ?_)⟩
  · rw [List.drop_zero, ← hc, ← hl, List.take_length] at ha
    exact ha
  · simp only [DataW.weights, hu]
    exact hm

theorem weightsAll_mem {H : Type} {P : Program} {e : TypeId} : ∀ {l : List (DataW H)} {d : DataW H}, d ∈ l → ∀ n ∈ d.weights P e, n ∈ DataW.weightsAll P e l
  | y :: l, d, hd, n, hn => by
    simp only [DataW.weightsAll, List.mem_append]
    rcases List.mem_cons.1 hd with rfl | hd
    · exact Or.inl hn
    · exact Or.inr (weightsAll_mem hd n hn)

theorem exists_list {α : Type} {p : Nat → α → Prop} : ∀ {n : Nat}, (∀ i, i < n → ∃ x, p i x) → ∃ l : List α, l.length = n ∧ ∀ i x, l[i]? = some x → p i x
  | 0, _ => ⟨[], rfl, fun i x h => by simp at h⟩
  | n + 1, h => by
    obtain ⟨l, hl, hp⟩ := exists_list (n := n) (fun i hi => h i (by omega))
    obtain ⟨x, hx⟩ := h n (by omega)
    refine ⟨l ++ [x], by simp [hl], fun i y hy => ?_⟩
    by_cases hi : i < l.length
    · rw [List.getElem?_append_left hi] at hy
      exact hp i y hy
    · rw [List.getElem?_append_right (by omega)] at hy
      by_cases h0 : i = l.length
      · subst h0
        rw [Nat.sub_self] at hy
        have : x = y := by simpa using hy
        rw [← this, hl]
        exact hx
      · have : i - l.length = (i - l.length - 1) + 1 := by omega
        rw [this] at hy
        simp at hy
theorem Opens.slice {α : Type} {P : Program} {t e : TypeId} {d : Kd α} {ok : α → Prop} (B : Nat) (hu : P.underlying t = some (.slice e)) (hc : P.cellsOf t = 1) (hB : P.bytesOf e = B) (h : Opens P e d ok) :
    Opens P t (Kd.slice e d) (fun xs => xs.length * B ≤ reachBytes ∧ ∀ y ∈ xs, ok y) := by
  subst hB
  refine ⟨hc, ?_⟩
  intro H enc w base spare held fuel cs x hx
  rcases Deep.open_slice hu hx with ⟨rfl, rfl⟩ | ⟨a, len, cap, m, n, D, Pl, rfl, hb, hl, hm, hmm, rfl, hel⟩
  · exact ⟨[], ⟨none, 0, rfl, Nat.le_refl _, Kd.C_nil _ _⟩, fun _ => ⟨by simp, by simp⟩⟩
  · have hle : len ≤ m := by rw [hmm]; split <;> omega
    have key : ∀ i, i < len → ∃ (z : α) (cs' : List Value), cs'.length = d.sz ∧ d.K w z cs' ∧ (∀ j u, cs'[j]? = some u → w.cell? (a.add (i * d.sz + j)) = some u) ∧ ((∀ n ∈ (D i).weights P e, n ≤ reachBytes) → ok z) := by
      intro i hi
      obtain ⟨cs', h1, h2⟩ := hel i (by omega)
      obtain ⟨z, hz, hk⟩ := h.get h2
      rw [h.cells] at h1
      obtain ⟨_, hlen, hcell⟩ := World.cells?_some h1
      refine ⟨z, cs', hlen, hz, fun j u hu => ?_, hk⟩
      have hj : j < d.sz := by have := (List.getElem?_eq_some_iff.1 hu).1; omega
      rw [← Deep.add_add, hcell j hj]
      exact hu
    obtain ⟨zs, hlen, hf⟩ := exists_list key
    refine ⟨zs, ⟨some a, cap, by rw [hlen], by rw [hlen]; exact hl, ?_⟩, fun hw => ⟨?_, ?_⟩⟩
    · rw [hlen]
      refine ⟨hlen, by unfold maxLen at hm; omega, fun _ => ⟨a, rfl, fun j p hj => ?_⟩⟩
      obtain ⟨c, h1, h2, h3, _⟩ := hf j p hj
      exact ⟨c, h1, h2, h3⟩
    · have := hw ((len + (m - len)) * P.bytesOf e) (by simp [DataW.weights, hu])
      rw [hlen]
      exact Nat.le_trans (Nat.mul_le_mul_right _ (by omega)) this
    · intro y hy
      obtain ⟨i, hi, rfl⟩ := List.getElem_of_mem hy
      have hil : i < len := by omega
      obtain ⟨c, _, _, _, h4⟩ := hf i _ (List.getElem?_eq_getElem hi)
      refine h4 (fun q hq => hw q ?_)
      simp only [DataW.weights, hu, List.mem_cons, List.mem_append]
      exact Or.inr (Or.inl (weightsAll_mem (List.mem_map.2 ⟨i, by simpa using hil, rfl⟩) q hq))
end Go.Proofs.Ytgbfhhmmkhjhhaa.Open
