/- How an argument's part that is an array is told. No condition. -/
import Derived.Test.YtibipbfmhbkpiaaOpen
import Derived.Test.YtibipbfmhbkpiaaWArr
import Derived.OpenShut
namespace Go.Proofs.Ytibipbfmhbkpiaa.Open
open Go.RowKit Go.Proofs.YtibipbfmhbkpiaaW.PrintWords
set_option linter.unusedVariables false
theorem Opens.arr {α : Type} {P : Program} {t e : TypeId} {n : Nat} {d : Kd α} {ok : α → Prop} (hs : 0 < d.sz) (hu : P.underlying t = some (.array n e)) (hc : P.cellsOf t = n * d.sz) (h : Opens P e d ok) : Opens P t (Kd.arr n d hs) (fun xs => xs.length = n ∧ ∀ y ∈ xs, ok y) := by
  refine ⟨hc, ?_⟩
  intro H enc w base spare held fuel cs x hx
  obtain ⟨xs, m, rfl, rfl, hl, hn, hel⟩ := DataW.trod_array hu hx
  have key : ∀ i, i < n → ∃ z : α, d.K w z ((cs.drop (i * d.sz)).take d.sz) ∧ (∃ q, xs[i]? = some q ∧ ((∀ k ∈ q.1.weights P e, k ≤ reachBytes) → ok z)) := by
    intro i hi
    have h0 := hel i hi
    rw [h.cells] at h0
    obtain ⟨q, hq⟩ : ∃ q, xs[i]? = some q := ⟨_, List.getElem?_eq_getElem (by omega)⟩
    rw [hq] at h0
    obtain ⟨a, ha, hk⟩ := h.get h0
    exact ⟨a, ha, q, hq, hk⟩
  obtain ⟨zs, hlen, hf⟩ := exists_list key
  refine ⟨zs, ⟨hlen, ?_, fun j p hj => ?_⟩, fun hw => ⟨hlen, fun y hy => ?_⟩⟩
  · rw [hl, hc, hlen]
  · exact (hf j p hj).1
  · obtain ⟨i, hi, rfl⟩ := List.getElem_of_mem hy
    obtain ⟨_, q, hq, hk⟩ := hf i _ (List.getElem?_eq_getElem hi)
    refine hk (fun k hkm => hw k ?_)
    simp only [DataW.weights, hu]
    exact weightsAll_mem (List.mem_map.2 ⟨q, List.mem_of_getElem? hq, rfl⟩) k hkm
end Go.Proofs.Ytibipbfmhbkpiaa.Open
