import Derived.Test.YtibipbfmhbkpiaaHeapNo
namespace Go.Proofs.Ytibipbfmhbkpiaa.HeapII
open Go.RowKit Go.Proofs.YtibipbfmhbkpiaaW.PrintWords Go.Proofs.YtibipbfmhbkpiaaW.PrintLast Go.Proofs.YtibipbfmhbkpiaaW.PrintMore Go.Proofs.Ytibipbfmhbkpiaa.HeapW Go.Proofs.Ytibipbfmhbkpiaa.HeapP Go.Proofs.Ytibipbfmhbkpiaa.MapAt
set_option linter.unusedVariables false
set_option maxHeartbeats 8000000 in
set_option maxRecDepth 100000 in
theorem new_nil (w : World) :
    Calls Try.prog 12 #[.nilFunc] w fun e w' => ∃ g, e = .returned (.pointer (some ⟨g, 0, none⟩)) ∧ DeadH w' (.pointer (some ⟨g, 0, none⟩)) 1 ∧ Below w.heap.size w w' := by
  have hmk : (Instr.makeMap 77 none).run Try.prog w = .ok (.map (some w.heap.size)) (w.alloc (.map #[] 0)) := rfl
  go_enter Try.func12, Try.ntmps12
  go_wp2
  go_ret
  have hb : Below w.heap.size w ((w.alloc (.map #[] 0)).alloc (.cells #[.nilFunc, .slice none 0 0, .map (some w.heap.size), .int .i64 0] 79)) := below_alloc (below_alloc (Below.refl _ _) _) _
  have hg : ((w.alloc (.map #[] 0)).alloc (.cells #[.nilFunc, .slice none 0 0, .map (some w.heap.size), .int .i64 0] 79)).heap[w.heap.size + 1]? = some (.cells #[.nilFunc, .slice none 0 0, .map (some w.heap.size), .int .i64 0] 79 (0, 0)) := by
    have := blk_new (w.alloc (.map #[] 0)) (.cells #[.nilFunc, .slice none 0 0, .map (some w.heap.size), .int .i64 0] 79)
    rwa [World.size_alloc] at this
  refine ⟨w.heap.size + 1, rfl, .less _ w.heap.size hg ?_, hb⟩
  refine (MapAt.none w encK okK).move ?_
  exact (below_alloc (Below.refl (w.alloc (.map #[] 0)).heap.size _) _).block _ (by rw [World.size_alloc]; omega)
end Go.Proofs.Ytibipbfmhbkpiaa.HeapII
