/- Heaps that are not there, that no call made, and by no order: [int,int]. Conditions: those that stand in each theorem. Written in this session. -/
import Derived.Test.YtibipbfmhbkpiaaHeapIID
import Derived.Test.YtibipbfmhbkpiaaHeapAl
namespace Go.Proofs.Ytibipbfmhbkpiaa.HeapII
open Go.RowKit Go.Proofs.YtibipbfmhbkpiaaW.PrintWords Go.Proofs.YtibipbfmhbkpiaaW.PrintLast Go.Proofs.YtibipbfmhbkpiaaW.PrintMore Go.Proofs.Ytibipbfmhbkpiaa.HeapW Go.Proofs.Ytibipbfmhbkpiaa.HeapP Go.Proofs.Ytibipbfmhbkpiaa.MapAt
set_option linter.unusedVariables false
/-- a heap that takes nothing; e: what Put answers -/
inductive DeadH (w : World) : Value → Int → Prop
  | nil : DeadH w (.pointer none) 2
  | zero (g : Nat) (h : w.heap[g]? = some (.cells #[.nilFunc, .slice none 0 0, .map none, .int .i64 0] 79 (0, 0))) : DeadH w (.pointer (some ⟨g, 0, none⟩)) 2
  | less (g b : Nat) (h : w.heap[g]? = some (.cells #[.nilFunc, .slice none 0 0, .map (some b), .int .i64 0] 79 (0, 0))) (hm : MapAt encK okK w b (fun _ => none)) : DeadH w (.pointer (some ⟨g, 0, none⟩)) 1
theorem DeadH.below {w w' : World} {p : Value} {e : Int} (h : DeadH w p e) (hb : Below w.heap.size w w') : DeadH w' p e := by
  cases h with
  | nil => exact .nil
  | zero g h => exact .zero g ((hb.block _ (blk_lt h)).trans h)
  | less g b h hm => exact .less g b ((hb.block _ (blk_lt h)).trans h) (hm.move (hb.block _ hm.lt))
theorem look_nil (k : Int) (W : World) : (Instr.lookup 77 (.map none) (.int .i64 k) true).run Try.prog W = .ok (.tuple #[.int .i64 0, .bool false]) W := by kernel_rfl
set_option maxHeartbeats 8000000 in
set_option maxRecDepth 100000 in
theorem put_dead (p : Value) (e0 key rank : Int) (w : World) (h : DeadH w p e0) : Calls Try.prog 14 #[p, .int .i64 key, .int .i64 rank] w fun e w' => e = .returned (.int .i64 e0) ∧ w' = w := by
  have qm := eq_map
  have qf := eq_nilfunc
  cases h with
  | nil =>
    go_enter Try.func14, Try.ntmps14
    go_wp2
    go_ret
    exact ⟨rfl, rfl⟩
  | zero g h =>
    have hc2 : w.cell? ⟨g, 2, none⟩ = some (.map none) := (blk_cell h 2).trans rfl
    clear h
    go_enter Try.func14, Try.ntmps14
    go_wp2
    go_ret
    exact ⟨rfl, rfl⟩
  | less g b h hm =>
    have hc0 : w.cell? ⟨g, 0, none⟩ = some .nilFunc := (blk_cell h 0).trans rfl
    have hc2 : w.cell? ⟨g, 2, none⟩ = some (.map (some b)) := (blk_cell h 2).trans rfl
    clear h hm
    go_enter Try.func14, Try.ntmps14
    go_wp2
    go_ret
    exact ⟨rfl, rfl⟩
set_option maxHeartbeats 8000000 in
set_option maxRecDepth 100000 in
theorem drop_dead (p : Value) (e0 key : Int) (w : World) (hk : okK key) (h : DeadH w p e0) : Calls Try.prog 20 #[p, .int .i64 key] w fun e w' => e = .returned (.bool false) ∧ w' = w := by
  cases h with
  | nil =>
    go_enter Try.func20, Try.ntmps20
    go_wp2
    go_ret
    exact ⟨rfl, rfl⟩
  | zero g h =>
    have hc2 : w.cell? ⟨g, 2, none⟩ = some (.map none) := (blk_cell h 2).trans rfl
    have ql := look_nil key w
    clear h
    go_enter Try.func20, Try.ntmps20
    go_wp2
    go_ret
    exact ⟨rfl, rfl⟩
  | less g b h hm =>
    have hc2 : w.cell? ⟨g, 2, none⟩ = some (.map (some b)) := (blk_cell h 2).trans rfl
    have ql := hm.look keyLaw Try.underlying77 (zero_int w) hk
    unfold encK at ql
    simp only [Option.getD_none, Option.isSome_none] at ql
    clear h hm
    go_enter Try.func20, Try.ntmps20
    go_wp2
    go_ret
    exact ⟨rfl, rfl⟩
set_option maxHeartbeats 8000000 in
set_option maxRecDepth 100000 in
theorem rank_dead (p : Value) (e0 key : Int) (w : World) (hk : okK key) (h : DeadH w p e0) : Calls Try.prog 22 #[p, .int .i64 key] w fun e w' => e = .returned (.tuple #[.int .i64 0, .bool false]) ∧ w' = w := by
  cases h with
  | nil =>
    go_enter Try.func22, Try.ntmps22
    go_wp2
    go_ret2
    exact ⟨rfl, rfl⟩
  | zero g h =>
    have hc2 : w.cell? ⟨g, 2, none⟩ = some (.map none) := (blk_cell h 2).trans rfl
    have ql := look_nil key w
    clear h
    go_enter Try.func22, Try.ntmps22
    go_wp2
    go_ret2
    exact ⟨rfl, rfl⟩
  | less g b h hm =>
    have hc2 : w.cell? ⟨g, 2, none⟩ = some (.map (some b)) := (blk_cell h 2).trans rfl
    have ql := hm.look keyLaw Try.underlying77 (zero_int w) hk
    unfold encK at ql
    simp only [Option.getD_none, Option.isSome_none] at ql
    clear h hm
    go_enter Try.func22, Try.ntmps22
    go_wp2
    go_ret2
    exact ⟨rfl, rfl⟩
set_option maxHeartbeats 8000000 in
set_option maxRecDepth 100000 in
theorem len_dead (p : Value) (e0 : Int) (w : World) (h : DeadH w p e0) : Calls Try.prog 16 #[p] w fun e w' => e = .returned (.int .i64 0) ∧ w' = w := by
  cases h with
  | nil =>
    go_enter Try.func16, Try.ntmps16
    go_wp2
    go_ret
    exact ⟨rfl, rfl⟩
  | zero g h =>
    have hc1 : w.cell? ⟨g, 1, none⟩ = some (.slice none 0 0) := (blk_cell h 1).trans rfl
    clear h
    go_enter Try.func16, Try.ntmps16
    go_wp2
    go_ret
    exact ⟨rfl, rfl⟩
  | less g b h hm =>
    have hc1 : w.cell? ⟨g, 1, none⟩ = some (.slice none 0 0) := (blk_cell h 1).trans rfl
    clear h
    go_enter Try.func16, Try.ntmps16
    go_wp2
    go_ret
    exact ⟨rfl, rfl⟩
set_option maxHeartbeats 8000000 in
set_option maxRecDepth 100000 in
theorem first_dead (p : Value) (e0 : Int) (w : World) (h : DeadH w p e0) : Calls Try.prog 21 #[p] w fun e w' => e = .returned (.tuple #[.int .i64 0, .int .i64 0, .bool false]) ∧ w' = w := by
  have H := Aside0.mk h
  clear h
  go_enter Try.func21, Try.ntmps21
  go_wp2_with fail
  refine (len_dead p e0 w H.out).mono ?_
  rintro e w1 ⟨rfl, hw_⟩
  replace hw_ := hw_.symm
  subst hw_
  go_wp2
  go_ret3
  exact ⟨rfl, rfl⟩
set_option maxHeartbeats 8000000 in
set_option maxRecDepth 100000 in
theorem pop_dead (p : Value) (e0 : Int) (w : World) (h : DeadH w p e0) : Calls Try.prog 17 #[p] w fun e w' => e = .returned (.tuple #[.int .i64 0, .int .i64 0, .bool false]) ∧ w' = w := by
  have H := Aside0.mk h
  clear h
  go_enter Try.func17, Try.ntmps17
  go_wp2_with fail
  refine (first_dead p e0 w H.out).mono ?_
  rintro e w1 ⟨rfl, hw_⟩
  replace hw_ := hw_.symm
  subst hw_
  go_wp2
  go_ret3
  exact ⟨rfl, rfl⟩
end Go.Proofs.Ytibipbfmhbkpiaa.HeapII
