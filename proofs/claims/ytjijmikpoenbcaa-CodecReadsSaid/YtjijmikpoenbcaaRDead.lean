/- Readers that are not there, and such as nobody made: nothing is read. Written by wip/gen/rdead.py. -/
import Derived.Test.YtjijmikpoenbcaaThing
namespace Go.Proofs.Ytjijmikpoenbcaa.Codec
open Go.RowKit Go.Proofs.YtjijmikpoenbcaaW.PrintWords Go.Proofs.YtjijmikpoenbcaaW.PrintLast Go.Proofs.YtjijmikpoenbcaaW.PrintMore
set_option linter.unusedVariables false
set_option linter.unusedSimpArgs false
/-- a reader that is none, or one that nobody made -/
def DeadR (w : World) (p : Value) : Prop := p = .pointer none ∨ ∃ g, p = .pointer (some ⟨g, 0, none⟩) ∧ w.heap[g]? = some (.cells #[.slice none 0 0, .int .i64 0, .bool false] 65 (0, 0))
theorem DeadR.below {w w' : World} {p : Value} (h : DeadR w p) (hb : Below w.heap.size w w') : DeadR w' p := by
  rcases h with h | ⟨g, h, hk⟩
  · exact Or.inl h
  · exact Or.inr ⟨g, h, (hb.block _ (blk_lt hk)).trans hk⟩
set_option maxHeartbeats 8000000 in
set_option maxRecDepth 100000 in
theorem fail_dead (p : Value) (x : Int) (w : World) (h : DeadR w p) :
    Calls Try.prog 51 #[p, .int .i64 x] w fun e w' => e = .returned (.tuple #[]) ∧ w' = w := by
  rcases h with rfl | ⟨g, rfl, hk⟩
  · go_enter Try.func51, Try.ntmps51
    go_wp2
    go_end0
    exact ⟨rfl, rfl⟩
  · have hc0 : w.cell? ⟨g, 0, none⟩ = some (.slice none 0 0) := (blk_cell hk 0).trans rfl
    have hc1 : w.cell? ⟨g, 1, none⟩ = some (.int .i64 0) := (blk_cell hk 1).trans rfl
    have hc2 : w.cell? ⟨g, 2, none⟩ = some (.bool false) := (blk_cell hk 2).trans rfl
    clear hk
    go_enter Try.func51, Try.ntmps51
    go_wp2
    go_end0
    exact ⟨rfl, rfl⟩
set_option maxHeartbeats 8000000 in
set_option maxRecDepth 100000 in
theorem next_dead (p : Value) (n : Int) (w : World) (h : DeadR w p) :
    Calls Try.prog 52 #[p, .int .i64 n] w fun e w' => e = .returned (.slice none 0 0) ∧ w' = w := by
  rcases h with rfl | ⟨g, rfl, hk⟩
  · go_enter Try.func52, Try.ntmps52
    go_wp2
    go_ret
    exact ⟨rfl, rfl⟩
  · have hc0 : w.cell? ⟨g, 0, none⟩ = some (.slice none 0 0) := (blk_cell hk 0).trans rfl
    have hc1 : w.cell? ⟨g, 1, none⟩ = some (.int .i64 0) := (blk_cell hk 1).trans rfl
    have hc2 : w.cell? ⟨g, 2, none⟩ = some (.bool false) := (blk_cell hk 2).trans rfl
    clear hk
    go_enter Try.func52, Try.ntmps52
    go_wp2
    go_ret
    exact ⟨rfl, rfl⟩
set_option maxHeartbeats 8000000 in
set_option maxRecDepth 100000 in
theorem rLeft_dead (p : Value)  (w : World) (h : DeadR w p) :
    Calls Try.prog 27 #[p] w fun e w' => e = .returned (.int .i64 0) ∧ w' = w := by
  rcases h with rfl | ⟨g, rfl, hk⟩
  · go_enter Try.func27, Try.ntmps27
    go_wp2
    go_ret
    exact ⟨rfl, rfl⟩
  · have hc0 : w.cell? ⟨g, 0, none⟩ = some (.slice none 0 0) := (blk_cell hk 0).trans rfl
    have hc1 : w.cell? ⟨g, 1, none⟩ = some (.int .i64 0) := (blk_cell hk 1).trans rfl
    have hc2 : w.cell? ⟨g, 2, none⟩ = some (.bool false) := (blk_cell hk 2).trans rfl
    clear hk
    go_enter Try.func27, Try.ntmps27
    go_wp2
    go_ret
    exact ⟨rfl, rfl⟩
set_option maxHeartbeats 8000000 in
set_option maxRecDepth 100000 in
theorem rEnd_dead (p : Value)  (w : World) (h : DeadR w p) :
    Calls Try.prog 28 #[p] w fun e w' => e = .returned (.int .i64 2) ∧ w' = w := by
  rcases h with rfl | ⟨g, rfl, hk⟩
  · go_enter Try.func28, Try.ntmps28
    go_wp2
    go_ret
    exact ⟨rfl, rfl⟩
  · have hc0 : w.cell? ⟨g, 0, none⟩ = some (.slice none 0 0) := (blk_cell hk 0).trans rfl
    have hc1 : w.cell? ⟨g, 1, none⟩ = some (.int .i64 0) := (blk_cell hk 1).trans rfl
    have hc2 : w.cell? ⟨g, 2, none⟩ = some (.bool false) := (blk_cell hk 2).trans rfl
    clear hk
    go_enter Try.func28, Try.ntmps28
    go_wp2
    go_ret
    exact ⟨rfl, rfl⟩
set_option maxHeartbeats 8000000 in
set_option maxRecDepth 100000 in
theorem rByte_dead (p : Value) (w : World) (h : DeadR w p) : Calls Try.prog 32 #[p] w fun e w' => e = .returned (.int .u8 0) ∧ w' = w := by
  have HD := Aside0.mk h
  clear h
  have q22 := eql_nil
  go_enter Try.func32, Try.ntmps32
  go_wp2_with fail
  refine (next_dead p 1 _ HD.out).mono ?_
  rintro e w' ⟨rfl, rfl⟩
  go_wp2
  go_ret
  exact ⟨rfl, rfl⟩
set_option maxHeartbeats 8000000 in
set_option maxRecDepth 100000 in
theorem rFixed_dead (p : Value) (wd : Int) (w : World) (h : DeadR w p) : Calls Try.prog 38 #[p, .int .i64 wd] w fun e w' => e = .returned (.int .u64 0) ∧ w' = w := by
  have HD := Aside0.mk h
  clear h
  by_cases hw : wd < 1 ∨ 8 < wd
  · rcases hw with hw | hw
    case' inr => have hw1 : ¬ wd < 1 := by omega
    all_goals
      go_enter Try.func38, Try.ntmps38
      go_wp2_with fail
      refine (fail_dead p 1 _ HD.out).mono ?_
      rintro e w1 ⟨rfl, rfl⟩
      go_wp2
      go_ret
      exact ⟨rfl, rfl⟩
  · have h1 : ¬ wd < 1 := by omega
    have h2 : ¬ 8 < wd := by omega
    clear hw
    go_enter Try.func38, Try.ntmps38
    go_wp2_with fail
    refine (next_dead p wd _ HD.out).mono ?_
    rintro e w1 ⟨rfl, rfl⟩
    go_wp2
    go_loopg [5, 20] 1 (fun kq v5 v20 wr => v20 = .int .i64 0 ∧ v5 = .int .u64 0 ∧ Aside0 (wr = w1))
    case atStart => exact ⟨rfl, rfl, ⟨rfl⟩⟩
    case round =>
      obtain ⟨rfl, rfl, HWW⟩ := hrel
      have hww := HWW.out
      subst hww
      clear HWW
      go_wp2
      go_ret
      exact ⟨rfl, rfl⟩
set_option maxHeartbeats 8000000 in
set_option maxRecDepth 100000 in
theorem number_dead (p : Value) (w : World) (h : DeadR w p) :
    Calls Try.prog 53 #[.func (.func 52) #[p] #[]] w fun e w' => e = .returned (.tuple #[.int .u64 0, .int .i64 20]) ∧ w' = w := by
  have HD := Aside0.mk h
  clear h
  have hcf := cf_next p
  have q22 := eql_nil
  go_enter Try.func53, Try.ntmps53
  go_wp2
  go_loopg [4, 5, 6, 7] 1 (fun kq v4 v5 v6 v7 wr => wr = w)
  case atStart => rfl
  case round =>
    subst hrel
    go_wp2_with fail
    refine (next_dead p 1 wr HD.out).mono ?_
    rintro e w1 ⟨rfl, rfl⟩
    go_wp2
    go_ret2
    exact ⟨rfl, rfl⟩
set_option maxHeartbeats 8000000 in
set_option maxRecDepth 100000 in
theorem rVar_dead (p : Value) (w : World) (h : DeadR w p) : Calls Try.prog 29 #[p] w fun e w' => e = .returned (.int .u64 0) ∧ w' = w := by
  have HD := Aside0.mk h
  clear h
  go_enter Try.func29, Try.ntmps29
  go_wp2_with fail
  refine (number_dead p _ HD.out).mono ?_
  rintro e w1 ⟨rfl, rfl⟩
  go_wp2_with fail
  refine (fail_dead p 20 _ HD.out).mono ?_
  rintro e w2 ⟨rfl, rfl⟩
  go_wp2
  go_ret
  exact ⟨rfl, rfl⟩
set_option maxHeartbeats 8000000 in
set_option maxRecDepth 100000 in
theorem rInt_dead (p : Value) (w : World) (h : DeadR w p) : Calls Try.prog 41 #[p] w fun e w' => e = .returned (.int .i64 0) ∧ w' = w := by
  have HD := Aside0.mk h
  clear h
  go_enter Try.func41, Try.ntmps41
  go_wp2_with fail
  refine (rVar_dead p _ HD.out).mono ?_
  rintro e w1 ⟨rfl, rfl⟩
  have hbk : bits .xor .i64 (wrap64 ((0 : Int) / 2)) (wrap64 (-wrap64 (bits .and .u64 (0 : Int) 1))) = 0 := by decide +kernel
  go_wp2
  go_ret
  exact ⟨congrArg (fun z => Ending.returned (.int .i64 z)) (show bits .xor .i64 0 (wrap64 (-wrap64 (bits .and .u64 0 1))) = 0 by decide +kernel), rfl⟩
set_option maxHeartbeats 8000000 in
set_option maxRecDepth 100000 in
theorem rID_dead (p : Value) (w : World) (h : DeadR w p) : Calls Try.prog 54 #[p] w fun e w' => e = .returned (.agg (nums .u8 (List.replicate 8 0)).toArray) ∧ Below w.heap.size w w' := by
  have HD := Aside0.mk (h.below (below_alloc (Below.refl w.heap.size w) (.cells #[Value.int .u8 0, Value.int .u8 0, Value.int .u8 0, Value.int .u8 0, Value.int .u8 0, Value.int .u8 0, Value.int .u8 0, Value.int .u8 0] 41)))
  clear h
  have q22 := eql_nil
  go_enter Try.func54, Try.ntmps54
  go_wp2_with fail
  refine (next_dead p 8 _ HD.out).mono ?_
  rintro e w1 ⟨rfl, hw⟩
  have hk : w1.heap[w.heap.size]? = some (.cells #[Value.int .u8 0, Value.int .u8 0, Value.int .u8 0, Value.int .u8 0, Value.int .u8 0, Value.int .u8 0, Value.int .u8 0, Value.int .u8 0] 41 (0, 0)) := by rw [hw]; exact blk_new w _
  have HB1 : Aside0 (Below w.heap.size w w1) := ⟨by rw [hw]; exact below_alloc (Below.refl _ _) _⟩
  clear hw
  have hk0 : w1.cell? ⟨w.heap.size, 0, none⟩ = some (.int .u8 0) := (blk_cell hk 0).trans rfl
  have hf0 := blk_frozen hk 0
  have hk1 : w1.cell? ⟨w.heap.size, 1, none⟩ = some (.int .u8 0) := (blk_cell hk 1).trans rfl
  have hf1 := blk_frozen hk 1
  have hk2 : w1.cell? ⟨w.heap.size, 2, none⟩ = some (.int .u8 0) := (blk_cell hk 2).trans rfl
  have hf2 := blk_frozen hk 2
  have hk3 : w1.cell? ⟨w.heap.size, 3, none⟩ = some (.int .u8 0) := (blk_cell hk 3).trans rfl
  have hf3 := blk_frozen hk 3
  have hk4 : w1.cell? ⟨w.heap.size, 4, none⟩ = some (.int .u8 0) := (blk_cell hk 4).trans rfl
  have hf4 := blk_frozen hk 4
  have hk5 : w1.cell? ⟨w.heap.size, 5, none⟩ = some (.int .u8 0) := (blk_cell hk 5).trans rfl
  have hf5 := blk_frozen hk 5
  have hk6 : w1.cell? ⟨w.heap.size, 6, none⟩ = some (.int .u8 0) := (blk_cell hk 6).trans rfl
  have hf6 := blk_frozen hk 6
  have hk7 : w1.cell? ⟨w.heap.size, 7, none⟩ = some (.int .u8 0) := (blk_cell hk 7).trans rfl
  have hf7 := blk_frozen hk 7
  have HK1 := Aside0.mk hk
  clear hk
  go_wp2
  have HS := set8 HK1.out (.int .u8 0) (.int .u8 0) (.int .u8 0) (.int .u8 0) (.int .u8 0) (.int .u8 0) (.int .u8 0) (.int .u8 0)
  refine bodyPost_ret (results_cell_row rfl _ _ w.heap.size 41 _ (0, 0) _ rfl HS.1 Try.underlying41 rfl (by kernel_rfl)) rfl ?_
  exact ⟨rfl, HB1.out.trans (HS.2.below HB1.out.size (fun k hk => by have e : k = w.heap.size := hk; omega))⟩
set_option maxHeartbeats 8000000 in
set_option maxRecDepth 100000 in
theorem rPoint_dead (p : Value) (w : World) (h : DeadR w p) : Calls Try.prog 55 #[p] w fun e w' => e = .returned (.agg #[.int .i16 0, .int .i16 0]) ∧ Below w.heap.size w w' := by
  have HD := Aside0.mk (h.below (below_alloc (Below.refl w.heap.size w) (.cells #[Value.int .i16 0, Value.int .i16 0] 44)))
  clear h
  have q22 := eql_nil
  go_enter Try.func55, Try.ntmps55
  go_wp2_with fail
  refine (next_dead p 4 _ HD.out).mono ?_
  rintro e w1 ⟨rfl, hw⟩
  have hk : w1.heap[w.heap.size]? = some (.cells #[Value.int .i16 0, Value.int .i16 0] 44 (0, 0)) := by rw [hw]; exact blk_new w _
  have HB1 : Aside0 (Below w.heap.size w w1) := ⟨by rw [hw]; exact below_alloc (Below.refl _ _) _⟩
  clear hw
  have hk0 : w1.cell? ⟨w.heap.size, 0, none⟩ = some (.int .i16 0) := (blk_cell hk 0).trans rfl
  have hk1 : w1.cell? ⟨w.heap.size, 1, none⟩ = some (.int .i16 0) := (blk_cell hk 1).trans rfl
  have hf0 := blk_frozen hk 0
  have hf1 := blk_frozen hk 1
  have HK1 := Aside0.mk hk
  clear hk
  go_wp2
  refine bodyPost_ret (results_cell_row rfl _ _ w.heap.size 44 _ (0, 0) _ rfl (blk_put (blk_put HK1.out 0 _ rfl) 1 _ rfl) Try.underlying44 rfl (by kernel_rfl)) rfl ?_
  exact ⟨rfl, below_set (below_set HB1.out (Nat.le_refl _)) (Nat.le_refl _)⟩
set_option maxHeartbeats 8000000 in
set_option maxRecDepth 100000 in
theorem rText_dead (p : Value) (most : Int) (hmost : most ≤ 9223372036854775807) (w : World) (h : DeadR w p) : Calls Try.prog 26 #[p, .int .i64 most] w fun e w' => e = .returned (.string ByteArray.empty) ∧ w' = w := by
  have HD := Aside0.mk h
  have hd := h
  clear h
  by_cases hm : most < 0
  · go_enter Try.func26, Try.ntmps26
    go_wp2_with fail
    refine (fail_dead p 1 _ HD.out).mono ?_
    rintro e w1 ⟨rfl, rfl⟩
    go_wp2
    go_ret
    exact ⟨rfl, rfl⟩
  · obtain ⟨M, hM⟩ := Int.eq_ofNat_of_zero_le (show 0 ≤ most by omega)
    subst hM
    have hw1 : IntKind.u64.wrap (M : Int) = (M : Int) := wrap_u64_nonneg (by omega) (by omega)
    rcases hd with rfl | ⟨g, rfl, hk⟩
    · go_enter Try.func26, Try.ntmps26
      go_wp2_with fail
      refine (rVar_dead _ _ HD.out).mono ?_
      rintro e w1 ⟨rfl, rfl⟩
      go_wp2_with fail
      refine (fail_dead _ 20 _ HD.out).mono ?_
      rintro e w2 ⟨rfl, rfl⟩
      go_wp2
      go_ret
      exact ⟨rfl, rfl⟩
    · have hc0 : w.cell? ⟨g, 0, none⟩ = some (.slice none 0 0) := (blk_cell hk 0).trans rfl
      clear hk
      go_enter Try.func26, Try.ntmps26
      go_wp2_with fail
      refine (rVar_dead _ _ HD.out).mono ?_
      rintro e w1 ⟨rfl, rfl⟩
      go_wp2_with fail
      refine (next_dead _ 0 _ HD.out).mono ?_
      rintro e w2 ⟨rfl, rfl⟩
      have hcv : (convert 22 9 (.slice none 0 0)).run Try.prog w2 = .ok (.string ByteArray.empty) w2 := conv_text (w := w2) (A := none) (bs := []) 0 (Kd.C_nil _ _)
      go_wp2
      go_ret
      exact ⟨rfl, rfl⟩
end Go.Proofs.Ytjijmikpoenbcaa.Codec
