/- The contract of rPoint, rID: values in a cell. Conditions: those that stand in each theorem. Written in this session. -/
import Derived.Test.YtjijmikpoenbcaaCodecT
namespace Go.Proofs.Ytjijmikpoenbcaa.Codec
open Go.RowKit Go.Proofs.YtjijmikpoenbcaaW.PrintWords Go.Proofs.YtjijmikpoenbcaaW.PrintLast Go.Proofs.YtjijmikpoenbcaaW.PrintMore
set_option linter.unusedVariables false
/-- two bytes as an int16 -/
def pairI (a b : Int) : Int := if a * 256 + b < 32768 then a * 256 + b else a * 256 + b - 65536
def pointR (l : List Int) (e : Int) : (Int × Int) × List Int × Int :=
  if e = 0 then (match l with | a :: b :: c :: d :: t => ((pairI a b, pairI c d), t, 0) | _ => ((0, 0), [], 20)) else ((0, 0), [], e)
theorem pair_bits (a b : Int) (ha0 : 0 ≤ a) (ha : a < 256) (hb0 : 0 ≤ b) (hb : b < 256) : IntKind.i16.wrap (bits .or .u16 (IntKind.u16.wrap (IntKind.u16.wrap a * 256)) (IntKind.u16.wrap b)) = pairI a b := by
  obtain ⟨m, rfl⟩ := Int.eq_ofNat_of_zero_le ha0
  obtain ⟨k, rfl⟩ := Int.eq_ofNat_of_zero_le hb0
  have e1 : IntKind.u16.wrap ((m : Int)) = (m : Int) := by rw [IntKind.wrap_u16]; omega
  have e2 : IntKind.u16.wrap ((k : Int)) = (k : Int) := by rw [IntKind.wrap_u16]; omega
  have e3 : IntKind.u16.wrap ((m : Int) * 256) = ((m * 256 : Nat) : Int) := by rw [IntKind.wrap_u16]; omega
  have e4 : m * 256 ||| k = m * 256 + k := by
    have h := Nat.two_pow_add_eq_or_of_lt (i := 8) (b := k) (by omega) m
    rw [Nat.mul_comm m 256]
    exact_mod_cast h.symm
  rw [e1, e2, e3, u16_or_nat _ _ (by omega) (by omega), e4]
  unfold pairI
  simp [IntKind.wrap, IntKind.bits, IntKind.signed]
  split <;> omega
theorem Chg.drew {F : Nat → Prop} {a w : World} (h : Chg F a w) : Chg F a w.drew := ⟨h.os, h.tape, h.output, h.size, h.block⟩
theorem Took.cells {base g : Nat} {v : Value} {l l0 : List Int} {e e0 : Int} {w w1 w2 : World} (hr : RAt w base g v l0 e0) (o : Obj) (h : Took base g v l e (w.alloc o) w1) (h2 : Chg (· = w.heap.size) w1 w2) : Took base g v l e w w2 := by
  obtain ⟨v', k1, k2, k3⟩ := h
  refine ⟨v', k1.keep h2 (fun k hk q => ?_), k2, ?_⟩
  · have q' : k = w.heap.size := q
    rcases hk with hk | hk
    · have := blk_lt hr.blk; omega
    · have := (hr.lt k (Or.inr (k2 k hk.symm).symm)).2; omega
  · refine Chg.then ((Chg.alloc (Chg.refl _ _) o).trans k3) h2 (fun i hi => Or.inr ?_)
    have q' : i = w.heap.size := hi
    omega
set_option maxHeartbeats 8000000 in
set_option maxRecDepth 100000 in
theorem rPoint_calls (base g : Nat) (v : Value) (l : List Int) (hby : IsBytes l) (e0 : Int) (w : World) (hr : RAt w base g v l e0) :
    Calls Try.prog 55 #[.pointer (some ⟨g, 0, none⟩)] w fun e w' => e = .returned (.agg #[.int .i16 (pointR l e0).1.1, .int .i16 (pointR l e0).1.2]) ∧ Took base g v (pointR l e0).2.1 (pointR l e0).2.2 w w' := by
  have HR := Aside0.mk hr
  have HBY := Aside0.mk hby
  clear hr hby
  have q22 := eql_nil
  have HCH : Aside0 (Chg (fun _ => False) w (w.alloc (.cells #[Value.int .i16 0, Value.int .i16 0] 44))) := ⟨Chg.alloc (Chg.refl _ _) _⟩
  have HK := Aside0.mk (HR.out.keep HCH.out (fun _ _ h => h))
  by_cases he : e0 = 0
  · subst he
    by_cases hl : l.length < 4
    · have e : pointR l 0 = ((0, 0), [], 20) := by
        match l, hl with
        | [], _ => rfl
        | [a], _ => rfl
        | [a, b], _ => rfl
        | [a, b, c], _ => rfl
      rw [e]
      clear e
      go_enter Try.func55, Try.ntmps55
      go_wp2_with fail
      refine (next_short base g v l 4 (by omega) _ HK.out).mono ?_
      rintro e w1 ⟨rfl, h⟩
      have H := Aside0.mk h
      have hk := (h.choose_spec.2.2).heap (blk_new w (.cells #[Value.int .i16 0, Value.int .i16 0] 44)) (by have := blk_lt HR.out.blk; omega)
      have hk0 : w1.cell? ⟨w.heap.size, 0, none⟩ = some (.int .i16 0) := (blk_cell hk 0).trans rfl
      have hk1 : w1.cell? ⟨w.heap.size, 1, none⟩ = some (.int .i16 0) := (blk_cell hk 1).trans rfl
      have hf0 := blk_frozen hk 0
      have hf1 := blk_frozen hk 1
      have HK1 := Aside0.mk hk
      clear h hk
      go_wp2
      refine bodyPost_ret (results_cell_row rfl _ _ w.heap.size 44 _ (0, 0) _ rfl (blk_put (blk_put HK1.out 0 _ rfl) 1 _ rfl) Try.underlying44 rfl (by kernel_rfl)) rfl ?_
      exact ⟨rfl, Took.cells HR.out _ H.out (Chg.setCell (F := (· = w.heap.size)) (Chg.setCell (F := (· = w.heap.size)) (Chg.refl _ _) (p := ⟨w.heap.size, 0, none⟩) (Or.inl rfl) _) (p := ⟨w.heap.size, 1, none⟩) (Or.inl rfl) _)⟩
    · obtain ⟨a, b, c, d, t, rfl⟩ : ∃ a b c d t, l = a :: b :: c :: d :: t := by
        match l, hl with
        | [], h => simp at h
        | [a], h => simp at h
        | [a, b], h => simp at h
        | [a, b, c], h => simp at h
        | a :: b :: c :: d :: t, _ => exact ⟨a, b, c, d, t, rfl⟩
      have e : pointR (a :: b :: c :: d :: t) 0 = ((pairI a b, pairI c d), t, 0) := rfl
      rw [e]
      clear e hl
      have ba := HBY.out a (by simp)
      have bb := HBY.out b (by simp)
      have bc := HBY.out c (by simp)
      have bd := HBY.out d (by simp)
      have HP1 := Aside0.mk (pair_bits a b ba.1 ba.2 bb.1 bb.2)
      have HP2 := Aside0.mk (pair_bits c d bc.1 bc.2 bd.1 bd.2)
      clear ba bb bc bd
      go_enter Try.func55, Try.ntmps55
      go_wp2_with fail
      refine (next_calls base g v (a :: b :: c :: d :: t) 4 (by simp) _ HK.out).mono ?_
      rintro e w1 ⟨⟨ad, cp, rfl, _, hcp, hC⟩, h⟩
      have H := Aside0.mk h
      have hk := (h.choose_spec.2.2).heap (blk_new w (.cells #[Value.int .i16 0, Value.int .i16 0] 44)) (by have := blk_lt HR.out.blk; omega)
      have hk0 : w1.cell? ⟨w.heap.size, 0, none⟩ = some (.int .i16 0) := (blk_cell hk 0).trans rfl
      have hk1 : w1.cell? ⟨w.heap.size, 1, none⟩ = some (.int .i16 0) := (blk_cell hk 1).trans rfl
      have hf0 := blk_frozen hk 0
      have hf1 := blk_frozen hk 1
      have HK1 := Aside0.mk hk
      have c0 : w1.cell? ad = some (.int .u8 a) := C_read hC 0 (by omega)
      have c1 : w1.cell? ⟨ad.block, ad.off + 1, none⟩ = some (.int .u8 b) := C_read hC 1 (by omega)
      have c2 : w1.cell? ⟨ad.block, ad.off + 2, none⟩ = some (.int .u8 c) := C_read hC 2 (by omega)
      have c3 : w1.cell? ⟨ad.block, ad.off + 3, none⟩ = some (.int .u8 d) := C_read hC 3 (by omega)
      clear h hk hC
      go_upto_region 4 with (fail)
      refine start_ (n := 24) (S := fun w' => w'.cell? ad = some (.int .u8 a) ∧ w'.cell? ⟨ad.block, ad.off + 1, none⟩ = some (.int .u8 b) ∧ w'.cell? ⟨ad.block, ad.off + 2, none⟩ = some (.int .u8 c) ∧ w'.cell? ⟨ad.block, ad.off + 3, none⟩ = some (.int .u8 d)) (ds := [23]) #[false, false, false, false, false, false, false, false, false, false, false, false, false, false, false, false, false, false, false, false, false, false, false, false] (by kernel_rfl) rfl rfl ⟨c0, c1, c2, c3⟩ (fun hHeld => ?_)
      refine pure_ (i := 0) (N := some 9) (v := ?_) (a' := ?_) #[true, false, false, false, false, false, false, false, false, false, false, false, false, false, false, false, false, false, false, false, false, false, false, false] rfl rfl (by kernel_rfl) (fun _ _ _ h => h) (Or.inl ⟨by rfl, ?_⟩) ?_ ?_
      rotate_left
      · intro w'
        go_simp
        with_reducible rfl
      rotate_left
      · simp only [Act.put, List.setIfInBounds_toArray, List.set_cons_zero, List.set_cons_succ]
        rfl
      refine pure_ (i := 1) (N := some 10) (v := ?_) (a' := ?_) #[true, true, false, false, false, false, false, false, false, false, false, false, false, false, false, false, false, false, false, false, false, false, false, false] rfl rfl (by kernel_rfl) (fun _ _ _ h => h) (Or.inl ⟨by rfl, ?_⟩) ?_ ?_
      rotate_left
      · intro w'
        go_simp
        with_reducible rfl
      rotate_left
      · simp only [Act.put, List.setIfInBounds_toArray, List.set_cons_zero, List.set_cons_succ]
        rfl
      refine take_ (i := 2) (N := some 11) (v := ?_) (a' := ?_) #[true, true, true, false, false, false, false, false, false, false, false, false, false, false, false, false, false, false, false, false, false, false, false, false] rfl rfl (by kernel_rfl) (fun _ _ _ h => h) (Or.inl ⟨by rfl, ?_⟩) hHeld ?_ ?_
      rotate_left
      · rintro w' ⟨s0, s1, s2, s3⟩
        go_simp
        with_reducible rfl
      rotate_left
      · simp only [Act.put, List.setIfInBounds_toArray, List.set_cons_zero, List.set_cons_succ]
        rfl
      refine pure_ (i := 3) (N := some 12) (v := ?_) (a' := ?_) #[true, true, true, true, false, false, false, false, false, false, false, false, false, false, false, false, false, false, false, false, false, false, false, false] rfl rfl (by kernel_rfl) (fun _ _ _ h => h) (Or.inl ⟨by rfl, ?_⟩) ?_ ?_
      rotate_left
      · intro w'
        go_simp
        with_reducible rfl
      rotate_left
      · simp only [Act.put, List.setIfInBounds_toArray, List.set_cons_zero, List.set_cons_succ]
        rfl
      refine pure_ (i := 4) (N := some 13) (v := ?_) (a' := ?_) #[true, true, true, true, true, false, false, false, false, false, false, false, false, false, false, false, false, false, false, false, false, false, false, false] rfl rfl (by kernel_rfl) (fun _ _ _ h => h) (Or.inl ⟨by rfl, ?_⟩) ?_ ?_
      rotate_left
      · intro w'
        go_simp
        with_reducible rfl
      rotate_left
      · simp only [Act.put, List.setIfInBounds_toArray, List.set_cons_zero, List.set_cons_succ]
        rfl
      refine pure_ (i := 5) (N := some 14) (v := ?_) (a' := ?_) #[true, true, true, true, true, true, false, false, false, false, false, false, false, false, false, false, false, false, false, false, false, false, false, false] rfl rfl (by kernel_rfl) (fun _ _ _ h => h) (Or.inl ⟨by rfl, ?_⟩) ?_ ?_
      rotate_left
      · intro w'
        go_simp
        with_reducible rfl
      rotate_left
      · simp only [Act.put, List.setIfInBounds_toArray, List.set_cons_zero, List.set_cons_succ]
        rfl
      refine pure_ (i := 6) (N := some 15) (v := ?_) (a' := ?_) #[true, true, true, true, true, true, true, false, false, false, false, false, false, false, false, false, false, false, false, false, false, false, false, false] rfl rfl (by kernel_rfl) (fun _ _ _ h => h) (Or.inl ⟨by rfl, ?_⟩) ?_ ?_
      rotate_left
      · intro w'
        go_simp
        with_reducible rfl
      rotate_left
      · simp only [Act.put, List.setIfInBounds_toArray, List.set_cons_zero, List.set_cons_succ]
        rfl
      refine take_ (i := 7) (N := some 16) (v := ?_) (a' := ?_) #[true, true, true, true, true, true, true, true, false, false, false, false, false, false, false, false, false, false, false, false, false, false, false, false] rfl rfl (by kernel_rfl) (fun _ _ _ h => h) (Or.inl ⟨by rfl, ?_⟩) hHeld ?_ ?_
      rotate_left
      · rintro w' ⟨s0, s1, s2, s3⟩
        go_simp
        with_reducible rfl
      rotate_left
      · simp only [Act.put, List.setIfInBounds_toArray, List.set_cons_zero, List.set_cons_succ]
        rfl
      refine pure_ (i := 8) (N := some 17) (v := ?_) (a' := ?_) #[true, true, true, true, true, true, true, true, true, false, false, false, false, false, false, false, false, false, false, false, false, false, false, false] rfl rfl (by kernel_rfl) (fun _ _ _ h => h) (Or.inl ⟨by rfl, ?_⟩) ?_ ?_
      rotate_left
      · intro w'
        go_simp
        with_reducible rfl
      rotate_left
      · simp only [Act.put, List.setIfInBounds_toArray, List.set_cons_zero, List.set_cons_succ]
        rfl
      refine pure_ (i := 9) (N := some 18) (v := ?_) (a' := ?_) #[true, true, true, true, true, true, true, true, true, true, false, false, false, false, false, false, false, false, false, false, false, false, false, false] rfl rfl (by kernel_rfl) (fun _ _ _ h => h) (Or.inl ⟨by rfl, ?_⟩) ?_ ?_
      rotate_left
      · intro w'
        go_simp
        with_reducible rfl
      rotate_left
      · simp only [Act.put, List.setIfInBounds_toArray, List.set_cons_zero, List.set_cons_succ]
        rfl
      refine pure_ (i := 10) (N := some 19) (v := ?_) (a' := ?_) #[true, true, true, true, true, true, true, true, true, true, true, false, false, false, false, false, false, false, false, false, false, false, false, false] rfl rfl (by kernel_rfl) (fun _ _ _ h => h) (Or.inl ⟨by rfl, ?_⟩) ?_ ?_
      rotate_left
      · intro w'
        go_simp
        with_reducible rfl
      rotate_left
      · simp only [Act.put, List.setIfInBounds_toArray, List.set_cons_zero, List.set_cons_succ]
        rfl
      refine pure_ (i := 11) (N := some 20) (v := ?_) (a' := ?_) #[true, true, true, true, true, true, true, true, true, true, true, true, false, false, false, false, false, false, false, false, false, false, false, false] rfl rfl (by kernel_rfl) (fun _ _ _ h => h) (Or.inl ⟨by rfl, ?_⟩) ?_ ?_
      rotate_left
      · intro w'
        go_simp
        with_reducible rfl
      rotate_left
      · simp only [Act.put, List.setIfInBounds_toArray, List.set_cons_zero, List.set_cons_succ]
        rfl
      refine pure_ (i := 12) (N := some 21) (v := ?_) (a' := ?_) #[true, true, true, true, true, true, true, true, true, true, true, true, true, false, false, false, false, false, false, false, false, false, false, false] rfl rfl (by kernel_rfl) (fun _ _ _ h => h) (Or.inl ⟨by rfl, ?_⟩) ?_ ?_
      rotate_left
      · intro w'
        go_simp
        with_reducible rfl
      rotate_left
      · simp only [Act.put, List.setIfInBounds_toArray, List.set_cons_zero, List.set_cons_succ]
        rfl
      refine take_ (i := 13) (N := some 22) (v := ?_) (a' := ?_) #[true, true, true, true, true, true, true, true, true, true, true, true, true, true, false, false, false, false, false, false, false, false, false, false] rfl rfl (by kernel_rfl) (fun _ _ _ h => h) (Or.inl ⟨by rfl, ?_⟩) hHeld ?_ ?_
      rotate_left
      · rintro w' ⟨s0, s1, s2, s3⟩
        go_simp
        with_reducible rfl
      rotate_left
      · simp only [Act.put, List.setIfInBounds_toArray, List.set_cons_zero, List.set_cons_succ]
        rfl
      refine pure_ (i := 14) (N := some 23) (v := ?_) (a' := ?_) #[true, true, true, true, true, true, true, true, true, true, true, true, true, true, true, false, false, false, false, false, false, false, false, false] rfl rfl (by kernel_rfl) (fun _ _ _ h => h) (Or.inl ⟨by rfl, ?_⟩) ?_ ?_
      rotate_left
      · intro w'
        go_simp
        with_reducible rfl
      rotate_left
      · simp only [Act.put, List.setIfInBounds_toArray, List.set_cons_zero, List.set_cons_succ]
        rfl
      refine pure_ (i := 15) (N := some 24) (v := ?_) (a' := ?_) #[true, true, true, true, true, true, true, true, true, true, true, true, true, true, true, true, false, false, false, false, false, false, false, false] rfl rfl (by kernel_rfl) (fun _ _ _ h => h) (Or.inl ⟨by rfl, ?_⟩) ?_ ?_
      rotate_left
      · intro w'
        go_simp
        with_reducible rfl
      rotate_left
      · simp only [Act.put, List.setIfInBounds_toArray, List.set_cons_zero, List.set_cons_succ]
        rfl
      refine pure_ (i := 16) (N := some 25) (v := ?_) (a' := ?_) #[true, true, true, true, true, true, true, true, true, true, true, true, true, true, true, true, true, false, false, false, false, false, false, false] rfl rfl (by kernel_rfl) (fun _ _ _ h => h) (Or.inl ⟨by rfl, ?_⟩) ?_ ?_
      rotate_left
      · intro w'
        go_simp
        with_reducible rfl
      rotate_left
      · simp only [Act.put, List.setIfInBounds_toArray, List.set_cons_zero, List.set_cons_succ]
        rfl
      refine pure_ (i := 17) (N := some 26) (v := ?_) (a' := ?_) #[true, true, true, true, true, true, true, true, true, true, true, true, true, true, true, true, true, true, false, false, false, false, false, false] rfl rfl (by kernel_rfl) (fun _ _ _ h => h) (Or.inl ⟨by rfl, ?_⟩) ?_ ?_
      rotate_left
      · intro w'
        go_simp
        with_reducible rfl
      rotate_left
      · simp only [Act.put, List.setIfInBounds_toArray, List.set_cons_zero, List.set_cons_succ]
        rfl
      refine take_ (i := 18) (N := some 27) (v := ?_) (a' := ?_) #[true, true, true, true, true, true, true, true, true, true, true, true, true, true, true, true, true, true, true, false, false, false, false, false] rfl rfl (by kernel_rfl) (fun _ _ _ h => h) (Or.inl ⟨by rfl, ?_⟩) hHeld ?_ ?_
      rotate_left
      · rintro w' ⟨s0, s1, s2, s3⟩
        go_simp
        with_reducible rfl
      rotate_left
      · simp only [Act.put, List.setIfInBounds_toArray, List.set_cons_zero, List.set_cons_succ]
        rfl
      refine pure_ (i := 19) (N := some 28) (v := ?_) (a' := ?_) #[true, true, true, true, true, true, true, true, true, true, true, true, true, true, true, true, true, true, true, true, false, false, false, false] rfl rfl (by kernel_rfl) (fun _ _ _ h => h) (Or.inl ⟨by rfl, ?_⟩) ?_ ?_
      rotate_left
      · intro w'
        go_simp
        with_reducible rfl
      rotate_left
      · simp only [Act.put, List.setIfInBounds_toArray, List.set_cons_zero, List.set_cons_succ]
        rfl
      refine pure_ (i := 20) (N := some 29) (v := ?_) (a' := ?_) #[true, true, true, true, true, true, true, true, true, true, true, true, true, true, true, true, true, true, true, true, true, false, false, false] rfl rfl (by kernel_rfl) (fun _ _ _ h => h) (Or.inl ⟨by rfl, ?_⟩) ?_ ?_
      rotate_left
      · intro w'
        go_simp
        with_reducible rfl
      rotate_left
      · simp only [Act.put, List.setIfInBounds_toArray, List.set_cons_zero, List.set_cons_succ]
        rfl
      refine pure_ (i := 21) (N := some 30) (v := ?_) (a' := ?_) #[true, true, true, true, true, true, true, true, true, true, true, true, true, true, true, true, true, true, true, true, true, true, false, false] rfl rfl (by kernel_rfl) (fun _ _ _ h => h) (Or.inl ⟨by rfl, ?_⟩) ?_ ?_
      rotate_left
      · intro w'
        go_simp
        with_reducible rfl
      rotate_left
      · simp only [Act.put, List.setIfInBounds_toArray, List.set_cons_zero, List.set_cons_succ]
        rfl
      refine pure_ (i := 22) (N := some 31) (v := ?_) (a' := ?_) #[true, true, true, true, true, true, true, true, true, true, true, true, true, true, true, true, true, true, true, true, true, true, true, false] rfl rfl (by kernel_rfl) (fun _ _ _ h => h) (Or.inl ⟨by rfl, ?_⟩) ?_ ?_
      rotate_left
      · intro w'
        go_simp
        with_reducible rfl
      rotate_left
      · simp only [Act.put, List.setIfInBounds_toArray, List.set_cons_zero, List.set_cons_succ]
        rfl
      refine last_ (i := 23) (N := none) #[true, true, true, true, true, true, true, true, true, true, true, true, true, true, true, true, true, true, true, true, true, true, true, true] rfl rfl (by kernel_rfl) (by decide) (fun K hK => ?_)
      refine skip_ (w1 := ?_) (by rfl) rfl ?_ ?_
      rotate_left
      · go_simp
        rfl
      refine hK.out _ _ ?_
      clear hK K
      refine done_ (by kernel_rfl) ?_
      go_wp2
      refine bodyPost_ret (results_cell_row rfl _ _ w.heap.size 44 _ (0, 0) _ rfl (blk_put (blk_put (blk_drew HK1.out) 0 _ rfl) 1 _ rfl) Try.underlying44 rfl (by kernel_rfl)) rfl ?_
      rw [HP1.out, HP2.out]
      exact ⟨rfl, Took.cells HR.out _ H.out (Chg.drew (Chg.setCell (F := (· = w.heap.size)) (Chg.setCell (F := (· = w.heap.size)) (Chg.refl _ _) (p := ⟨w.heap.size, 0, none⟩) (Or.inl rfl) _) (p := ⟨w.heap.size, 1, none⟩) (Or.inl rfl) _))⟩
  · have hl := HR.out.nil he
    subst hl
    have e : pointR [] e0 = ((0, 0), [], e0) := by simp [pointR, he]
    rw [e]
    have HE := Aside0.mk he
    clear e he
    go_enter Try.func55, Try.ntmps55
    go_wp2_with fail
    refine (next_fault base g v [] e0 4 HE.out _ HK.out).mono ?_
    rintro e w1 ⟨rfl, hw⟩
    have h : Took base g v [] e0 (w.alloc (.cells #[Value.int .i16 0, Value.int .i16 0] 44)) w1 := by rw [hw]; exact Took.refl HK.out
    clear hw
    have H := Aside0.mk h
    have hk := (h.choose_spec.2.2).heap (blk_new w (.cells #[Value.int .i16 0, Value.int .i16 0] 44)) (by have := blk_lt HR.out.blk; omega)
    have hk0 : w1.cell? ⟨w.heap.size, 0, none⟩ = some (.int .i16 0) := (blk_cell hk 0).trans rfl
    have hk1 : w1.cell? ⟨w.heap.size, 1, none⟩ = some (.int .i16 0) := (blk_cell hk 1).trans rfl
    have hf0 := blk_frozen hk 0
    have hf1 := blk_frozen hk 1
    have HK1 := Aside0.mk hk
    clear h hk
    go_wp2
    refine bodyPost_ret (results_cell_row rfl _ _ w.heap.size 44 _ (0, 0) _ rfl (blk_put (blk_put HK1.out 0 _ rfl) 1 _ rfl) Try.underlying44 rfl (by kernel_rfl)) rfl ?_
    exact ⟨rfl, Took.cells HR.out _ H.out (Chg.setCell (F := (· = w.heap.size)) (Chg.setCell (F := (· = w.heap.size)) (Chg.refl _ _) (p := ⟨w.heap.size, 0, none⟩) (Or.inl rfl) _) (p := ⟨w.heap.size, 1, none⟩) (Or.inl rfl) _)⟩
theorem bytes_at_t {w : World} {g : Nat} {l : List Int} {t : TypeId} {fr : Nat × Nat} (h : w.heap[g]? = some (.cells (nums .u8 l).toArray t fr)) (hl : l.length ≤ 9223372036854775807) : Kd.C (Kd.int .u8) w (some ⟨g, 0, none⟩) l.length l := by
  refine ⟨rfl, hl, fun _ => ⟨_, rfl, fun j p hj => ⟨[.int .u8 p], rfl, rfl, fun i u hu => ?_⟩⟩⟩
  match i, hu with
  | 0, hu =>
    simp at hu
    subst hu
    rw [add_plain, cell_of_row w g _ _ t fr h]
    have : j * (Kd.int .u8).sz + 0 = j := by show j * 1 + 0 = j; omega
    rw [this]
    simp [nums, hj]
theorem bytes_put_t (t : TypeId) (base g : Nat) (v : Value) (l ps : List Int) (w : World) (hw : WAt w base g v l) (hb : base ≤ w.heap.size) (hps : 0 < ps.length) (hlen : l.length + ps.length ≤ 140737488355328) :
    Calls Try.prog 50 #[.pointer (some ⟨g, 0, none⟩), .slice (some ⟨w.heap.size, 0, none⟩) ps.length ps.length] (w.alloc (.cells (nums .u8 ps).toArray t)) fun e w' => e = .returned (.tuple #[]) ∧ Wrote base g v (l ++ ps) w w' := by
  have hk : WAt (w.alloc (.cells (nums .u8 ps).toArray t)) base g v l := hw.keep (F := fun _ => False) (Chg.alloc (Chg.refl _ _) _) (fun _ _ h => h)
  refine (put_calls base g v l ⟨w.heap.size, 0, none⟩ ps.length ps _ hk (by rw [World.size_alloc]; omega) (bytes_at_t (blk_new w _) (by omega)) hps hlen).mono ?_
  rintro e w' ⟨rfl, h⟩
  exact ⟨rfl, Wrote.after (Chg.alloc (Chg.refl _ _) _) h⟩
set_option maxHeartbeats 8000000 in
set_option maxRecDepth 100000 in
theorem wID_calls (base g : Nat) (v : Value) (l ps : List Int) (h8 : ps.length = 8) (w : World) (hw : WAt w base g v l) (hb : base ≤ w.heap.size) (hlen : l.length + 8 ≤ 140737488355328) :
    Calls Try.prog 48 #[.pointer (some ⟨g, 0, none⟩), .agg (nums .u8 ps).toArray] w fun e w' => e = .returned (.tuple #[]) ∧ Wrote base g v (l ++ ps) w w' := by
  have HP := Aside0.mk (bytes_put_t 41 base g v l ps w hw hb (by omega) (by omega))
  clear hw hb hlen
  rw [h8] at HP
  go_enter Try.func48, Try.ntmps48
  go_wp2_with fail
  refine HP.out.mono ?_
  rintro e w' ⟨rfl, h⟩
  have H := Aside0.mk h
  clear h
  go_wp2
  go_end0
  exact ⟨rfl, H.out⟩
theorem set8 {w : World} {g : Nat} {t : TypeId} {y0 y1 y2 y3 y4 y5 y6 y7 : Value} (h : w.heap[g]? = some (.cells #[y0, y1, y2, y3, y4, y5, y6, y7] t (0, 0))) (x0 x1 x2 x3 x4 x5 x6 x7 : Value) :
    ((((((((w.setCell ⟨g, 0, none⟩ x0).setCell ⟨g, 1, none⟩ x1).setCell ⟨g, 2, none⟩ x2).setCell ⟨g, 3, none⟩ x3).setCell ⟨g, 4, none⟩ x4).setCell ⟨g, 5, none⟩ x5).setCell ⟨g, 6, none⟩ x6).setCell ⟨g, 7, none⟩ x7).heap[g]? = some (.cells #[x0, x1, x2, x3, x4, x5, x6, x7] t (0, 0)) ∧ Chg (· = g) w ((((((((w.setCell ⟨g, 0, none⟩ x0).setCell ⟨g, 1, none⟩ x1).setCell ⟨g, 2, none⟩ x2).setCell ⟨g, 3, none⟩ x3).setCell ⟨g, 4, none⟩ x4).setCell ⟨g, 5, none⟩ x5).setCell ⟨g, 6, none⟩ x6).setCell ⟨g, 7, none⟩ x7) := by
  have c0 : Chg (· = g) w w := Chg.refl _ _
  have h1 : ((w.setCell ⟨g, 0, none⟩ x0)).heap[g]? = some (.cells #[x0, y1, y2, y3, y4, y5, y6, y7] t (0, 0)) := blk_put h 0 x0 rfl
  have c1 : Chg (· = g) w ((w.setCell ⟨g, 0, none⟩ x0)) := Chg.setCell (F := (· = g)) c0 (p := ⟨g, 0, none⟩) (Or.inl rfl) x0
  generalize (w.setCell ⟨g, 0, none⟩ x0) = w1 at h1 c1 ⊢
  clear h c0
  have h2 : ((w1.setCell ⟨g, 1, none⟩ x1)).heap[g]? = some (.cells #[x0, x1, y2, y3, y4, y5, y6, y7] t (0, 0)) := blk_put h1 1 x1 rfl
  have c2 : Chg (· = g) w ((w1.setCell ⟨g, 1, none⟩ x1)) := Chg.setCell (F := (· = g)) c1 (p := ⟨g, 1, none⟩) (Or.inl rfl) x1
  generalize (w1.setCell ⟨g, 1, none⟩ x1) = w2 at h2 c2 ⊢
  clear h1 c1
  have h3 : ((w2.setCell ⟨g, 2, none⟩ x2)).heap[g]? = some (.cells #[x0, x1, x2, y3, y4, y5, y6, y7] t (0, 0)) := blk_put h2 2 x2 rfl
  have c3 : Chg (· = g) w ((w2.setCell ⟨g, 2, none⟩ x2)) := Chg.setCell (F := (· = g)) c2 (p := ⟨g, 2, none⟩) (Or.inl rfl) x2
  generalize (w2.setCell ⟨g, 2, none⟩ x2) = w3 at h3 c3 ⊢
  clear h2 c2
  have h4 : ((w3.setCell ⟨g, 3, none⟩ x3)).heap[g]? = some (.cells #[x0, x1, x2, x3, y4, y5, y6, y7] t (0, 0)) := blk_put h3 3 x3 rfl
  have c4 : Chg (· = g) w ((w3.setCell ⟨g, 3, none⟩ x3)) := Chg.setCell (F := (· = g)) c3 (p := ⟨g, 3, none⟩) (Or.inl rfl) x3
  generalize (w3.setCell ⟨g, 3, none⟩ x3) = w4 at h4 c4 ⊢
  clear h3 c3
  have h5 : ((w4.setCell ⟨g, 4, none⟩ x4)).heap[g]? = some (.cells #[x0, x1, x2, x3, x4, y5, y6, y7] t (0, 0)) := blk_put h4 4 x4 rfl
  have c5 : Chg (· = g) w ((w4.setCell ⟨g, 4, none⟩ x4)) := Chg.setCell (F := (· = g)) c4 (p := ⟨g, 4, none⟩) (Or.inl rfl) x4
  generalize (w4.setCell ⟨g, 4, none⟩ x4) = w5 at h5 c5 ⊢
  clear h4 c4
  have h6 : ((w5.setCell ⟨g, 5, none⟩ x5)).heap[g]? = some (.cells #[x0, x1, x2, x3, x4, x5, y6, y7] t (0, 0)) := blk_put h5 5 x5 rfl
  have c6 : Chg (· = g) w ((w5.setCell ⟨g, 5, none⟩ x5)) := Chg.setCell (F := (· = g)) c5 (p := ⟨g, 5, none⟩) (Or.inl rfl) x5
  generalize (w5.setCell ⟨g, 5, none⟩ x5) = w6 at h6 c6 ⊢
  clear h5 c5
  have h7 : ((w6.setCell ⟨g, 6, none⟩ x6)).heap[g]? = some (.cells #[x0, x1, x2, x3, x4, x5, x6, y7] t (0, 0)) := blk_put h6 6 x6 rfl
  have c7 : Chg (· = g) w ((w6.setCell ⟨g, 6, none⟩ x6)) := Chg.setCell (F := (· = g)) c6 (p := ⟨g, 6, none⟩) (Or.inl rfl) x6
  generalize (w6.setCell ⟨g, 6, none⟩ x6) = w7 at h7 c7 ⊢
  clear h6 c6
  have h8 : ((w7.setCell ⟨g, 7, none⟩ x7)).heap[g]? = some (.cells #[x0, x1, x2, x3, x4, x5, x6, x7] t (0, 0)) := blk_put h7 7 x7 rfl
  have c8 : Chg (· = g) w ((w7.setCell ⟨g, 7, none⟩ x7)) := Chg.setCell (F := (· = g)) c7 (p := ⟨g, 7, none⟩) (Or.inl rfl) x7
  generalize (w7.setCell ⟨g, 7, none⟩ x7) = w8 at h8 c8 ⊢
  clear h7 c7
  exact ⟨h8, c8⟩
theorem nums8 (l : List Int) (h : 8 ≤ l.length) : (nums .u8 (l.take 8)).toArray = #[Value.int .u8 (rd (l.take 8) 0), Value.int .u8 (rd (l.take 8) 1), Value.int .u8 (rd (l.take 8) 2), Value.int .u8 (rd (l.take 8) 3), Value.int .u8 (rd (l.take 8) 4), Value.int .u8 (rd (l.take 8) 5), Value.int .u8 (rd (l.take 8) 6), Value.int .u8 (rd (l.take 8) 7)] := by
  match l, h with
  | a :: b :: c :: d :: e :: f :: g :: i :: t, _ => rfl
def idR (l : List Int) (e : Int) : List Int × List Int × Int := if e = 0 then (if l.length < 8 then (List.replicate 8 0, [], 20) else (l.take 8, l.drop 8, 0)) else (List.replicate 8 0, [], e)
set_option maxHeartbeats 8000000 in
set_option maxRecDepth 100000 in
theorem rID_calls (base g : Nat) (v : Value) (l : List Int) (e0 : Int) (w : World) (hr : RAt w base g v l e0) :
    Calls Try.prog 54 #[.pointer (some ⟨g, 0, none⟩)] w fun e w' => e = .returned (.agg (nums .u8 (idR l e0).1).toArray) ∧ Took base g v (idR l e0).2.1 (idR l e0).2.2 w w' := by
  have HR := Aside0.mk hr
  clear hr
  have HCH : Aside0 (Chg (fun _ => False) w (w.alloc (.cells #[Value.int .u8 0, Value.int .u8 0, Value.int .u8 0, Value.int .u8 0, Value.int .u8 0, Value.int .u8 0, Value.int .u8 0, Value.int .u8 0] 41))) := ⟨Chg.alloc (Chg.refl _ _) _⟩
  have HK := Aside0.mk (HR.out.keep HCH.out (fun _ _ h => h))
  by_cases he : e0 = 0
  · subst he
    by_cases hl : l.length < 8
    · have e : idR l 0 = (List.replicate 8 0, [], 20) := by simp [idR, hl]
      rw [e]
      clear e
      go_enter Try.func54, Try.ntmps54
      go_wp2_with fail
      refine (next_short base g v l 8 (by omega) _ HK.out).mono ?_
      rintro e w1 ⟨rfl, h⟩
      have H := Aside0.mk h
      have hk := (h.choose_spec.2.2).heap (blk_new w (.cells #[Value.int .u8 0, Value.int .u8 0, Value.int .u8 0, Value.int .u8 0, Value.int .u8 0, Value.int .u8 0, Value.int .u8 0, Value.int .u8 0] 41)) (by have := blk_lt HR.out.blk; omega)
      have hk0 : w1.cell? ⟨w.heap.size, 0, none⟩ = some (.int .u8 0) := (blk_cell hk 0).trans rfl
      have hf0 := blk_frozen hk 0
      have hk1 : w1.cell? ⟨w.heap.size, 1, none⟩ = some (.int .u8 0) := (blk_cell hk 1).trans rfl
      have hf1 := blk_frozen hk 1
      have hk2 : w1.cell? ⟨w.heap.size, 2, none⟩ = some (.int .u8 0) := (blk_cell hk 2).trans rfl
      have hf2 := blk_frozen hk 2
      have hk3 : w1.cell? ⟨w.heap.size, 3, none⟩ = some (.int .u8 0) := (blk_cell hk 3).trans rfl
      have hf3 := blk_frozen hk 3
      have hk4 : w1.cell? ⟨w.heap.size, 4, none⟩ = some (.int .u8 0) := (blk_cell hk 4).trans rfl
      have hf4 := blk_frozen hk 4
      have hk5 : w1.cell? ⟨w.heap.size, 5, none⟩ = some (.int .u8 0) := (blk_cell hk 5).trans rfl
      have hf5 := blk_frozen hk 5
      have hk6 : w1.cell? ⟨w.heap.size, 6, none⟩ = some (.int .u8 0) := (blk_cell hk 6).trans rfl
      have hf6 := blk_frozen hk 6
      have hk7 : w1.cell? ⟨w.heap.size, 7, none⟩ = some (.int .u8 0) := (blk_cell hk 7).trans rfl
      have hf7 := blk_frozen hk 7
      have HK1 := Aside0.mk hk
      clear h hk
      go_wp2
      have HS := set8 HK1.out (.int .u8 0) (.int .u8 0) (.int .u8 0) (.int .u8 0) (.int .u8 0) (.int .u8 0) (.int .u8 0) (.int .u8 0)
      refine bodyPost_ret (results_cell_row rfl _ _ w.heap.size 41 _ (0, 0) _ rfl HS.1 Try.underlying41 rfl (by kernel_rfl)) rfl ?_
      exact ⟨rfl, Took.cells HR.out _ H.out HS.2⟩
    · have e : idR l 0 = (l.take 8, l.drop 8, 0) := by simp [idR, hl]
      rw [e]
      clear e
      go_enter Try.func54, Try.ntmps54
      go_wp2_with fail
      refine (next_calls base g v l 8 (by omega) _ HK.out).mono ?_
      rintro e w1 ⟨⟨ad, cp, rfl, _, hcp, hC⟩, h⟩
      have H := Aside0.mk h
      have hk := (h.choose_spec.2.2).heap (blk_new w (.cells #[Value.int .u8 0, Value.int .u8 0, Value.int .u8 0, Value.int .u8 0, Value.int .u8 0, Value.int .u8 0, Value.int .u8 0, Value.int .u8 0] 41)) (by have := blk_lt HR.out.blk; omega)
      have hk0 : w1.cell? ⟨w.heap.size, 0, none⟩ = some (.int .u8 0) := (blk_cell hk 0).trans rfl
      have hf0 := blk_frozen hk 0
      have hk1 : w1.cell? ⟨w.heap.size, 1, none⟩ = some (.int .u8 0) := (blk_cell hk 1).trans rfl
      have hf1 := blk_frozen hk 1
      have hk2 : w1.cell? ⟨w.heap.size, 2, none⟩ = some (.int .u8 0) := (blk_cell hk 2).trans rfl
      have hf2 := blk_frozen hk 2
      have hk3 : w1.cell? ⟨w.heap.size, 3, none⟩ = some (.int .u8 0) := (blk_cell hk 3).trans rfl
      have hf3 := blk_frozen hk 3
      have hk4 : w1.cell? ⟨w.heap.size, 4, none⟩ = some (.int .u8 0) := (blk_cell hk 4).trans rfl
      have hf4 := blk_frozen hk 4
      have hk5 : w1.cell? ⟨w.heap.size, 5, none⟩ = some (.int .u8 0) := (blk_cell hk 5).trans rfl
      have hf5 := blk_frozen hk 5
      have hk6 : w1.cell? ⟨w.heap.size, 6, none⟩ = some (.int .u8 0) := (blk_cell hk 6).trans rfl
      have hf6 := blk_frozen hk 6
      have hk7 : w1.cell? ⟨w.heap.size, 7, none⟩ = some (.int .u8 0) := (blk_cell hk 7).trans rfl
      have hf7 := blk_frozen hk 7
      have HK1 := Aside0.mk hk
      have c0 : w1.cell? ad = some (.int .u8 (rd (l.take 8) 0)) := C_read hC 0 (by omega)
      have c1 : w1.cell? ⟨ad.block, ad.off + 1, none⟩ = some (.int .u8 (rd (l.take 8) 1)) := C_read hC 1 (by omega)
      have c2 : w1.cell? ⟨ad.block, ad.off + 2, none⟩ = some (.int .u8 (rd (l.take 8) 2)) := C_read hC 2 (by omega)
      have c3 : w1.cell? ⟨ad.block, ad.off + 3, none⟩ = some (.int .u8 (rd (l.take 8) 3)) := C_read hC 3 (by omega)
      have c4 : w1.cell? ⟨ad.block, ad.off + 4, none⟩ = some (.int .u8 (rd (l.take 8) 4)) := C_read hC 4 (by omega)
      have c5 : w1.cell? ⟨ad.block, ad.off + 5, none⟩ = some (.int .u8 (rd (l.take 8) 5)) := C_read hC 5 (by omega)
      have c6 : w1.cell? ⟨ad.block, ad.off + 6, none⟩ = some (.int .u8 (rd (l.take 8) 6)) := C_read hC 6 (by omega)
      have c7 : w1.cell? ⟨ad.block, ad.off + 7, none⟩ = some (.int .u8 (rd (l.take 8) 7)) := C_read hC 7 (by omega)
      clear h hk hC
      have harr := fun (w : World) => run_arrayAt (P := Try.prog) w 41 5 8 (some ad) 8 cp Try.underlying41 (by decide)
      go_wp2
      have HS := set8 HK1.out (.int .u8 (rd (l.take 8) 0)) (.int .u8 (rd (l.take 8) 1)) (.int .u8 (rd (l.take 8) 2)) (.int .u8 (rd (l.take 8) 3)) (.int .u8 (rd (l.take 8) 4)) (.int .u8 (rd (l.take 8) 5)) (.int .u8 (rd (l.take 8) 6)) (.int .u8 (rd (l.take 8) 7))
      refine bodyPost_ret (results_cell_row rfl _ _ w.heap.size 41 _ (0, 0) _ rfl HS.1 Try.underlying41 rfl (by kernel_rfl)) rfl ?_
      exact ⟨by rw [nums8 l (by omega)], Took.cells HR.out _ H.out HS.2⟩
  · have hl := HR.out.nil he
    subst hl
    have e : idR [] e0 = (List.replicate 8 0, [], e0) := by simp [idR, he]
    rw [e]
    have HE := Aside0.mk he
    clear e he
    go_enter Try.func54, Try.ntmps54
    go_wp2_with fail
    refine (next_fault base g v [] e0 8 HE.out _ HK.out).mono ?_
    rintro e w1 ⟨rfl, hw⟩
    have h : Took base g v [] e0 (w.alloc (.cells #[Value.int .u8 0, Value.int .u8 0, Value.int .u8 0, Value.int .u8 0, Value.int .u8 0, Value.int .u8 0, Value.int .u8 0, Value.int .u8 0] 41)) w1 := by rw [hw]; exact Took.refl HK.out
    clear hw
    have H := Aside0.mk h
    have hk := (h.choose_spec.2.2).heap (blk_new w (.cells #[Value.int .u8 0, Value.int .u8 0, Value.int .u8 0, Value.int .u8 0, Value.int .u8 0, Value.int .u8 0, Value.int .u8 0, Value.int .u8 0] 41)) (by have := blk_lt HR.out.blk; omega)
    have hk0 : w1.cell? ⟨w.heap.size, 0, none⟩ = some (.int .u8 0) := (blk_cell hk 0).trans rfl
    have hf0 := blk_frozen hk 0
    have hk1 : w1.cell? ⟨w.heap.size, 1, none⟩ = some (.int .u8 0) := (blk_cell hk 1).trans rfl
    have hf1 := blk_frozen hk 1
    have hk2 : w1.cell? ⟨w.heap.size, 2, none⟩ = some (.int .u8 0) := (blk_cell hk 2).trans rfl
    have hf2 := blk_frozen hk 2
    have hk3 : w1.cell? ⟨w.heap.size, 3, none⟩ = some (.int .u8 0) := (blk_cell hk 3).trans rfl
    have hf3 := blk_frozen hk 3
    have hk4 : w1.cell? ⟨w.heap.size, 4, none⟩ = some (.int .u8 0) := (blk_cell hk 4).trans rfl
    have hf4 := blk_frozen hk 4
    have hk5 : w1.cell? ⟨w.heap.size, 5, none⟩ = some (.int .u8 0) := (blk_cell hk 5).trans rfl
    have hf5 := blk_frozen hk 5
    have hk6 : w1.cell? ⟨w.heap.size, 6, none⟩ = some (.int .u8 0) := (blk_cell hk 6).trans rfl
    have hf6 := blk_frozen hk 6
    have hk7 : w1.cell? ⟨w.heap.size, 7, none⟩ = some (.int .u8 0) := (blk_cell hk 7).trans rfl
    have hf7 := blk_frozen hk 7
    have HK1 := Aside0.mk hk
    clear h hk
    go_wp2
    have HS := set8 HK1.out (.int .u8 0) (.int .u8 0) (.int .u8 0) (.int .u8 0) (.int .u8 0) (.int .u8 0) (.int .u8 0) (.int .u8 0)
    refine bodyPost_ret (results_cell_row rfl _ _ w.heap.size 41 _ (0, 0) _ rfl HS.1 Try.underlying41 rfl (by kernel_rfl)) rfl ?_
    exact ⟨rfl, Took.cells HR.out _ H.out HS.2⟩
end Go.Proofs.Ytjijmikpoenbcaa.Codec
