/- The contract of the writer of texts. Conditions: those that stand in each theorem. Written in this session. -/
import Derived.Test.YtjijmikpoenbcaaCodecP
import Derived.Lib.AppendStr
namespace Go.Proofs.Ytjijmikpoenbcaa.Codec
open Go.RowKit Go.Proofs.YtjijmikpoenbcaaW.PrintWords Go.Proofs.YtjijmikpoenbcaaW.PrintLast Go.Proofs.YtjijmikpoenbcaaW.PrintMore
set_option linter.unusedVariables false
/-- where the row lies behind an append of a string: where it lay, or in a new block -/
theorem append_str_at {P : Program} (w : World) (base : Nat) (t u ty e : TypeId) (i : TypeInfo) (ht : P.underlying t = some (.slice e)) (hu : P.underlying u = some .string) (hi : P.info? e = some i) (hz : i.zero = some (.int .u8 0)) (hsize : i.size = 1) (hby : i.bytes = 1)
    (v : Value) (n : Nat) (xs : List Value) (hown : w.ownsRow base e 1 v n xs) (s : ByteArray) (h63 : n + s.size ≤ maxLen) (hbytes : n + s.size ≤ 140737488355328) (hbase : base ≤ w.heap.size) :
    ∃ v' w', (Builtin.append_ #[t, u] ty #[v, .string s]).run P w = .ok v' w' ∧ w'.ownsRow base e 1 v' (n + s.size) (xs ++ Lib.strCells s) ∧ w.grownBy w' v.ownBlock ∧ (∀ k, v'.ownBlock = some k → v.ownBlock = some k ∨ w.heap.size ≤ k) := by
  obtain ⟨v', w', hr, h2, h3, h4⟩ := Lib.run_append_own_string (P := P) w base t u ty e i ht hu hi hz hsize hby v n xs hown s h63 hbytes hbase
  refine ⟨v', w', hr, h2, h3, ?_⟩
  have hsmall : n + s.size ≤ 9223372036854775807 := by simp only [maxLen] at h63; omega
  have hxl : xs.length = n := by simpa using hown.1
  rcases hown.2 with ⟨rfl, rfl⟩ | ⟨g, cap, cur, rfl, hbg, hg, hnc, hcm, hcs, htake⟩
  · by_cases hm : s.size = 0
    · obtain rfl := h4.2 ⟨rfl, hm⟩
      intro k hk
      cases hk
    · have hq := run_append_nil_string (P := P) w t u ty e i (.int .u8 0) ht hu hi hz s (by omega) (by omega) (by rw [hby]; omega)
      rw [hr] at hq
      simp only [Result.ok.injEq] at hq
      rw [hq.1]
      intro k hk
      simp only [Value.ownBlock, Option.some.injEq] at hk
      exact Or.inr (by omega)
  · by_cases hroom : n + s.size ≤ cap
    · have hcs' : cur.size = cap := by simpa using hcs
      have hq := Lib.run_append_room_string (P := P) w t u ty e i ht hu hi hsize g n cap cur hg s hroom (by omega)
      rw [hr] at hq
      simp only [Result.ok.injEq] at hq
      rw [hq.1]
      intro k hk
      exact Or.inl hk
    · have holds : ∀ j u, xs[j]? = some u → w.cell? ((⟨g, 0, none⟩ : Addr).add j) = some u := hown.cells (g := g) rfl
      have hq := Lib.run_append_grow_string (P := P) w t u ty e i (.int .u8 0) ht hu hi hz ⟨g, 0, none⟩ n cap xs (by rw [hsize]; simpa using hxl) holds s (by omega) (by omega) (by rw [hby]; exact growslice_fits (by omega) (by omega))
      rw [hr] at hq
      simp only [Result.ok.injEq] at hq
      rw [hq.1]
      intro k hk
      simp only [Value.ownBlock, Option.some.injEq] at hk
      exact Or.inr (by omega)
theorem wp_append_str_at {P : Program} (w : World) {ops : Array Oper} {rest : List Oper} {o : Oper} {a : Act} {Q : Exit → Act → World → Prop} (hgd : o.guard = none) (sl x : Operand) (t u : TypeId)
    (ho : o.op = .call { callee := .builtin .append, args := #[sl, x], argTypes := #[t, u] })
    (base : Nat) (e : TypeId) (i : TypeInfo) (ht : P.underlying t = some (.slice e)) (hu : P.underlying u = some .string) (hi : P.info? e = some i) (hz : i.zero = some (.int .u8 0)) (hsize : i.size = 1) (hby : i.bytes = 1)
    (v : Value) (n : Nat) (xs : List Value) (hs : a.eval sl = v) (hown : w.ownsRow base e 1 v n xs) (s : ByteArray) (hx : a.eval x = .string s)
    (h63 : n + s.size ≤ maxLen) (hbytes : n + s.size ≤ 140737488355328) (hbase : base ≤ w.heap.size)
    (h : ∀ v' w', w'.ownsRow base e 1 v' (n + s.size) (xs ++ Lib.strCells s) → w.grownBy w' v.ownBlock → (∀ k, v'.ownBlock = some k → v.ownBlock = some k ∨ w.heap.size ≤ k) → wpList P ops Q rest (a.put o.dst v') w') : wpList P ops Q (o :: rest) a w := by
  refine wpList_plain hgd fun K hK => ?_
  obtain ⟨v', w', hr, h2, h3, h4⟩ := append_str_at (P := P) w base t u o.type e i ht hu hi hz hsize hby v n xs hown s h63 hbytes hbase
  unfold Oper.wp execOp
  simp only [ho, resolve, invoke, builtin, Sem.run_bind, Sem.run_pure, Result.andThen_ok, List.map_toArray, List.map_cons, List.map_nil, hs, hx, hr]
  exact hK _ _ (h v' w' h2 h3 h4)
set_option maxHeartbeats 8000000 in
set_option maxRecDepth 100000 in
theorem wText_calls (base g : Nat) (v : Value) (l : List Int) (s : ByteArray) (w : World) (hw : WAt w base g v l) (hb : base ≤ w.heap.size) (hlen : l.length + 11 + s.size ≤ 140737488355328) :
    Calls Try.prog 49 #[.pointer (some ⟨g, 0, none⟩), .string s] w fun e w' => e = .returned (.tuple #[]) ∧ Wrote base g v (l ++ varB s.size ++ bytesOf s) w w' := by
  have HV := Aside0.mk (wVar_calls base g v l s.size w hw hb (by omega) (by omega))
  have HLEN := Aside0.mk hlen
  have HBASE := Aside0.mk hb
  have hs64 : IntKind.u64.wrap (s.size : Int) = (s.size : Int) := wrap_u64_nonneg (by omega) (by omega)
  have hvl := varB_len (n := s.size) (by omega)
  have HVL := Aside0.mk hvl
  clear hw hb hlen hvl
  obtain ⟨i0, hi, hz0, hz1, hz2⟩ := info_parts u8info
  go_enter Try.func49, Try.ntmps49
  go_wp2_with fail
  refine HV.out.mono ?_
  rintro e w1 ⟨rfl, v1, h1, h2, h3⟩
  have HW := Aside0.mk h1
  have HM := Aside0.mk h2
  have HC := Aside0.mk h3
  have hc0 : w1.cell? ⟨g, 0, none⟩ = some v1 := (blk_cell h1.blk 0).trans rfl
  have hc1 : w1.cell? ⟨g, 1, none⟩ = some (.bool true) := (blk_cell h1.blk 1).trans rfl
  have hf0 := blk_frozen h1.blk 0
  clear h1 h2 h3
  go_wp2_with (at_builtin; refine wp_append_str_at _ rfl _ _ 22 9 rfl base 5 i0 Try.underlying22 Try.underlying9 hi hz0 hz1 hz2 v1 (l ++ varB s.size).length (nums .u8 (l ++ varB s.size)) rfl HW.out.own s rfl (by have := HLEN.out; have := HVL.out; unfold maxLen; simp only [List.length_append]; omega) (by have := HLEN.out; have := HVL.out; simp only [List.length_append]; omega) (by have := HBASE.out; have := HC.out.size; omega) ?_)
  intro v' w2 hown hgrow hloc
  obtain ⟨A', c', rfl⟩ := own_slice hown
  have HO := Aside0.mk hown
  have HG := Aside0.mk hgrow
  have HL := Aside0.mk hloc
  clear hown hgrow hloc
  have hblk : w2.heap[g]? = some (.cells #[v1, .bool true] 36 (0, 0)) := blk_grown HW.out.blk HG.out (fun e => own_ne_writer HW.out e.symm)
  have hd0 : w2.cell? ⟨g, 0, none⟩ = some v1 := (blk_cell hblk 0).trans rfl
  have hf1 := blk_frozen hblk 0
  have HBLK := Aside0.mk hblk
  clear hblk hc0 hc1 hf0
  go_wp2
  go_end0
  have hne : some g ≠ (Value.slice A' (l.length + (varB s.size).length + s.size) c').ownBlock := fun e => by
    obtain ⟨cells, hc⟩ := own_typed HO.out g e.symm
    rw [HBLK.out] at hc
    simp at hc
  refine ⟨rfl, _, ⟨blk_put HBLK.out 0 _ rfl, ?_, HW.out.ge⟩, ?_, ?_⟩
  · have hl2 : (l ++ varB s.size ++ bytesOf s).length = (l ++ varB s.size).length + s.size := by rw [List.length_append, bytesOf_length]
    have hc : nums .u8 (l ++ varB s.size ++ bytesOf s) = nums .u8 (l ++ varB s.size) ++ Lib.strCells s := by
      rw [nums_append]
      congr 1
      simp [nums, bytesOf, Lib.strCells]
    rw [hl2, hc, List.length_append]
    exact own_setCell (p := ⟨g, 0, none⟩) HO.out hne _
  · exact Moved.trans HM.out (fun k hk => HL.out k hk) HC.out.size
  · refine Chg.setCell (F := fp g v) (p := ⟨g, 0, none⟩) (HC.out.then (Chg.of_grown HG.out) (fun k hk => ?_)) (Or.inl (Or.inl rfl)) _
    rcases HM.out k hk.symm with q | q
    · exact Or.inl (Or.inr q.symm)
    · exact Or.inr q
end Go.Proofs.Ytjijmikpoenbcaa.Codec
