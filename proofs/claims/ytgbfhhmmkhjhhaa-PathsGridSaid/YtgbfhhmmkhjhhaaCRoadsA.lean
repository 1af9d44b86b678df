/- Roads: their state; there, has, Nodes, New. Conditions: those that stand in each theorem. Written in session 5. -/
import Derived.Test.YtgbfhhmmkhjhhaaCHeapB
import Derived.Laws.Cover3
import Derived.Test.YtgbfhhmmkhjhhaaWWords
import Derived.Laws.CopyRow
import Derived.DeepKeys4
namespace Go.Proofs.Ytgbfhhmmkhjhhaa.Roads
open Go.RowKit Go.Proofs.YtgbfhhmmkhjhhaaW.PrintWords Go.Proofs.YtgbfhhmmkhjhhaaW.PrintLast Go.Proofs.YtgbfhhmmkhjhhaaW.PrintMore Go.Proofs.Ytgbfhhmmkhjhhaa.HeapW Go.Proofs.Ytgbfhhmmkhjhhaa.MapAt
set_option linter.unusedVariables false
set_option linter.unusedSimpArgs false
abbrev Pt := Int × Int
def kPt : Kd Pt := Kd.pair (Kd.int .i16) (Kd.int .i16)
/-- from, to, cost -/
abbrev Rd := Int × Int × Int
def kRd : Kd Rd := Kd.pair (Kd.int .i64) (Kd.pair (Kd.int .i64) (Kd.int .i64))
def encP (p : Pt) : Value := .agg #[.int .i16 p.1, .int .i16 p.2]
def okP (p : Pt) : Prop := (Lit.int .i16 p.1).wf = true ∧ (Lit.int .i16 p.2).wf = true
/-- a row's head: where, how long, how much room -/
abbrev Hd := Option Addr × Nat × Nat
def encH (h : Hd) : Value := .slice h.1 h.2.1 h.2.2
def kHd : Kd Hd := Kd.scalar encH (fun _ => rfl)
def idxP (ps : List Pt) (p : Pt) : Option Nat := ps.findIdx? (fun x => decide (x = p))
/-- roads: block g, the points ps (slice PA), the rows' heads hs (slice OA), by each node its roads, the map b -/
structure NetAt (w : World) (base g : Nat) (PA : Option Addr) (pc : Nat) (OA : Option Addr) (oc b : Nat) (ps : List Pt) (hs : List Hd) (out : List (List Rd)) : Prop where
  blk : w.heap[g]? = some (.cells #[.slice PA ps.length pc, .slice OA ps.length oc, .map (some b)] 72 (0, 0))
  pts : kPt.R 59 w base (fun _ => True) (.slice PA ps.length pc) ps
  ows : kHd.R 23 w base (fun _ => True) (.slice OA ps.length oc) hs
  rows : ∀ (j : Nat) (h : Hd) (l : List Rd), hs[j]? = some h → out[j]? = some l → h.2.1 = l.length ∧ kRd.R 40 w base (fun _ => True) (encH h) l
  len : hs.length = ps.length ∧ out.length = ps.length
  apart : ∀ (i j : Nat) (h k : Hd), i ≠ j → hs[i]? = some h → hs[j]? = some k → ∀ x, (encH h).ownBlock = some x → (encH k).ownBlock ≠ some x
  map : MapAt encP okP w b (idxP ps)
  ge : base ≤ g ∧ base ≤ b
  okp : ∀ p ∈ ps, okP p
  nodup : ps.Nodup
  most : ps.length ≤ 4096
  short : ∀ l ∈ out, l.length ≤ 4096
set_option maxHeartbeats 800000 in
theorem there_none (w : World) : Calls Try.prog 28 #[.pointer none] w fun e w' => e = .returned (.bool false) ∧ w' = w := by
  go_enter Try.func28, Try.ntmps28
  go_wp2
  go_ret
  exact ⟨rfl, rfl⟩
set_option maxRecDepth 100000 in
theorem neq_ptr (g : Nat) (W : World) : (binOp .neq 26 (.pointer (some ⟨g, 0, none⟩)) (.pointer none)).run Try.prog W = .ok (.bool true) W := by first | rfl | (simp [binOp]; done) | kernel_rfl
set_option maxRecDepth 100000 in
theorem neq_map (b : Nat) (W : World) : (binOp .neq 70 (.map (some b)) (.map none)).run Try.prog W = .ok (.bool true) W := by first | rfl | (simp [binOp]; done) | kernel_rfl
set_option maxRecDepth 100000 in
theorem neq_map0 (W : World) : (binOp .neq 70 (.map none) (.map none)).run Try.prog W = .ok (.bool false) W := by first | rfl | (simp [binOp]; done) | kernel_rfl
set_option maxHeartbeats 800000 in
theorem there_raw (g : Nat) (v0 v1 : Value) (m : Option Nat) (w : World) (h : w.heap[g]? = some (.cells #[v0, v1, .map m] 72 (0, 0))) : Calls Try.prog 28 #[.pointer (some ⟨g, 0, none⟩)] w fun e w' => e = .returned (.bool m.isSome) ∧ w' = w := by
  have H := Aside0.mk h
  have hc : w.cell? ⟨g, 2, none⟩ = some (.map m) := (blk_cell H.out 2).trans rfl
  have q1 := neq_ptr
  have q2 := neq_map
  have q3 := neq_map0
  clear h
  go_enter Try.func28, Try.ntmps28
  cases m with
  | none =>
    go_wp2
    go_ret
    exact ⟨rfl, rfl⟩
  | some b =>
    go_wp2
    go_ret
    exact ⟨rfl, rfl⟩
theorem NetAt.there {w : World} {base g : Nat} {PA : Option Addr} {pc : Nat} {OA : Option Addr} {oc b : Nat} {ps : List Pt} {hs : List Hd} {out : List (List Rd)} (h : NetAt w base g PA pc OA oc b ps hs out) : Calls Try.prog 28 #[.pointer (some ⟨g, 0, none⟩)] w fun e w' => e = .returned (.bool true) ∧ w' = w := there_raw g _ _ (some b) w h.blk
set_option maxHeartbeats 800000 in
theorem has_none (node : Int) (w : World) : Calls Try.prog 29 #[.pointer none, .int .i64 node] w fun e w' => e = .returned (.bool false) ∧ w' = w := by
  go_enter Try.func29, Try.ntmps29
  go_wp2_with fail
  refine (there_none w).mono ?_
  rintro e w1 ⟨rfl, rfl⟩
  go_wp2
  go_ret
  exact ⟨rfl, rfl⟩
set_option maxHeartbeats 800000 in
theorem has_dead (g : Nat) (v0 v1 : Value) (node : Int) (w : World) (h : w.heap[g]? = some (.cells #[v0, v1, .map none] 72 (0, 0))) : Calls Try.prog 29 #[.pointer (some ⟨g, 0, none⟩), .int .i64 node] w fun e w' => e = .returned (.bool false) ∧ w' = w := by
  have H := Aside0.mk h
  clear h
  go_enter Try.func29, Try.ntmps29
  go_wp2_with fail
  refine (there_raw g v0 v1 none w H.out).mono ?_
  rintro e w1 ⟨rfl, rfl⟩
  go_wp2
  go_ret
  exact ⟨rfl, rfl⟩
set_option maxHeartbeats 800000 in
theorem NetAt.has {w : World} {base g : Nat} {PA : Option Addr} {pc : Nat} {OA : Option Addr} {oc b : Nat} {ps : List Pt} {hs : List Hd} {out : List (List Rd)} (h : NetAt w base g PA pc OA oc b ps hs out) (node : Int) : Calls Try.prog 29 #[.pointer (some ⟨g, 0, none⟩), .int .i64 node] w fun e w' => e = .returned (.bool (decide (0 ≤ node) && decide (node < ps.length))) ∧ w' = w := by
  have H := Aside0.mk h
  clear h
  go_enter Try.func29, Try.ntmps29
  go_wp2_with fail
  refine H.out.there.mono ?_
  rintro e w1 ⟨rfl, rfl⟩
  have hc : w1.cell? ⟨g, 0, none⟩ = some (.slice PA ps.length pc) := (blk_cell H.out.blk 0).trans rfl
  by_cases h0 : 0 ≤ node
  · have hd : decide (0 ≤ node) = true := decide_eq_true h0
    go_wp2
    go_ret
    exact ⟨by first | rfl | (simp [hd]; done) | (rw [hd]; simp), rfl⟩
  · have hd : decide (0 ≤ node) = false := decide_eq_false h0
    go_wp2
    go_ret
    exact ⟨by first | rfl | (simp [hd]; done) | (rw [hd]; simp), rfl⟩
set_option maxHeartbeats 800000 in
theorem nodes_none (w : World) : Calls Try.prog 12 #[.pointer none] w fun e w' => e = .returned (.int .i64 0) ∧ w' = w := by
  go_enter Try.func12, Try.ntmps12
  go_wp2_with fail
  refine (there_none w).mono ?_
  rintro e w1 ⟨rfl, rfl⟩
  go_wp2
  go_ret
  exact ⟨rfl, rfl⟩
set_option maxHeartbeats 800000 in
theorem nodes_dead (g : Nat) (v0 v1 : Value) (w : World) (h : w.heap[g]? = some (.cells #[v0, v1, .map none] 72 (0, 0))) : Calls Try.prog 12 #[.pointer (some ⟨g, 0, none⟩)] w fun e w' => e = .returned (.int .i64 0) ∧ w' = w := by
  have H := Aside0.mk h
  clear h
  go_enter Try.func12, Try.ntmps12
  go_wp2_with fail
  refine (there_raw g v0 v1 none w H.out).mono ?_
  rintro e w1 ⟨rfl, rfl⟩
  go_wp2
  go_ret
  exact ⟨rfl, rfl⟩
set_option maxHeartbeats 800000 in
theorem NetAt.nodes {w : World} {base g : Nat} {PA : Option Addr} {pc : Nat} {OA : Option Addr} {oc b : Nat} {ps : List Pt} {hs : List Hd} {out : List (List Rd)} (h : NetAt w base g PA pc OA oc b ps hs out) : Calls Try.prog 12 #[.pointer (some ⟨g, 0, none⟩)] w fun e w' => e = .returned (.int .i64 ps.length) ∧ w' = w := by
  have H := Aside0.mk h
  clear h
  go_enter Try.func12, Try.ntmps12
  go_wp2_with fail
  refine H.out.there.mono ?_
  rintro e w1 ⟨rfl, rfl⟩
  have hc : w1.cell? ⟨g, 0, none⟩ = some (.slice PA ps.length pc) := (blk_cell H.out.blk 0).trans rfl
  go_wp2
  go_ret
  exact ⟨rfl, rfl⟩
set_option maxHeartbeats 800000 in
theorem new_calls (w : World) : Calls Try.prog 24 #[] w fun e w' => ∃ g b, e = .returned (.pointer (some ⟨g, 0, none⟩)) ∧ NetAt w' w.heap.size g none 0 none 0 b [] [] [] ∧ Below w.heap.size w w' := by
  have hmk : (Instr.makeMap 70 none).run Try.prog w = .ok (.map (some w.heap.size)) (w.alloc (.map #[] 0)) := rfl
  go_enter Try.func24, Try.ntmps24
  go_wp2
  go_ret
  have hb : Below w.heap.size w ((w.alloc (.map #[] 0)).alloc (.cells #[.slice none 0 0, .slice none 0 0, .map (some w.heap.size)] 72)) := below_alloc (below_alloc (Below.refl _ _) _) _
  have hg : ((w.alloc (.map #[] 0)).alloc (.cells #[.slice none 0 0, .slice none 0 0, .map (some w.heap.size)] 72)).heap[w.heap.size + 1]? = some (.cells #[.slice none 0 0, .slice none 0 0, .map (some w.heap.size)] 72 (0, 0)) := by
    have := blk_new (w.alloc (.map #[] 0)) (.cells #[.slice none 0 0, .slice none 0 0, .map (some w.heap.size)] 72)
    rwa [World.size_alloc] at this
  refine ⟨w.heap.size + 1, w.heap.size, rfl, ⟨hg, Kd.R_nil _ _ _ _ _, Kd.R_nil _ _ _ _ _, ?_, ⟨rfl, rfl⟩, ?_, ?_, ⟨by omega, Nat.le_refl _⟩, ?_, List.nodup_nil, by simp, by simp⟩, hb⟩
  · intro j h l h1; simp at h1
  · intro i j h k _ h1; simp at h1
  · refine ((MapAt.none w encP okP).move ?_).congr (fun k _ => rfl)
    exact (below_alloc (Below.refl (w.alloc (.map #[] 0)).heap.size _) _).block _ (by rw [World.size_alloc]; omega)
  · intro p hp; simp at hp
end Go.Proofs.Ytgbfhhmmkhjhhaa.Roads
namespace Go.Proofs.Ytgbfhhmmkhjhhaa.Copy
open Go.RowKit Go.Proofs.YtgbfhhmmkhjhhaaW.PrintWords
set_option linter.unusedVariables false
variable {P : Program}
theorem run_copy_big (w : World) (dT sT ty elem : TypeId) (g o dLen dCap : Nat) (a : Addr) (sLen sCap : Nat) (cur : Array Value) (t : TypeId) (cs : List Value) (sz n : Nat)
    (hu : P.underlying dT = some (.slice elem)) (hs : (P.info? elem).map (·.size) = some sz)
    (hg : w.heap[g]? = some (.cells cur t (0, 0))) (hn : n = Nat.min sLen dLen) (hcs : cs.length = n * sz)
    (hsrc : ∀ j v, cs[j]? = some v → w.cell? (a.add j) = some v) (hfit : o + cs.length ≤ cur.size) (h1 : ∀ v ∈ cs, v.oneCell' = true) :
    (Builtin.copy_ #[dT, sT] ty #[.slice (some ⟨g, o, none⟩) dLen dCap, .slice (some a) sLen sCap]).run P w =
      .ok (goInt n) (w.setRow g (cur.toList.take o ++ cs ++ cur.toList.drop (o + cs.length)).toArray) := by
  have hl := run_loadCells_list (P := P) w a cs hsrc
  have hst := run_storeCells_at P g o t cs 0 cur w hg (by simpa using hfit) h1
  rw [hcs] at hl
  cases hq : P.info? elem with
  | none => simp [hq] at hs
  | some i =>
    have hi : i.size = sz := by simpa [hq] using hs
    simp [Builtin.copy_, run_underlying hu, Builtin.lenOf, Builtin.firstCells, sizeOf, typeInfo, hq, hi, ← hn, hl, hst]
/-- nothing is copied: one of the two is empty and is no slice of anything, or both are as long as nothing -/
theorem run_copy_zero (w : World) (dT sT ty elem : TypeId) (d s : Option Addr) (dLen dCap sLen sCap : Nat)
    (hu : P.underlying dT = some (.slice elem)) (hs : ((P.info? elem).map (·.size)).isSome = true) (hn : Nat.min sLen dLen = 0) :
    (Builtin.copy_ #[dT, sT] ty #[.slice d dLen dCap, .slice s sLen sCap]).run P w = .ok (goInt 0) w := by
  cases hq : P.info? elem with
  | none => simp [hq] at hs
  | some i =>
    have hl : ∀ (x : Addr), (loadCells x 0).run P w = .ok #[] w := fun x => by simpa using run_loadCells_list (P := P) w x [] (by simp)
    cases d <;> cases s <;> simp [Builtin.copy_, run_underlying hu, Builtin.lenOf, Builtin.firstCells, sizeOf, typeInfo, hq, hn, storeCells, hl]
theorem grown_setRow {w : World} {g : Nat} (cs : Array Value) : w.grownBy (w.setRow g cs) (some g) := by
  refine ⟨rfl, rfl, rfl, ?_, fun k hk hne => ?_⟩
  · first | exact Nat.le_of_eq (Go.setRow_size _ _ _).symm | simp [World.setRow]
  · have h : k ≠ g := fun e => hne (by rw [e])
    first | exact Go.setRow_other _ _ _ _ h | (unfold World.setRow; simp [h]; done) | (unfold World.setRow; split <;> simp [Array.getElem?_setIfInBounds, h, Ne.symm h])
/-- copy onto a whole row of one's own, elements of any kind -/
theorem R_copy_full {α : Type} (d : Kd α) {Rr : α → List Value → Prop} {W : World} (base e : Nat) (t ty : TypeId) (ht : P.underlying t = some (.slice e)) (hinfo : (P.info? e).map (·.size) = some d.sz) (hs0 : 0 < d.sz)
    {ok okp : Nat → Prop} {g cap m c : Nat} {xs ys : List α} {ad : Addr} (HO : d.R e W base ok (.slice (some ⟨g, 0, none⟩) xs.length cap) xs) (HR : ReadsRow Rr d.sz W (some ad) m ys) (hKM : ∀ x cs, Rr x cs → d.M W base okp x cs) (hokp : ∀ k, okp k → ok k ∧ k ≠ g) (hl : xs.length = m) :
    ∃ w1, (Builtin.copy_ #[t, t] ty #[.slice (some ⟨g, 0, none⟩) xs.length cap, .slice (some ad) m c]).run P W = .ok (goInt m) w1 ∧ d.R e w1 base ok (.slice (some ⟨g, 0, none⟩) ys.length cap) ys ∧ W.grownBy w1 (some g) := by
  obtain ⟨hok, inner, hown, hr⟩ := HO
  obtain ⟨news, hnr, hnc⟩ := ReadsRow.inner_ HR
  have hm : ys.length = m := HR.1
  have hnM : Reps (d.M W base okp) d.sz ys news := hnr.imp_ (fun p c hp => hKM p c hp)
  have hone : ∀ u ∈ news, u.oneCell' = true := by
    intro u hu
    obtain ⟨q, hq, rfl⟩ := List.mem_iff_getElem.1 hu
    have hql : q / d.sz < ys.length := by
      rw [Nat.div_lt_iff_lt_mul hs0]
      rw [← hnM.1]
      exact hq
    have hc := hnM.2 (q / d.sz) _ (List.getElem?_eq_getElem hql)
    refine d.K_one (d.K_of_M hc) _ ?_
    rw [List.mem_iff_getElem?]
    refine ⟨q % d.sz, ?_⟩
    rw [List.getElem?_take, if_pos (Nat.mod_lt _ hs0), List.getElem?_drop, Nat.mul_comm, Nat.div_add_mod, List.getElem?_eq_getElem hq]
  obtain ⟨h1, h2⟩ := hown
  rcases h2 with ⟨h2, _⟩ | ⟨g', cap', cur, h2, hg, hh, hnc', hcm, hcs, htk⟩
  · cases h2
  · simp only [Value.slice.injEq, Option.some.injEq, Addr.mk.injEq, and_true] at h2
    obtain ⟨rfl, _, rfl⟩ := h2
    have hlen : news.length = m * d.sz := by rw [hnM.1, hm]
    have hfit : news.length ≤ cur.size := by rw [hlen, hcs]; exact Nat.mul_le_mul_right _ (by omega)
    refine ⟨_, run_copy_big (P := P) W t t ty e g 0 xs.length cap ad m c cur e news d.sz m ht hinfo hh (by rw [hl]; exact (Nat.min_self m).symm) hlen hnc (by omega) hone, ?_, grown_setRow _⟩
    have hgb : W.grownBy (W.setRow g (cur.toList.take 0 ++ news ++ cur.toList.drop (0 + news.length)).toArray) (some g) := grown_setRow _
    refine ⟨fun k hk => hok k (by simpa [Value.ownBlock] using hk), news, ⟨by rw [hnM.1], Or.inr ⟨g, cap, _, rfl, hg, setRow_heap W g cur _ e _ hh, by omega, hcm, ?_, ?_⟩⟩, hnM.imp_ (fun p c hp => ?_)⟩
    · simp [hlen, hcs] at hfit ⊢
      omega
    · simp [hm, hlen]
    · have hp1 := d.M_move (w1 := W.setRow g (cur.toList.take 0 ++ news ++ cur.toList.drop (0 + news.length)).toArray) (fun k hk => hgb.block k hk.2.2.1 (fun e => (hokp k hk.1).2 (Option.some.inj e))) (d.M_bound hp)
      exact d.M_mono (fun k hk => ⟨(hokp k hk.1).1, fun e => (hokp k hk.1).2 (by simpa [Value.ownBlock] using e)⟩) hp1
theorem wpList_copy {ops : Array Oper} {rest : List Oper} {o : Oper} {a : Act} {Q : Exit → Act → World → Prop} {W : World} (hgd : o.guard = none) (d s : Operand) (t t' : TypeId)
    (ho : o.op = .call { callee := .builtin .copy, args := #[d, s], argTypes := #[t, t'] }) (v u : Value) (hd : a.eval d = v) (hs : a.eval s = u) {v' : Value} {w' : World}
    (hr : (Builtin.copy_ #[t, t'] o.type #[v, u]).run P W = .ok v' w') (h : wpList P ops Q rest (a.put o.dst v') w') : wpList P ops Q (o :: rest) a W := by
  refine wpList_plain hgd fun K hK => ?_
  unfold Oper.wp execOp
  simp only [ho, resolve, invoke, builtin, Sem.run_bind, Sem.run_pure, Result.andThen_ok, List.map_toArray, List.map_cons, List.map_nil, hd, hs, hr]
  exact hK _ _ h
end Go.Proofs.Ytgbfhhmmkhjhhaa.Copy
namespace Go.Proofs.Ytgbfhhmmkhjhhaa.Roads
open Go.RowKit Go.Proofs.YtgbfhhmmkhjhhaaW.PrintWords Go.Proofs.YtgbfhhmmkhjhhaaW.PrintLast Go.Proofs.YtgbfhhmmkhjhhaaW.PrintMore Go.Proofs.Ytgbfhhmmkhjhhaa.HeapW Go.Proofs.Ytgbfhhmmkhjhhaa.MapAt Go.Proofs.Ytgbfhhmmkhjhhaa.Copy
set_option linter.unusedVariables false
set_option linter.unusedSimpArgs false
theorem kRd_K {w w' : World} {base : Nat} {x : Rd} {c : List Value} (h : kRd.K w x c) : kRd.M w' base (fun _ => False) x c := by
  obtain ⟨a, b, d⟩ := x
  obtain ⟨_, _, rfl, h0, _, _, rfl, h1, h2⟩ := h
  cases h0; cases h1; cases h2
  exact ⟨[_], _, rfl, rfl, [_], [_], rfl, rfl, rfl⟩
theorem infoRd : (Try.prog.info? 40).map (fun i => (i.zero, i.size, i.bytes)) = some (some (.agg #[.int .i64 0, .int .i64 0, .int .i64 0]), 3, 24) := by kernel_rfl
theorem infoRds : (Try.prog.info? 40).map (·.size) = some 3 := by kernel_rfl
set_option maxHeartbeats 1600000 in
theorem out_none (node : Int) (w : World) : Calls Try.prog 13 #[.pointer none, .int .i64 node] w fun e w' => e = .returned (.slice none 0 0) ∧ w' = w := by
  go_enter Try.func13, Try.ntmps13
  go_wp2_with fail
  refine (has_none node w).mono ?_
  rintro e w1 ⟨rfl, rfl⟩
  go_wp2
  go_ret
  exact ⟨rfl, rfl⟩
set_option maxHeartbeats 1600000 in
theorem NetAt.out_gone {w : World} {base g : Nat} {PA : Option Addr} {pc : Nat} {OA : Option Addr} {oc b : Nat} {ps : List Pt} {hs : List Hd} {out : List (List Rd)} (h : NetAt w base g PA pc OA oc b ps hs out) (node : Int) (hn : ¬ (0 ≤ node ∧ node < ps.length)) : Calls Try.prog 13 #[.pointer (some ⟨g, 0, none⟩), .int .i64 node] w fun e w' => e = .returned (.slice none 0 0) ∧ w' = w := by
  have H := Aside0.mk h
  have hd : (decide (0 ≤ node) && decide (node < ps.length)) = false := by
    rw [Bool.and_eq_false_iff, decide_eq_false_iff_not, decide_eq_false_iff_not]; omega
  have HD := Aside0.mk hd
  clear h hn hd
  go_enter Try.func13, Try.ntmps13
  go_wp2_with fail
  refine (H.out.has node).mono ?_
  rintro e w1 ⟨rfl, rfl⟩
  rw [HD.out]
  go_wp2
  go_ret
  exact ⟨rfl, rfl⟩
set_option maxHeartbeats 1600000 in
set_option maxRecDepth 100000 in
theorem NetAt.outs {w : World} {base g : Nat} {PA : Option Addr} {pc : Nat} {OA : Option Addr} {oc b : Nat} {ps : List Pt} {hs : List Hd} {out : List (List Rd)} (h : NetAt w base g PA pc OA oc b ps hs out) (i : Nat) (l : List Rd) (hl : out[i]? = some l) : Calls Try.prog 13 #[.pointer (some ⟨g, 0, none⟩), .int .i64 i] w fun e w' => ∃ A cap, e = .returned (.slice A l.length cap) ∧ kRd.R 40 w' w.heap.size (fun _ => True) (.slice A l.length cap) l ∧ Below w.heap.size w w' := by
  have hil : i < out.length := (List.getElem?_eq_some_iff.1 hl).1
  have hip : i < ps.length := by have := h.len.2; omega
  have hih : i < hs.length := by have := h.len.1; omega
  have hsh : l.length ≤ 4096 := h.short l (List.mem_of_getElem? hl)
  obtain ⟨hd1, hr1⟩ := h.rows i hs[i] l (List.getElem?_eq_getElem hih) hl
  obtain ⟨hd, hhd⟩ : ∃ hd, hd = hs[i] := ⟨_, rfl⟩
  rw [← hhd] at hd1 hr1
  obtain ⟨go, gcap, hgo, _⟩ := Kd.R_form h.ows (by omega)
  obtain ⟨rfl, hg2⟩ : OA = some ⟨go, 0, none⟩ ∧ oc = gcap := by
    simp only [Value.slice.injEq] at hgo
    exact ⟨hgo.1, hgo.2.2⟩
  have hce0 := (Kd.R_cell (d := hd) (by rw [h.len.1]; exact h.ows) (i : Int) (by omega) (by omega)).1
  rw [Int.toNat_natCast] at hce0
  have hrd : rdOf hd hs (i : Int) = hd := by
    unfold rdOf
    first | (rw [Int.toNat_natCast, hhd]; simp [List.getD_eq_getElem?_getD, List.getElem?_eq_getElem hih]; done) | (simp [hhd, List.getElem?_eq_getElem hih]; done)
  rw [hrd] at hce0
  obtain ⟨sA, sn, sc⟩ := hd
  have hsn : sn = l.length := hd1
  subst hsn
  obtain ⟨_, hsc, hC⟩ := Kd.R_reads' (show kRd.R 40 w base (fun _ => True) (.slice sA l.length sc) l from hr1)
  have H := Aside0.mk h
  have HCC := Aside0.mk hC
  have HSH := Aside0.mk hsh
  have HD : Aside0 ((decide (0 ≤ (i : Int)) && decide ((i : Int) < ps.length)) = true) := ⟨by rw [Bool.and_eq_true, decide_eq_true_iff, decide_eq_true_iff]; omega⟩
  have hce : w.cell? ⟨go, i, none⟩ = some (.slice sA l.length sc) := hce0
  have hlt : (i : Int) < ps.length := by omega
  clear hce0 h hC hsh hr1 hd1 hhd hrd hgo hg2 hsc hl hil hih hip
  go_enter Try.func13, Try.ntmps13
  go_wp2_with fail
  refine (H.out.has (i : Int)).mono ?_
  rintro e w1 ⟨rfl, rfl⟩
  rw [HD.out]
  have hc1 : w1.cell? ⟨g, 1, none⟩ = some (.slice (some ⟨go, 0, none⟩) ps.length oc) := (blk_cell H.out.blk 1).trans rfl
  obtain ⟨n, hn⟩ : ∃ n, n = l.length := ⟨_, rfl⟩
  have HN := Aside0.mk hn
  rw [← hn] at hce
  clear hn
  go_upto_region 4 with ((with_reducible refine gate_dst (N := 18) rfl ?_); refine Kd.R_make kRd (w0 := w1) w1.heap.size 40 rfl (N := 18) rfl 23 (.tmp 17) (.tmp 17) rfl (n : Int) rfl rfl Try.underlying23 (.agg #[.int .i64 0, .int .i64 0, .int .i64 0]) 24 infoRd rfl (by decide) (by omega) (0, 0, 0) (ok := fun _ => True) (okp := fun _ => True) ⟨[_], _, rfl, rfl, [_], [_], rfl, rfl, rfl⟩ (fun _ h => h) trivial (by omega) (by rw [Int.toNat_natCast]; have := HSH.out; have := HN.out; omega) (Below.refl _ _) (Nat.le_refl _) ?_; intro u9 w9 h9 hb9 hg9 _)
  rw [Int.toNat_natCast] at h9
  have hC9 : kRd.C w9 sA n l := by rw [HN.out]; exact Kd.C_below HCC.out hb9
  have hc2 := pw_cell_below hb9 hc1
  have hce2 := pw_cell_below hb9 hce
  clear hc1 hce hg9
  obtain ⟨A9, c9, hu9⟩ := Kd.R_slice h9
  rw [List.length_replicate] at hu9
  subst hu9
  have H9 := Aside0.mk h9
  have HB9 := Aside0.mk hb9
  have HC9 := Aside0.mk hC9
  clear h9 hb9 hC9
  rcases Nat.eq_zero_or_pos n with h0 | h0
  · have hl0 : l = [] := List.eq_nil_of_length_eq_zero (by rw [← HN.out]; exact h0)
    have HL0 := Aside0.mk hl0
    subst h0
    have hz := run_copy_zero (P := Try.prog) w9 23 23 3 40 A9 sA 0 c9 0 sc Try.underlying23 (by rw [infoRds]; rfl) rfl
    clear hl0
    go_wp2_with ((with_reducible refine gate_dst (N := 27) rfl ?_); refine wpList_copy rfl (.tmp 19) (.tmp 26) 23 23 rfl _ _ rfl rfl hz ?_)
    go_ret
    rw [HL0.out]
    exact ⟨A9, c9, rfl, H9.out, HB9.out⟩
  · obtain ⟨g9, cap9, he9, hge9, _⟩ := Kd.R_form H9.out (by rw [List.length_replicate]; exact h0)
    simp only [Value.slice.injEq] at he9
    obtain ⟨rfl, hx9, rfl⟩ := he9
    clear hx9
    obtain ⟨ad, had, _⟩ := HC9.out.2.2 h0
    subst had
    obtain ⟨w10, hrun, h10, hg10⟩ := R_copy_full (P := Try.prog) kRd (Rr := kRd.K w9) w1.heap.size 40 23 3 Try.underlying23 infoRds (by decide) (ok := fun _ => True) (okp := fun _ => False) (g := g9) (cap := c9) (m := n) (c := sc) (xs := List.replicate n ((0, 0, 0) : Rd)) (ys := l) (ad := ad) (by rw [List.length_replicate]; exact H9.out) HC9.out (fun x cs hx => kRd_K hx) (fun k hk => hk.elim) (by rw [List.length_replicate])
    rw [List.length_replicate] at hrun
    have HB10 : Aside0 (Below w1.heap.size w1 w10) := ⟨((Chg.of_below (F := fun _ => False) HB9.out).then (Chg.of_grown hg10) (fun k hk => Or.inr (by have e : k = g9 := Option.some.inj hk; omega))).below (Nat.le_refl _) (fun _ q => q.elim)⟩
    have H10 := Aside0.mk h10
    have HP := Aside0.mk h0
    clear h10 hg10 hge9 h0
    go_wp2_with ((with_reducible refine gate_dst (N := 27) rfl ?_); refine wpList_copy rfl (.tmp 19) (.tmp 26) 23 23 rfl _ _ rfl rfl hrun ?_)
    go_ret
    exact ⟨some ⟨g9, 0, none⟩, c9, by rw [HN.out]; rfl, H10.out, HB10.out⟩
end Go.Proofs.Ytgbfhhmmkhjhhaa.Roads
namespace Go.Proofs.Ytgbfhhmmkhjhhaa.Roads
open Go.RowKit Go.Proofs.YtgbfhhmmkhjhhaaW.PrintWords Go.Proofs.YtgbfhhmmkhjhhaaW.PrintLast Go.Proofs.YtgbfhhmmkhjhhaaW.PrintMore Go.Proofs.Ytgbfhhmmkhjhhaa.HeapW Go.Proofs.Ytgbfhhmmkhjhhaa.MapAt Go.Proofs.Ytgbfhhmmkhjhhaa.Copy
set_option linter.unusedVariables false
set_option linter.unusedSimpArgs false
set_option maxHeartbeats 1600000 in
set_option maxRecDepth 100000 in
theorem byTo_calls (x : Rd) (tv : Int) (h : -100000 ≤ x.2.1 - tv ∧ x.2.1 - tv ≤ 100000) (w : World) : Calls Try.prog 32 #[.agg #[.int .i64 x.1, .int .i64 x.2.1, .int .i64 x.2.2], .int .i64 tv] w fun e w' => e = .returned (.int .i64 (x.2.1 - tv)) ∧ Below w.heap.size w w' := by
  have hw : wrap64 (x.2.1 - tv) = x.2.1 - tv := by unfold wrap64; omega
  have HW := Aside0.mk hw
  clear h hw
  go_enter Try.func32, Try.ntmps32
  go_wp2
  go_ret
  exact ⟨by first | rfl | (rw [HW.out]; done) | (simp [HW.out]; done) | (show Ending.returned (.int .i64 (wrap64 (x.2.1 - tv))) = _; rw [HW.out]), below_alloc (Below.refl _ _) _⟩
/-- the element j of a read row of roads -/
theorem rd_at {w : World} {A : Option Addr} {l : List Rd} {n : Nat} (h : Kd.C kRd w A n l) (hn : n = l.length) {j : Nat} (hj : j < l.length) :
    ∃ (a : Addr) (x : Rd), A = some a ∧ l[j]? = some x ∧ ∀ w', Below w.heap.size w w' → w'.cell? (a.add (j * 3)) = some (.int .i64 x.1) ∧ w'.cell? ⟨(a.add (j * 3)).block, (a.add (j * 3)).off + 1, none⟩ = some (.int .i64 x.2.1) ∧ w'.cell? ⟨(a.add (j * 3)).block, (a.add (j * 3)).off + 2, none⟩ = some (.int .i64 x.2.2) := by
  obtain ⟨a, ha, h2⟩ := h.2.2 (by omega)
  obtain ⟨us, k1, k2, k3⟩ := h2 j l[j] (List.getElem?_eq_getElem hj)
  obtain ⟨x, hx⟩ : ∃ x, x = l[j] := ⟨_, rfl⟩
  rw [← hx] at k2
  obtain ⟨x1, x2, x3⟩ := x
  obtain ⟨_, _, rfl, h0, _, _, rfl, h1, h2'⟩ := k2
  cases h0; cases h1; cases h2'
  have add_next : ∀ i, 0 < i → a.add (j * 3 + i) = ⟨(a.add (j * 3)).block, (a.add (j * 3)).off + i, none⟩ := fun i hi => by
    unfold Addr.add
    rw [if_neg (by omega)]
    by_cases h : j * 3 = 0
    · rw [h]; simp
    · simp [h, Nat.add_assoc]
  refine ⟨a, (x1, x2, x3), ha, by rw [List.getElem?_eq_getElem hj, ← hx], fun w' hb => ⟨pw_cell_below hb (k3 0 _ rfl), ?_, ?_⟩⟩
  · rw [← add_next 1 (by decide)]; exact pw_cell_below hb (k3 1 _ rfl)
  · rw [← add_next 2 (by decide)]; exact pw_cell_below hb (k3 2 _ rfl)
end Go.Proofs.Ytgbfhhmmkhjhhaa.Roads
namespace Go.Proofs.Ytgbfhhmmkhjhhaa.Roads
open Go.RowKit Go.Proofs.YtgbfhhmmkhjhhaaW.PrintWords Go.Proofs.YtgbfhhmmkhjhhaaW.PrintLast Go.Proofs.YtgbfhhmmkhjhhaaW.PrintMore Go.Proofs.Ytgbfhhmmkhjhhaa.HeapW Go.Proofs.Ytgbfhhmmkhjhhaa.MapAt Go.Proofs.Ytgbfhhmmkhjhhaa.Copy
set_option linter.unusedVariables false
set_option linter.unusedSimpArgs false
set_option maxHeartbeats 1600000 in
set_option maxRecDepth 100000 in
theorem search_calls (A : Option Addr) (c : Nat) (l : List Rd) (tv : Int) (w : World) (hC : Kd.C kRd w A l.length l) (hs : ∀ (i j : Nat) (x y : Rd), i < j → l[i]? = some x → l[j]? = some y → x.2.1 < y.2.1) (hx : ∀ x ∈ l, 0 ≤ x.2.1 ∧ x.2.1 < 4096) (ht : 0 ≤ tv ∧ tv < 4096) (hl : l.length ≤ 4096) (hlc : l.length ≤ c) :
    Calls Try.prog 31 #[.slice A l.length c, .int .i64 tv, .func (.func 32) #[] #[]] w fun e w' => ∃ (i : Nat) (b : Bool), e = .returned (.tuple #[.int .i64 i, .bool b]) ∧ i ≤ l.length ∧ (∀ (k : Nat) (x : Rd), k < i → l[k]? = some x → x.2.1 < tv) ∧ (∀ (k : Nat) (x : Rd), i ≤ k → l[k]? = some x → tv ≤ x.2.1) ∧ (b = true ↔ ∃ x, l[i]? = some x ∧ x.2.1 = tv) ∧ Below w.heap.size w w' := by
  have HC := Aside0.mk hC
  have HS := Aside0.mk hs
  have HX := Aside0.mk hx
  have HT := Aside0.mk ht
  have HL := Aside0.mk hl
  clear hC hs hx ht hl hlc
  go_enter Try.func31, Try.ntmps31
  go_wp2_with fail
  go_loopg [9, 10] l.length (fun kq v9 v10 w' => ∃ (i j : Nat), v9 = .int .i64 i ∧ v10 = .int .i64 j ∧ Aside0 (i ≤ j ∧ j ≤ l.length ∧ j ≤ i + kq) ∧ Aside0 ((∀ (k : Nat) (x : Rd), k < i → l[k]? = some x → x.2.1 < tv) ∧ ∀ (k : Nat) (x : Rd), j ≤ k → l[k]? = some x → tv ≤ x.2.1) ∧ Aside0 (Below w.heap.size w w'))
  case atStart => exact ⟨0, l.length, rfl, rfl, ⟨by omega, Nat.le_refl _, by omega⟩, ⟨⟨fun k x h => absurd h (Nat.not_lt_zero _), fun k x h hk => absurd (List.getElem?_eq_some_iff.1 hk).1 (by omega)⟩⟩, ⟨Below.refl _ _⟩⟩
  case round =>
    obtain ⟨i, j, rfl, rfl, HIJ, HP, HB⟩ := hrel
    by_cases hij : i < j
    · have hlt : (i : Int) < j := by omega
      obtain ⟨p, hp⟩ : ∃ p : Nat, p = (i + j) / 2 := ⟨_, rfl⟩
      have HPP : Aside0 (i ≤ p ∧ p < j ∧ p < l.length) := ⟨by have := HIJ.out; omega⟩
      obtain ⟨a, x, ha, hlx, hcx⟩ := rd_at HC.out rfl HPP.out.2.2
      obtain ⟨q0, q1, q2⟩ := hcx wr HB.out
      have HLX := Aside0.mk hlx
      have HCX := Aside0.mk hcx
      subst ha
      have hw1 : wrap64 ((i : Int) + j) = (i : Int) + j := by unfold wrap64; have := HIJ.out; have := HL.out; omega
      have hu : IntKind.u64.wrap ((i : Int) + j) = (i : Int) + j := by
        have := HIJ.out; have := HL.out
        simp only [IntKind.wrap, IntKind.signed, IntKind.bits]
        first | omega | (simp; omega)
      have hm : wrap64 (IntKind.u64.wrap ((i : Int) + j) / 2) = (p : Int) := by rw [hu]; unfold wrap64; have := HIJ.out; have := HL.out; omega
      have hpl : (p : Int) < l.length := by have := HPP.out; omega
      have hwp : wrap64 ((p : Int) + 1) = (p : Int) + 1 := by unfold wrap64; have := HPP.out; have := HL.out; omega
      have HXX : Aside0 (-100000 ≤ x.2.1 - tv ∧ x.2.1 - tv ≤ 100000) := ⟨by have := HX.out x (List.mem_of_getElem? HLX.out); have := HT.out; omega⟩
      have HPV := Aside0.mk hp
      clear hlx hcx hij hu hp
      go_upto_region 5 with (fail)
      try rw [hm]
      go_wp2_with fail
      refine (byTo_calls x tv HXX.out wr).mono ?_
      rintro e w5 ⟨rfl, hb⟩
      have HB5 := Aside0.mk (below_step HB.out hb)
      clear hb HB q0 q1 q2 hm hw1
      by_cases hlo : x.2.1 < tv
      · have hd : decide (x.2.1 - tv < 0) = true := decide_eq_true (by omega)
        have HLO := Aside0.mk hlo
        clear hlo
        go_upto_if 31 with (fail)
        try rw [hd]
        go_wp2
        go_roundg (j - (p + 1))
        case measure => have := HIJ.out; have := HPP.out; omega
        case rel => exact ⟨p + 1, j, by first | rfl | (simp; done) | (rw [hwp]; rfl), rfl, ⟨by have := HPP.out; omega, HIJ.out.2.1, by omega⟩, ⟨fun k y hk hy => by
          rcases Nat.lt_or_ge k p with q | q
          · have := HS.out k p y x q hy HLX.out; have := HLO.out; omega
          · have e : k = p := by omega
            subst e
            rw [HLX.out] at hy
            cases hy
            exact HLO.out, HP.out.2⟩, HB5⟩
      · have hd : decide (x.2.1 - tv < 0) = false := decide_eq_false (by omega)
        have HLO := Aside0.mk hlo
        clear hlo
        go_upto_if 31 with (fail)
        try rw [hd]
        go_wp2
        go_roundg (p - i)
        case measure => have := HIJ.out; have := HPP.out; omega
        case rel => exact ⟨i, p, rfl, by first | rfl | (simp; done), ⟨by have := HPP.out; omega, by have := HPP.out; omega, by omega⟩, ⟨HP.out.1, fun k y hk hy => by
          rcases Nat.lt_or_ge p k with q | q
          · have := HS.out p k x y q HLX.out hy; have := HLO.out; omega
          · have e : k = p := by omega
            subst e
            rw [HLX.out] at hy
            cases hy
            have := HLO.out
            omega⟩, HB5⟩
    · have hgt : decide (i < j) = false := decide_eq_false hij
      have HG := Aside0.mk hij
      clear hij
      have hie : i = j := by have := HG.out; have := HIJ.out; omega
      subst hie
      by_cases hin : i < l.length
      · have hil : (i : Int) < l.length := by omega
        obtain ⟨a, x, ha, hlx, hcx⟩ := rd_at HC.out rfl hin
        obtain ⟨q0, q1, q2⟩ := hcx wr HB.out
        have HLX := Aside0.mk hlx
        have HXX : Aside0 (-100000 ≤ x.2.1 - tv ∧ x.2.1 - tv ≤ 100000) := ⟨by have := HX.out x (List.mem_of_getElem? hlx); have := HT.out; omega⟩
        subst ha
        clear hlx hcx hin
        go_wp2_with fail
        refine (byTo_calls x tv HXX.out wr).mono ?_
        rintro e w5 ⟨rfl, hb⟩
        have HB5 := Aside0.mk (below_step HB.out hb)
        clear hb HB q0 q1 q2
        obtain ⟨df, hdf⟩ : ∃ df, df = x.2.1 - tv := ⟨_, rfl⟩
        have HDF := Aside0.mk hdf
        rw [← hdf]
        clear hdf
        go_wp2
        refine bodyPost_ret (results_list (rs := [.tmp 6, .tmp 7]) rfl (by simp) (.tmp (.tmp .nil))) rfl ?_
        refine ⟨i, (df == 0), by first | rfl | simp, HIJ.out.2.1, HP.out.1, HP.out.2, ?_, HB5.out⟩
        rw [beq_iff_eq]
        constructor
        · intro e
          exact ⟨x, HLX.out, by have := HDF.out; omega⟩
        · rintro ⟨y, h1, h2⟩
          rw [HLX.out] at h1
          cases h1
          have := HDF.out
          omega
      · have hin2 : decide (i < l.length) = false := decide_eq_false hin
        have HIN := Aside0.mk hin
        clear hin
        go_wp2
        refine bodyPost_ret (results_list (rs := [.tmp 6, .tmp 7]) rfl (by simp) (.tmp (.tmp .nil))) rfl ?_
        refine ⟨i, false, by first | rfl | simp, HIJ.out.2.1, HP.out.1, HP.out.2, ?_, HB.out⟩
        constructor
        · intro e; cases e
        · rintro ⟨y, h1, _⟩
          exact absurd (List.getElem?_eq_some_iff.1 h1).1 HIN.out
end Go.Proofs.Ytgbfhhmmkhjhhaa.Roads
namespace Go.Proofs.Ytgbfhhmmkhjhhaa.Roads
open Go.RowKit Go.Proofs.YtgbfhhmmkhjhhaaW.PrintWords Go.Proofs.YtgbfhhmmkhjhhaaW.PrintLast Go.Proofs.YtgbfhhmmkhjhhaaW.PrintMore Go.Proofs.Ytgbfhhmmkhjhhaa.HeapW Go.Proofs.Ytgbfhhmmkhjhhaa.MapAt Go.Proofs.Ytgbfhhmmkhjhhaa.Copy
set_option linter.unusedVariables false
set_option linter.unusedSimpArgs false
theorem NetAt.below {w w' : World} {base g : Nat} {PA : Option Addr} {pc : Nat} {OA : Option Addr} {oc b : Nat} {ps : List Pt} {hs : List Hd} {out : List (List Rd)} (h : NetAt w base g PA pc OA oc b ps hs out) (hb : Below w.heap.size w w') : NetAt w' base g PA pc OA oc b ps hs out :=
  ⟨(hb.block _ (blk_lt h.blk)).trans h.blk, Kd.R_below h.pts hb, Kd.R_below h.ows hb, fun j k l h1 h2 => ⟨(h.rows j k l h1 h2).1, Kd.R_below (h.rows j k l h1 h2).2 hb⟩, h.len, h.apart, h.map.move (hb.block _ h.map.lt), h.ge, h.okp, h.nodup, h.most, h.short⟩
set_option maxRecDepth 100000 in
theorem laidOut : laidOutB Try.prog = true := by kernel_rfl
theorem key_type : Try.prog.keyType 59 = true := by kernel_rfl
theorem key_cells : Try.prog.cellsOf 57 = 1 := by kernel_rfl
theorem key_cells2 : Try.prog.cellsOf 59 = 2 := by kernel_rfl
theorem key_size : ∃ m, Try.prog.types.size = m + 1 := ⟨Try.prog.types.size - 1, by have h : 0 < Try.prog.types.size := of_decide_eq_true (by kernel_rfl); omega⟩
set_option maxRecDepth 100000 in
theorem key_lit (k : Pt) (hk : okP k) : ∃ l, keyOf Try.prog 59 (encP k) = some l := by
  obtain ⟨h0, h1⟩ := hk
  obtain ⟨m, hm⟩ := key_size
  unfold keyOf encP
  simp only [Try.underlying59]
  rw [if_pos (by simp [key_type, Value.formed, Try.underlying59, key_cells2]), hm]
  unfold Program.keyLits
  simp only [Try.underlying59, Value.cells]
  simp [key_cells, key_cells2, Program.keyLits, Try.underlying57, List.range, List.range.loop, h0, h1]
set_option maxRecDepth 100000 in
theorem keyLaw : Law Try.prog 59 encP okP where
  keyed := Go.Maps.Keyed.of_law (Go.deep_law_laid laidOut (m := Try.prog.types.size + 1) (by have : Try.prog.types.size ≤ 9000 := of_decide_eq_true (by kernel_rfl); omega) (of_decide_eq_true (by kernel_rfl)) key_type (by rw [Try.underlying59]))
  lit k hk := key_lit k hk
  inj a b _ _ h := by
    obtain ⟨a0, a1⟩ := a
    obtain ⟨b0, b1⟩ := b
    unfold encP at h
    simp at h
    obtain ⟨rfl, rfl⟩ := h
    rfl
theorem idxP_some {ps : List Pt} {p : Pt} {i : Nat} (h : idxP ps p = some i) : i < ps.length ∧ ps[i]? = some p := by
  unfold idxP at h
  rw [List.findIdx?_eq_some_iff_getElem] at h
  obtain ⟨h1, h2, _⟩ := h
  refine ⟨h1, ?_⟩
  rw [List.getElem?_eq_getElem h1]
  simpa using h2
theorem idxP_none {ps : List Pt} {p : Pt} : idxP ps p = none ↔ p ∉ ps := by
  unfold idxP
  rw [List.findIdx?_eq_none_iff]
  constructor
  · intro h hp
    simpa using h p hp
  · intro h x hx
    simp only [decide_eq_false_iff_not]
    intro e
    exact h (e ▸ hx)
theorem idxP_snoc {ps : List Pt} {p : Pt} (h : idxP ps p = none) (q : Pt) : idxP (ps ++ [p]) q = if q = p then some ps.length else idxP ps q := by
  unfold idxP at *
  rw [List.findIdx?_append]
  by_cases e : q = p
  · subst e
    rw [h, if_pos rfl]
    simp
  · rw [if_neg e]
    cases hq : ps.findIdx? (fun x => decide (x = q)) with
    | some i => simp
    | none => simp [Ne.symm e]
end Go.Proofs.Ytgbfhhmmkhjhhaa.Roads
namespace Go.Proofs.Ytgbfhhmmkhjhhaa.Roads
open Go.RowKit Go.Proofs.YtgbfhhmmkhjhhaaW.PrintWords Go.Proofs.YtgbfhhmmkhjhhaaW.PrintLast Go.Proofs.YtgbfhhmmkhjhhaaW.PrintMore Go.Proofs.Ytgbfhhmmkhjhhaa.HeapW Go.Proofs.Ytgbfhhmmkhjhhaa.MapAt Go.Proofs.Ytgbfhhmmkhjhhaa.Copy
set_option linter.unusedVariables false
set_option linter.unusedSimpArgs false
set_option maxHeartbeats 1600000 in
theorem node_none (p : Pt) (w : World) : Calls Try.prog 25 #[.pointer none, .agg #[.int .i16 p.1, .int .i16 p.2]] w fun e w' => e = .returned (.tuple #[.int .i64 0, .int .i64 2]) ∧ Below w.heap.size w w' := by
  go_enter Try.func25, Try.ntmps25
  go_wp2_with fail
  refine (there_none _).mono ?_
  rintro e w1 ⟨rfl, hw1⟩
  have HB : Aside0 (Below w.heap.size w w1) := ⟨by rw [hw1]; exact below_alloc (Below.refl _ _) _⟩
  clear hw1
  go_wp2
  refine bodyPost_ret (results_list (rs := [.tmp 4, .tmp 5]) rfl (by simp) (.tmp (.tmp .nil))) rfl ?_
  exact ⟨rfl, HB.out⟩
set_option maxHeartbeats 1600000 in
theorem node_dead (g : Nat) (v0 v1 : Value) (p : Pt) (w : World) (h : w.heap[g]? = some (.cells #[v0, v1, .map none] 72 (0, 0))) : Calls Try.prog 25 #[.pointer (some ⟨g, 0, none⟩), .agg #[.int .i16 p.1, .int .i16 p.2]] w fun e w' => e = .returned (.tuple #[.int .i64 0, .int .i64 2]) ∧ Below w.heap.size w w' := by
  have H := Aside0.mk h
  clear h
  go_enter Try.func25, Try.ntmps25
  go_wp2_with fail
  refine (there_raw g v0 v1 none _ (blk_alloc H.out _)).mono ?_
  rintro e w1 ⟨rfl, hw1⟩
  have HB : Aside0 (Below w.heap.size w w1) := ⟨by rw [hw1]; exact below_alloc (Below.refl _ _) _⟩
  clear hw1
  go_wp2
  refine bodyPost_ret (results_list (rs := [.tmp 4, .tmp 5]) rfl (by simp) (.tmp (.tmp .nil))) rfl ?_
  exact ⟨rfl, HB.out⟩
set_option maxHeartbeats 1600000 in
theorem NetAt.node_full {w : World} {base g : Nat} {PA : Option Addr} {pc : Nat} {OA : Option Addr} {oc b : Nat} {ps : List Pt} {hs : List Hd} {out : List (List Rd)} (h : NetAt w base g PA pc OA oc b ps hs out) (p : Pt) (hf : ps.length = 4096) : Calls Try.prog 25 #[.pointer (some ⟨g, 0, none⟩), .agg #[.int .i16 p.1, .int .i16 p.2]] w fun e w' => e = .returned (.tuple #[.int .i64 0, .int .i64 3]) ∧ Below w.heap.size w w' := by
  have H := Aside0.mk h
  have HF : Aside0 (decide ((ps.length : Int) ≥ 4096) = true) := ⟨decide_eq_true (by omega)⟩
  have hf1 : (4096 : Int) ≤ ps.length := by omega
  clear h hf
  go_enter Try.func25, Try.ntmps25
  go_wp2_with fail
  have HB : Aside0 (Below w.heap.size w (w.alloc (.cells #[.int .i16 p.1, .int .i16 p.2] 59))) := ⟨below_alloc (Below.refl _ _) _⟩
  have HQ := Aside0.mk (H.out.below HB.out)
  generalize w.alloc (.cells #[.int .i16 p.1, .int .i16 p.2] 59) = wB at HB HQ ⊢
  refine HQ.out.there.mono ?_
  rintro e w1 ⟨rfl, rfl⟩
  have hc0 : w1.cell? ⟨g, 0, none⟩ = some (.slice PA ps.length pc) := (blk_cell HQ.out.blk 0).trans rfl
  go_wp2
  refine bodyPost_ret (results_list (rs := [.tmp 4, .tmp 5]) rfl (by simp) (.tmp (.tmp .nil))) rfl ?_
  exact ⟨rfl, HB.out⟩
end Go.Proofs.Ytgbfhhmmkhjhhaa.Roads
namespace Go.Proofs.Ytgbfhhmmkhjhhaa.Roads
open Go.RowKit Go.Proofs.YtgbfhhmmkhjhhaaW.PrintWords Go.Proofs.YtgbfhhmmkhjhhaaW.PrintLast Go.Proofs.YtgbfhhmmkhjhhaaW.PrintMore Go.Proofs.Ytgbfhhmmkhjhhaa.HeapW Go.Proofs.Ytgbfhhmmkhjhhaa.MapAt Go.Proofs.Ytgbfhhmmkhjhhaa.Copy
set_option linter.unusedVariables false
set_option linter.unusedSimpArgs false
/-- the blocks of roads -/
def nfp (g b : Nat) (PA OA : Option Addr) (hs : List Hd) (k : Nat) : Prop :=
  k = g ∨ k = b ∨ (∃ a : Addr, PA = some a ∧ k = a.block) ∨ (∃ a : Addr, OA = some a ∧ k = a.block) ∨ ∃ h ∈ hs, (encH h).ownBlock = some k
def Flat {α : Type} (d : Kd α) : Prop := ∀ {w w1 : World} {base : Nat} {ok1 ok2 : Nat → Prop} {x : α} {cs : List Value}, d.M w base ok1 x cs → d.M w1 base ok2 x cs
theorem flatPt : Flat kPt := fun h => h
theorem flatRd : Flat kRd := fun h => h
theorem flatHd : Flat kHd := fun h => h
theorem flat_keep {α : Type} {d : Kd α} (hd : Flat d) {e base : Nat} {w w1 : World} {ok ok' : Nat → Prop} {v : Value} {xs : List α} (h : d.R e w base ok v xs) (hm : ∀ k, v.ownBlock = some k → w1.heap[k]? = w.heap[k]?) (hok : ∀ k, v.ownBlock = some k → ok' k) : d.R e w1 base ok' v xs := by
  obtain ⟨_, inner, ho, hr⟩ := h
  exact ⟨hok, inner, own_move ho hm, hr.imp_ (fun _ _ hp => hd hp)⟩
theorem R_ty {α : Type} {d : Kd α} {e base : Nat} {w : World} {ok : Nat → Prop} {v : Value} {xs : List α} (h : d.R e w base ok v xs) (k : Nat) (hk : v.ownBlock = some k) : ∃ cs, w.heap[k]? = some (.cells cs e (0, 0)) := by
  obtain ⟨_, inner, ho, hr⟩ := h
  exact own_typed ho k hk
theorem keep_row {α : Type} {d : Kd α} (hd : Flat d) {e base : Nat} {w w1 : World} {ok : Nat → Prop} {v : Value} {xs : List α} (h : d.R e w base ok v xs) {row : Option Nat} (hg : w.grownBy w1 row) {t : TypeId} (ht : e ≠ t) (hrow : ∀ k, row = some k → ∃ cs, w.heap[k]? = some (.cells cs t (0, 0))) : d.R e w1 base ok v xs :=
  flat_keep hd h (fun k hk => hg.block k (Kd.R_lt h k hk) (fun e' => by
    obtain ⟨c1, h1⟩ := R_ty h k hk
    obtain ⟨c2, h2⟩ := hrow k e'.symm
    rw [h1] at h2
    cases h2
    exact ht rfl)) (fun k hk => h.1 k hk)
theorem keep_map {w w1 : World} {b : Nat} {f : Pt → Option Nat} (h : MapAt encP okP w b f) {row : Option Nat} (hg : w.grownBy w1 row) {t : TypeId} (hrow : ∀ k, row = some k → ∃ cs, w.heap[k]? = some (.cells cs t (0, 0))) : MapAt encP okP w1 b f :=
  h.move (hg.block b h.lt (fun e' => by
    obtain ⟨c2, h2⟩ := hrow b e'.symm
    exact h.ne h2 rfl))
theorem keep_blk {w w1 : World} {g : Nat} {cs : Array Value} {tg : TypeId} (h : w.heap[g]? = some (.cells cs tg (0, 0))) {row : Option Nat} (hg : w.grownBy w1 row) {t : TypeId} (ht : tg ≠ t) (hrow : ∀ k, row = some k → ∃ cs, w.heap[k]? = some (.cells cs t (0, 0))) : w1.heap[g]? = some (.cells cs tg (0, 0)) :=
  (hg.block g (blk_lt h) (fun e' => by
    obtain ⟨c2, h2⟩ := hrow g e'.symm
    rw [h] at h2
    cases h2
    exact ht rfl)).trans h
theorem grown_cell (w : World) (g i : Nat) (u : Value) : w.grownBy (w.setCell ⟨g, i, none⟩ u) (some g) := by
  have h := (Chg.refl (F := fun k => k = g) w).setCell (p := ⟨g, i, none⟩) (Or.inl rfl) u
  exact ⟨h.os, h.tape, h.output, h.size, fun k hk hne => h.block k hk (fun e => hne (by rw [e]))⟩
theorem NetAt.move {w w' : World} {base g : Nat} {PA : Option Addr} {pc : Nat} {OA : Option Addr} {oc b : Nat} {ps : List Pt} {hs : List Hd} {out : List (List Rd)} (h : NetAt w base g PA pc OA oc b ps hs out) (hm : ∀ k, nfp g b PA OA hs k → w'.heap[k]? = w.heap[k]?) : NetAt w' base g PA pc OA oc b ps hs out where
  blk := (hm g (Or.inl rfl)).trans h.blk
  pts := flat_keep flatPt h.pts (fun k hk => hm k (by
    cases PA with
    | none => simp [Value.ownBlock] at hk
    | some a => exact Or.inr (Or.inr (Or.inl ⟨a, rfl, by simpa [Value.ownBlock] using hk.symm⟩)))) (fun _ _ => trivial)
  ows := flat_keep flatHd h.ows (fun k hk => hm k (by
    cases OA with
    | none => simp [Value.ownBlock] at hk
    | some a => exact Or.inr (Or.inr (Or.inr (Or.inl ⟨a, rfl, by simpa [Value.ownBlock] using hk.symm⟩))))) (fun _ _ => trivial)
  rows j hd l h1 h2 := ⟨(h.rows j hd l h1 h2).1, flat_keep flatRd (h.rows j hd l h1 h2).2 (fun k hk => hm k (Or.inr (Or.inr (Or.inr (Or.inr ⟨hd, List.mem_of_getElem? h1, hk⟩))))) (fun _ _ => trivial)⟩
  len := h.len
  apart := h.apart
  map := h.map.move (hm b (Or.inr (Or.inl rfl)))
  ge := h.ge
  okp := h.okp
  nodup := h.nodup
  most := h.most
  short := h.short
theorem NetAt.fp_ge {w : World} {base g : Nat} {PA : Option Addr} {pc : Nat} {OA : Option Addr} {oc b : Nat} {ps : List Pt} {hs : List Hd} {out : List (List Rd)} (h : NetAt w base g PA pc OA oc b ps hs out) (k : Nat) (hk : nfp g b PA OA hs k) : base ≤ k ∧ k < w.heap.size := by
  rcases hk with rfl | rfl | ⟨a, rfl, rfl⟩ | ⟨a, rfl, rfl⟩ | ⟨hd, hm, hk⟩
  · exact ⟨h.ge.1, blk_lt h.blk⟩
  · exact ⟨h.ge.2, h.map.lt⟩
  · exact ⟨Kd.R_base h.pts _ (by simp [Value.ownBlock]), Kd.R_lt h.pts _ (by simp [Value.ownBlock])⟩
  · exact ⟨Kd.R_base h.ows _ (by simp [Value.ownBlock]), Kd.R_lt h.ows _ (by simp [Value.ownBlock])⟩
  · obtain ⟨j, hj⟩ := List.getElem?_of_mem hm
    have hjl : j < out.length := by have := (List.getElem?_eq_some_iff.1 hj).1; have := h.len; omega
    have := (h.rows j hd _ hj (List.getElem?_eq_getElem hjl)).2
    exact ⟨Kd.R_base this _ hk, Kd.R_lt this _ hk⟩
/-- roads while they are written: u0, u1 stand in their block; v0, v1 are the rows -/
structure RawAt (w : World) (base g : Nat) (u0 u1 v0 v1 : Value) (b : Nat) (ps : List Pt) (hs hs2 : List Hd) (out : List (List Rd)) (f : Pt → Option Nat) : Prop where
  blk : w.heap[g]? = some (.cells #[u0, u1, .map (some b)] 72 (0, 0))
  pts : kPt.R 59 w base (fun _ => True) v0 ps
  ows : kHd.R 23 w base (fun _ => True) v1 hs2
  rows : ∀ (j : Nat) (h : Hd) (l : List Rd), hs[j]? = some h → out[j]? = some l → h.2.1 = l.length ∧ kRd.R 40 w base (fun _ => True) (encH h) l
  map : MapAt encP okP w b f
theorem NetAt.raw {w : World} {base g : Nat} {PA : Option Addr} {pc : Nat} {OA : Option Addr} {oc b : Nat} {ps : List Pt} {hs : List Hd} {out : List (List Rd)} (h : NetAt w base g PA pc OA oc b ps hs out) : RawAt w base g (.slice PA ps.length pc) (.slice OA ps.length oc) (.slice PA ps.length pc) (.slice OA ps.length oc) b ps hs hs out (idxP ps) :=
  ⟨h.blk, h.pts, h.ows, h.rows, h.map⟩
section
variable {w w1 : World} {base g : Nat} {u0 u1 v0 v1 : Value} {b : Nat} {ps : List Pt} {hs hs2 : List Hd} {out : List (List Rd)} {f : Pt → Option Nat}
theorem RawAt.below (h : RawAt w base g u0 u1 v0 v1 b ps hs hs2 out f) (hb : Below w.heap.size w w1) : RawAt w1 base g u0 u1 v0 v1 b ps hs hs2 out f :=
  ⟨(hb.block _ (blk_lt h.blk)).trans h.blk, Kd.R_below h.pts hb, Kd.R_below h.ows hb, fun j k l h1 h2 => ⟨(h.rows j k l h1 h2).1, Kd.R_below (h.rows j k l h1 h2).2 hb⟩, h.map.move (hb.block _ h.map.lt)⟩
theorem RawAt.mapped (h : RawAt w base g u0 u1 v0 v1 b ps hs hs2 out f) {f' : Pt → Option Nat} (hm : MapAt encP okP w1 b f') (hg : w.grownBy w1 (some b)) : RawAt w1 base g u0 u1 v0 v1 b ps hs hs2 out f' := by
  have hne : ∀ {α : Type} {d : Kd α} {e : Nat} {v : Value} {xs : List α}, d.R e w base (fun _ => True) v xs → ∀ k, v.ownBlock = some k → w1.heap[k]? = w.heap[k]? := fun hr k hk => hg.block k (Kd.R_lt hr k hk) (fun e => by
    obtain ⟨c, hc⟩ := R_ty hr k hk
    cases e
    exact h.map.ne hc rfl)
  refine ⟨(hg.block g (blk_lt h.blk) (fun e => by cases e; exact h.map.ne h.blk rfl)).trans h.blk, flat_keep flatPt h.pts (hne h.pts) (fun _ _ => trivial), flat_keep flatHd h.ows (hne h.ows) (fun _ _ => trivial), fun j hd l h1 h2 => ⟨(h.rows j hd l h1 h2).1, flat_keep flatRd (h.rows j hd l h1 h2).2 (hne (h.rows j hd l h1 h2).2) (fun _ _ => trivial)⟩, hm⟩
theorem RawAt.pts' (h : RawAt w base g u0 u1 v0 v1 b ps hs hs2 out f) {v0' : Value} {ps' : List Pt} (hr : kPt.R 59 w1 base (fun _ => True) v0' ps') (hg : w.grownBy w1 v0.ownBlock) : RawAt w1 base g u0 u1 v0' v1 b ps' hs hs2 out f :=
  ⟨keep_blk h.blk hg (t := 59) (by decide) (R_ty h.pts), hr, keep_row flatHd h.ows hg (t := 59) (by decide) (R_ty h.pts), fun j hd l h1 h2 => ⟨(h.rows j hd l h1 h2).1, keep_row flatRd (h.rows j hd l h1 h2).2 hg (t := 59) (by decide) (R_ty h.pts)⟩, keep_map h.map hg (R_ty h.pts)⟩
theorem RawAt.ows' (h : RawAt w base g u0 u1 v0 v1 b ps hs hs2 out f) {v1' : Value} {hs' : List Hd} (hr : kHd.R 23 w1 base (fun _ => True) v1' hs') (hg : w.grownBy w1 v1.ownBlock) : RawAt w1 base g u0 u1 v0 v1' b ps hs hs' out f :=
  ⟨keep_blk h.blk hg (t := 23) (by decide) (R_ty h.ows), keep_row flatPt h.pts hg (t := 23) (by decide) (R_ty h.ows), hr, fun j hd l h1 h2 => ⟨(h.rows j hd l h1 h2).1, keep_row flatRd (h.rows j hd l h1 h2).2 hg (t := 23) (by decide) (R_ty h.ows)⟩, keep_map h.map hg (R_ty h.ows)⟩
theorem RawAt.set (h : RawAt w base g u0 u1 v0 v1 b ps hs hs2 out f) (i : Nat) (u u0' u1' : Value) (hu : (#[u0, u1, .map (some b)] : Array Value).setIfInBounds i u = #[u0', u1', .map (some b)]) : RawAt (w.setCell ⟨g, i, none⟩ u) base g u0' u1' v0 v1 b ps hs hs2 out f :=
  have hg := grown_cell w g i u
  have hrow : ∀ k, some g = some k → ∃ cs, w.heap[k]? = some (.cells cs 72 (0, 0)) := fun k e => by cases e; exact ⟨_, h.blk⟩
  ⟨blk_put h.blk i u hu, keep_row flatPt h.pts hg (t := 72) (by decide) hrow, keep_row flatHd h.ows hg (t := 72) (by decide) hrow, fun j hd l h1 h2 => ⟨(h.rows j hd l h1 h2).1, keep_row flatRd (h.rows j hd l h1 h2).2 hg (t := 72) (by decide) hrow⟩, keep_map h.map hg hrow⟩
end
end Go.Proofs.Ytgbfhhmmkhjhhaa.Roads
namespace Go.Proofs.Ytgbfhhmmkhjhhaa.Copy
open Go.RowKit Go.Proofs.YtgbfhhmmkhjhhaaW.PrintWords
set_option linter.unusedVariables false
/-- cs written from place o on -/
def wr (X : List Value) (o : Nat) (cs : List Value) : List Value := X.take o ++ cs ++ X.drop (o + cs.length)
theorem wr_len {X : List Value} {o : Nat} {cs : List Value} (h : o + cs.length ≤ X.length) : (wr X o cs).length = X.length := by
  unfold wr
  simp
  omega
theorem wr_get {X : List Value} {o : Nat} {cs : List Value} (h : o + cs.length ≤ X.length) (j : Nat) : (wr X o cs)[j]? = if j < o then X[j]? else if j < o + cs.length then cs[j - o]? else X[j]? := by
  unfold wr
  rw [List.append_assoc, List.getElem?_append, List.length_take, Nat.min_eq_left (by omega)]
  by_cases h1 : j < o
  · rw [if_pos h1, if_pos h1, List.getElem?_take, if_pos h1]
  · rw [if_neg h1, if_neg h1, List.getElem?_append]
    by_cases h2 : j < o + cs.length
    · rw [if_pos h2, if_pos (by omega)]
    · rw [if_neg h2, if_neg (by omega), List.getElem?_drop]
      congr 1
      omega
theorem take_get {X L : List Value} {a j : Nat} (h : X.take a = L.take a) (hj : j < a) : X[j]? = L[j]? := by
  have := congrArg (fun l => l[j]?) h
  simp only [List.getElem?_take] at this
  rwa [if_pos hj, if_pos hj] at this
theorem ins_get {L cs : List Value} {a m : Nat} (hL : L.length = m) (ha : a ≤ m) (j : Nat) : (L.take a ++ cs ++ L.drop a)[j]? = if j < a then L[j]? else if j < a + cs.length then cs[j - a]? else L[j - cs.length]? := by
  rw [List.append_assoc, List.getElem?_append, List.length_take, Nat.min_eq_left (by omega)]
  by_cases h1 : j < a
  · rw [if_pos h1, if_pos h1, List.getElem?_take, if_pos h1]
  · rw [if_neg h1, if_neg h1, List.getElem?_append]
    by_cases h2 : j < a + cs.length
    · rw [if_pos h2, if_pos (by omega)]
    · rw [if_neg h2, if_neg (by omega), List.getElem?_drop]
      congr 1
      omega
theorem ins_grow {X L cs : List Value} {a m : Nat} (hL : L.length = m) (ha : a ≤ m) (hX : m + cs.length ≤ X.length) (h : X.take a = L.take a) : (wr (wr X a cs) (a + cs.length) (L.drop a)).take (m + cs.length) = L.take a ++ cs ++ L.drop a := by
  have e1 : (L.drop a).length = m - a := by rw [List.length_drop, hL]
  apply List.ext_getElem?
  intro j
  rw [ins_get hL ha, List.getElem?_take]
  by_cases h0 : j < m + cs.length
  · rw [if_pos h0, wr_get (by rw [wr_len (by omega), e1]; omega), e1, wr_get (by omega)]
    by_cases h1 : j < a
    · rw [if_pos (by omega), if_pos h1, if_pos h1]; exact take_get h h1
    · by_cases h2 : j < a + cs.length
      · rw [if_pos h2, if_neg h1, if_pos h2, if_neg h1, if_pos h2]
      · rw [if_neg h2, if_pos (by omega), if_neg h1, if_neg h2, List.getElem?_drop]
        congr 1
        omega
  · rw [if_neg h0, if_neg (by omega), if_neg (by omega), List.getElem?_eq_none (by omega)]
theorem ins_shift {X L cs : List Value} {a m : Nat} (hL : L.length = m) (ha : a ≤ m) (hX : m + cs.length ≤ X.length) (h : X.take a = L.take a) : (wr (wr X (a + cs.length) (L.drop a)) a cs).take (m + cs.length) = L.take a ++ cs ++ L.drop a := by
  have e1 : (L.drop a).length = m - a := by rw [List.length_drop, hL]
  apply List.ext_getElem?
  intro j
  rw [ins_get hL ha, List.getElem?_take]
  by_cases h0 : j < m + cs.length
  · rw [if_pos h0, wr_get (by rw [wr_len (by rw [e1]; omega)]; omega), wr_get (by rw [e1]; omega), e1]
    by_cases h1 : j < a
    · rw [if_pos h1, if_pos (by omega), if_pos h1]; exact take_get h h1
    · by_cases h2 : j < a + cs.length
      · rw [if_neg h1, if_pos h2, if_neg h1, if_pos h2]
      · rw [if_neg h1, if_neg h2, if_neg h2, if_pos (by omega), if_neg h1, if_neg h2, List.getElem?_drop]
        congr 1
        omega
  · rw [if_neg h0, if_neg (by omega), if_neg (by omega), List.getElem?_eq_none (by omega)]
theorem R_of_cells {α : Type} (d : Kd α) {w : World} {e base : Nat} {ok : Nat → Prop} {g cap : Nat} {cur : Array Value} {xs : List α} {inner : List Value} (hok : ok g) (hb : base ≤ g) (hh : w.heap[g]? = some (.cells cur e (0, 0))) (hl : xs.length ≤ cap) (hm : cap ≤ maxLen) (hcs : cur.size = cap * d.sz) (ht : cur.toList.take (xs.length * d.sz) = inner) (hr : Reps (d.M w base (fun k => ok k ∧ some k ≠ some g)) d.sz xs inner) : d.R e w base ok (.slice (some ⟨g, 0, none⟩) xs.length cap) xs :=
  ⟨fun k hk => by
    have : g = k := by simpa [Value.ownBlock] using hk
    exact this ▸ hok, inner, ⟨hr.1, .inr ⟨g, cap, cur, rfl, hb, hh, hl, hm, hcs, ht⟩⟩, hr⟩
/-- p put in at place i -/
def insL {α : Type} (xs : List α) (i : Nat) (p : α) : List α := xs.take i ++ [p] ++ xs.drop i
theorem insL_len {α : Type} (xs : List α) (i : Nat) (p : α) : (insL xs i p).length = xs.length + 1 := by
  unfold insL
  simp
  omega
theorem reps_one {α : Type} {R : α → List Value → Prop} {size : Nat} {x : α} {cs : List Value} (h : R x cs) (hl : cs.length = size) : Reps R size [x] cs := by
  have := (Reps.none R size).snoc h hl
  simpa using this
theorem reps_ins {α : Type} {R : α → List Value → Prop} {size : Nat} {xs : List α} {L : List Value} (h : Reps R size xs L) {i : Nat} (hi : i ≤ xs.length) {p : α} {cs : List Value} (hp : R p cs) (hl : cs.length = size) : Reps R size (insL xs i p) (L.take (i * size) ++ cs ++ L.drop (i * size)) :=
  Kd.reps_append (Kd.reps_append (Kd.reps_take h hi) (reps_one hp hl)) (Kd.reps_drop h)
variable {P : Program}
theorem run_copy_wr (w : World) (dT sT ty elem : TypeId) (g o dLen dCap : Nat) (a : Addr) (sLen sCap : Nat) (cur : Array Value) (t : TypeId) (cs : List Value) (sz n : Nat)
    (hu : P.underlying dT = some (.slice elem)) (hs : (P.info? elem).map (·.size) = some sz)
    (hg : w.heap[g]? = some (.cells cur t (0, 0))) (hn : n = Nat.min sLen dLen) (hcs : cs.length = n * sz)
    (hsrc : ∀ j v, cs[j]? = some v → w.cell? (a.add j) = some v) (hfit : o + cs.length ≤ cur.size) (h1 : ∀ v ∈ cs, v.oneCell' = true) :
    (Builtin.copy_ #[dT, sT] ty #[.slice (some ⟨g, o, none⟩) dLen dCap, .slice (some a) sLen sCap]).run P w = .ok (goInt n) (w.setRow g (wr cur.toList o cs).toArray) :=
  run_copy_big w dT sT ty elem g o dLen dCap a sLen sCap cur t cs sz n hu hs hg hn hcs hsrc hfit h1
end Go.Proofs.Ytgbfhhmmkhjhhaa.Copy
