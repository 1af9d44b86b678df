/- Paths: the order, the heap of nodes told by what it holds. Conditions: those that stand in each theorem. Written in session 6. -/
import Derived.Test.YtgbfhhmmkhjhhaaCHeapIRC
import Derived.Test.YtgbfhhmmkhjhhaaCHeapIRD
import Derived.Test.YtgbfhhmmkhjhhaaCRoadsG
namespace Go.Proofs.Ytgbfhhmmkhjhhaa.Paths
open Go.RowKit Go.Proofs.YtgbfhhmmkhjhhaaW.PrintWords Go.Proofs.YtgbfhhmmkhjhhaaW.PrintLast Go.Proofs.YtgbfhhmmkhjhhaaW.PrintMore Go.Proofs.Ytgbfhhmmkhjhhaa.HeapW Go.Proofs.Ytgbfhhmmkhjhhaa.HeapP Go.Proofs.Ytgbfhhmmkhjhhaa.MapAt Go.Proofs.Ytgbfhhmmkhjhhaa.Dij
open Go.Proofs.Ytgbfhhmmkhjhhaa.HeapIR hiding It Pt
set_option linter.unusedVariables false
set_option linter.unusedSimpArgs false
abbrev F36 : Nat := 36
abbrev LV : Value := .func (.func F36) #[] #[]
set_option maxHeartbeats 3200000 in
set_option maxRecDepth 100000 in
theorem less_calls (a b : Int × Int) (w : World) : Calls Try.prog 36 #[.agg #[.int .i64 a.1, .int .i64 a.2], .agg #[.int .i64 b.1, .int .i64 b.2]] w fun e w' => e = .returned (.bool (lex a b)) ∧ Below w.heap.size w w' := by
  have HB : Aside0 (Below w.heap.size w ((w.alloc (.cells #[.int .i64 a.1, .int .i64 a.2] 83)).alloc (.cells #[.int .i64 b.1, .int .i64 b.2] 83))) := ⟨below_alloc (below_alloc (Below.refl _ _) _) _⟩
  go_enter Try.func36, Try.ntmps36
  by_cases h1 : a.1 < b.1
  · have hd : decide (a.1 < b.1) = true := decide_eq_true h1
    have hlx : lex a b = true := lex_iff.2 (Or.inl h1)
    have HLX := Aside0.mk hlx
    clear hlx
    go_wp2
    go_ret
    exact ⟨by rw [HLX.out]; rfl, HB.out⟩
  · have hd : decide (a.1 < b.1) = false := decide_eq_false h1
    by_cases h2 : a.1 = b.1
    · have hd2 : (a.1 == b.1) = true := by rw [beq_iff_eq]; exact h2
      by_cases h3 : a.2 < b.2
      · have hd3 : decide (a.2 < b.2) = true := decide_eq_true h3
        have hlx : lex a b = true := lex_iff.2 (Or.inr ⟨h2, h3⟩)
        have HLX := Aside0.mk hlx
        clear hlx h2
        go_wp2
        go_ret
        exact ⟨by rw [HLX.out]; rfl, HB.out⟩
      · have hd3 : decide (a.2 < b.2) = false := decide_eq_false h3
        have hlx : lex a b = false := lex_no.2 (by omega)
        have HLX := Aside0.mk hlx
        clear hlx h2
        go_wp2
        go_ret
        exact ⟨by rw [HLX.out]; rfl, HB.out⟩
    · have hd2 : (a.1 == b.1) = false := by rw [beq_eq_false_iff_ne]; exact h2
      have hlx : lex a b = false := lex_no.2 (by omega)
      have HLX := Aside0.mk hlx
      clear hlx
      go_wp2
      go_ret
      exact ⟨by rw [HLX.out]; rfl, HB.out⟩
theorem less_less : HeapIR.Less F36 lex := ⟨⟨_, Try.func36, by kernel_rfl, by kernel_rfl⟩, less_calls⟩
/-- the heap at g, its blocks F: it holds M, c came -/
def HeapS (w : World) (base g : Nat) (F : Nat → Prop) (M : List It) (c : Nat) : Prop :=
  ∃ A cap b l, HAt w base g LV A cap b l c ∧ F = hfp g A b ∧ RelM l c M ∧ HeapOK lex l
theorem HeapS.ge {w : World} {base g : Nat} {F : Nat → Prop} {M : List It} {c : Nat} (h : HeapS w base g F M c) (k : Nat) (hk : F k) : base ≤ k ∧ k < w.heap.size := by
  obtain ⟨A, cap, b, l, h1, rfl, h2, h3⟩ := h
  exact ⟨h1.fp_ge k hk, h1.fp_lt k hk⟩
theorem HeapS.at_g {w : World} {base g : Nat} {F : Nat → Prop} {M : List It} {c : Nat} (h : HeapS w base g F M c) : F g := by
  obtain ⟨A, cap, b, l, h1, rfl, h2, h3⟩ := h
  exact Or.inl rfl
theorem HeapS.chg {w w' : World} {base g : Nat} {F G : Nat → Prop} {M : List It} {c : Nat} (h : HeapS w base g F M c) (hc : Chg G w w') (hFG : ∀ k, F k → ¬ G k) : HeapS w' base g F M c := by
  obtain ⟨A, cap, b, l, h1, rfl, h2, h3⟩ := h
  exact ⟨A, cap, b, l, h1.below0 (fun k hk => hc.block k (h1.fp_lt k hk) (hFG k hk)), rfl, h2, h3⟩
theorem HeapS.below {w w' : World} {base g : Nat} {F : Nat → Prop} {M : List It} {c : Nat} (h : HeapS w base g F M c) (hb : Below w.heap.size w w') : HeapS w' base g F M c := by
  obtain ⟨A, cap, b, l, h1, rfl, h2, h3⟩ := h
  exact ⟨A, cap, b, l, h1.below hb, rfl, h2, h3⟩
theorem HeapS.keys {w : World} {base g : Nat} {F : Nat → Prop} {M : List It} {c : Nat} (h : HeapS w base g F M c) : Keys M := by
  obtain ⟨A, cap, b, l, h1, rfl, h2, h3⟩ := h
  exact h2.keysM
theorem heap_new (w : World) : Calls Try.prog 35 #[.func (.func 36) #[] #[]] w fun e w' => ∃ g F, e = .returned (.pointer (some ⟨g, 0, none⟩)) ∧ HeapS w' w.heap.size g F [] 0 ∧ Below w.heap.size w w' := by
  refine (HeapIR.new_calls F36 w).mono ?_
  rintro e w' ⟨g, b, rfl, h, hb⟩
  exact ⟨g, _, rfl, ⟨none, 0, b, [], h, rfl, RelM.empty, fun j h0 hj => by simp at hj⟩, hb⟩
theorem HeapS.put {w : World} {base g : Nat} {F : Nat → Prop} {M : List It} {c : Nat} (h : HeapS w base g F M c) (key : Int) (rank : Int × Int) (hk : okK key) (hl : M.length < 4000000000000) (hc : c < 4000000000000) (hb : base ≤ w.heap.size) :
    Calls Try.prog 37 #[.pointer (some ⟨g, 0, none⟩), .int .i64 key, .agg #[.int .i64 rank.1, .int .i64 rank.2]] w fun e w' => e = .returned (.int .i64 0) ∧ ∃ F', HeapS w' base g F' (M.filter (fun y => decide (y.1 ≠ key)) ++ [(key, rank, ((c : Int) + 1))]) (c + 1) ∧ Chg F w w' ∧ ∀ k, F' k → F k ∨ w.heap.size ≤ k := by
  obtain ⟨A, cap, b, l, h1, rfl, h2, h3⟩ := h
  refine (put_calls base g F36 lex less_less A cap b l c key rank w h1 hk (by rw [h2.perm.length_eq]; exact hl) hc hb).mono ?_
  rintro e w' ⟨rfl, A', cap', h4, h5, h6⟩
  refine ⟨rfl, _, ⟨A', cap', b, _, h4, rfl, ?_, putL_ok lex_swo h3 _ _ _⟩, h5, ?_⟩
  · exact h2.put key rank
  · rintro k (rfl | rfl | ⟨a, ha, rfl⟩)
    · exact Or.inl (Or.inl rfl)
    · exact Or.inl (Or.inr (Or.inl rfl))
    · rcases h6 a ha with ⟨a0, e0, e1⟩ | q
      · exact Or.inl (Or.inr (Or.inr ⟨a0, e0, e1⟩))
      · exact Or.inr q
theorem HeapS.pop {w : World} {base g : Nat} {F : Nat → Prop} {M : List It} {c : Nat} (h : HeapS w base g F M c) {b : Nat} (hm : leastF lex (fun i => (at_ M i).2.1) M.length = some b) (hl : M.length < 4000000000000) :
    Calls Try.prog 38 #[.pointer (some ⟨g, 0, none⟩)] w fun e w' => e = .returned (.tuple #[.int .i64 (at_ M b).1, .agg #[.int .i64 (at_ M b).2.1.1, .int .i64 (at_ M b).2.1.2], .bool true]) ∧ HeapS w' base g F (M.filter (fun y => decide (y.1 ≠ (at_ M b).1))) c ∧ Chg F w w' := by
  obtain ⟨A, cap, bb, l, h1, rfl, h2, h3⟩ := h
  obtain ⟨q1, q2, q3⟩ := h2.first lex_swo h3 hm
  refine (pop_calls base g F36 lex less_less A cap bb l c w h1 q3 (by rw [h2.perm.length_eq]; omega)).mono ?_
  rintro e w' ⟨rfl, h4, h5⟩
  rw [q1]
  have hi : idxL l (at_ M b).1 = some 0 := by
    rw [← q1]
    exact idx_at h1.keys q3
  exact ⟨rfl, ⟨A, cap, bb, _, h4, rfl, h2.drop hi, dropL_ok lex_swo h3 q3⟩, h5⟩
theorem HeapS.pop_none {w : World} {base g : Nat} {F : Nat → Prop} {c : Nat} (h : HeapS w base g F [] c) :
    Calls Try.prog 38 #[.pointer (some ⟨g, 0, none⟩)] w fun e w' => e = .returned (.tuple #[.int .i64 0, .agg #[.int .i64 0, .int .i64 0], .bool false]) ∧ Below w.heap.size w w' := by
  obtain ⟨A, cap, bb, l, h1, rfl, h2, h3⟩ := h
  have hl : l = [] := List.eq_nil_of_length_eq_zero (by rw [h2.perm.length_eq]; rfl)
  subst hl
  exact HeapIR.pop_none base g _ A cap bb c w h1
theorem HeapS.rank {w : World} {base g : Nat} {F : Nat → Prop} {M : List It} {c : Nat} (h : HeapS w base g F M c) (key : Int) (hk : okK key) {j : Nat} (hj : idxL M key = some j) :
    Calls Try.prog 39 #[.pointer (some ⟨g, 0, none⟩), .int .i64 key] w fun e w' => e = .returned (.tuple #[.agg #[.int .i64 (at_ M j).2.1.1, .int .i64 (at_ M j).2.1.2], .bool true]) ∧ Below w.heap.size w w' := by
  obtain ⟨A, cap, bb, l, h1, rfl, h2, h3⟩ := h
  cases hi : idxL l key with
  | none => rw [h2.idx.1 hi] at hj; cases hj
  | some i =>
    rw [← h2.rank hi hj]
    exact rank_calls base g _ A cap bb l c key w h1 hk hi
theorem HeapS.rank_none {w : World} {base g : Nat} {F : Nat → Prop} {M : List It} {c : Nat} (h : HeapS w base g F M c) (key : Int) (hk : okK key) (hj : idxL M key = none) :
    Calls Try.prog 39 #[.pointer (some ⟨g, 0, none⟩), .int .i64 key] w fun e w' => e = .returned (.tuple #[.agg #[.int .i64 0, .int .i64 0], .bool false]) ∧ Below w.heap.size w w' := by
  obtain ⟨A, cap, bb, l, h1, rfl, h2, h3⟩ := h
  exact HeapIR.rank_none base g _ A cap bb l c key w h1 hk (h2.idx.2 hj)
/-- a call of a function value, not in a region that draws -/
theorem wpList_via {P : Program} {ops : Array Oper} {rest : List Oper} {o : Oper} {a : Act} {Q : Exit → Act → World → Prop} {w : World} {f : FuncId} {fn : Func} {x : Operand} {as_ : Array Operand} {ts : Array TypeId} {bnd cap : Array Value} (hf : P.funcs[f]? = Option.some fn) (hname : (fn.name == "runtime.NumGoroutine") = false) (hb : fn.body.isSome = true) (args : Array Value)
    (hgd : o.guard = none) (hop : o.op = .call { callee := .value x, args := as_, argTypes := ts }) (hx : a.eval x = .func (.func f) bnd cap) (hargs : as_.map a.eval = args)
    (h : Calls P f (bnd ++ args ++ cap) w fun e w' => ∃ v, e = .returned v ∧ wpList P ops Q rest (a.put o.dst v) w') : wpList P ops Q (o :: rest) a w := by
  refine wpList_plain hgd fun K hK => ?_
  have he := enters_ hf hname hb (bnd ++ args ++ cap) w
  have hrun : (execOp a.eval o).run P w = .ok (.enter f (bnd ++ args ++ cap)) w := by
    unfold execOp
    simp [hop, resolve, Deferred.ofValue, invoke, hargs, hx]
    rw [← Array.append_assoc]
    exact he
  unfold Oper.wp
  rw [hrun, Oper.upon_enter]
  refine h.mono fun e w'' hh => ?_
  obtain ⟨v, rfl, hk⟩ := hh
  exact hK _ _ hk
end Go.Proofs.Ytgbfhhmmkhjhhaa.Paths
namespace Go.Proofs.Ytgbfhhmmkhjhhaa.Paths
open Go.RowKit Go.Proofs.YtgbfhhmmkhjhhaaW.PrintWords Go.Proofs.YtgbfhhmmkhjhhaaW.PrintLast Go.Proofs.YtgbfhhmmkhjhhaaW.PrintMore Go.Proofs.Ytgbfhhmmkhjhhaa.HeapW Go.Proofs.Ytgbfhhmmkhjhhaa.HeapP Go.Proofs.Ytgbfhhmmkhjhhaa.MapAt Go.Proofs.Ytgbfhhmmkhjhhaa.Dij
open Go.Proofs.Ytgbfhhmmkhjhhaa.HeapIR hiding It Pt
open Go.Proofs.Ytgbfhhmmkhjhhaa.Roads (flat_keep R_ty Flat)
set_option linter.unusedVariables false
set_option linter.unusedSimpArgs false
abbrev kInt : Kd Int := Kd.int .i64
theorem flatInt : Flat kInt := fun h => h
/-- the costs' row (block gc), the order (ov), the heap (gh) -/
structure CS (w W : World) (gc cc gh : Nat) (F : Nat → Prop) (ov : Value) (c o : List Int) (M : List It) (cnt : Nat) : Prop where
  cost : kInt.R 3 W w.heap.size (fun _ => True) (.slice (some ⟨gc, 0, none⟩) c.length cc) c
  ord : kInt.R 3 W w.heap.size (fun _ => True) ov o
  heap : HeapS W w.heap.size gh F M cnt
  below : Below w.heap.size w W
  a1 : ¬ F gc
  a2 : ∀ k, ov.ownBlock = some k → k ≠ gc ∧ ¬ F k
section
variable {w W W' : World} {gc cc gh : Nat} {F : Nat → Prop} {ov : Value} {c o : List Int} {M : List It} {cnt : Nat}
theorem CS.gc_lt (h : CS w W gc cc gh F ov c o M cnt) : gc < W.heap.size := Kd.R_lt h.cost gc (by simp [Value.ownBlock])
theorem CS.gc_ge (h : CS w W gc cc gh F ov c o M cnt) : w.heap.size ≤ gc := Kd.R_base h.cost gc (by simp [Value.ownBlock])
theorem CS.step (h : CS w W gc cc gh F ov c o M cnt) (hb : Below W.heap.size W W') : CS w W' gc cc gh F ov c o M cnt :=
  ⟨Kd.R_below h.cost hb, Kd.R_below h.ord hb, h.heap.below hb, below_step h.below hb, h.a1, h.a2⟩
/-- the heap has changed -/
theorem CS.heapd (h : CS w W gc cc gh F ov c o M cnt) {F' : Nat → Prop} {M' : List It} {cnt' : Nat} (hh : HeapS W' w.heap.size gh F' M' cnt') (hc : Chg F W W') (hF : ∀ k, F' k → F k ∨ W.heap.size ≤ k) : CS w W' gc cc gh F' ov c o M' cnt' where
  cost := flat_keep flatInt h.cost (fun k hk => hc.block k (Kd.R_lt h.cost k hk) (fun q => h.a1 (by
    have : gc = k := by simpa [Value.ownBlock] using hk
    exact this ▸ q))) (fun _ _ => trivial)
  ord := flat_keep flatInt h.ord (fun k hk => hc.block k (Kd.R_lt h.ord k hk) (h.a2 k hk).2) (fun _ _ => trivial)
  heap := hh
  below := ((Chg.of_below (F := F) h.below).trans hc).below (Nat.le_refl _) (fun k hk => (h.heap.ge k hk).1)
  a1 q := by
    rcases hF gc q with q | q
    · exact h.a1 q
    · have := h.gc_lt; omega
  a2 k hk := ⟨(h.a2 k hk).1, fun q => by
    rcases hF k q with q | q
    · exact (h.a2 k hk).2 q
    · have := Kd.R_lt h.ord k hk; omega⟩
/-- a cost is written -/
theorem CS.setc (h : CS w W gc cc gh F ov c o M cnt) (i x : Int) : CS w (W.setCell ⟨gc, i.toNat, none⟩ (.int .i64 x)) gc cc gh F ov (c.set i.toNat x) o M cnt := by
  have hp := Kd.R_put h.cost i x
  have hl : (c.set i.toNat x).length = c.length := List.length_set
  refine ⟨by rw [hl]; exact hp.1, flat_keep flatInt h.ord (fun k hk => hp.2.block k (Kd.R_lt h.ord k hk) (fun e => (h.a2 k hk).1 (Option.some.inj e))) (fun _ _ => trivial), ?_, h.below.setCell h.gc_ge _, h.a1, h.a2⟩
  exact h.heap.chg (Chg.of_grown hp.2) (fun k hk e => h.a1 (by
    have : k = gc := Option.some.inj e
    exact this ▸ hk))
/-- a node comes into the order -/
theorem CS.app (h : CS w W gc cc gh F ov c o M cnt) {ov' : Value} {o' : List Int} (hr : kInt.R 3 W' w.heap.size (fun _ => True) ov' o') (hb : Below w.heap.size w W') (hg : W.grownBy W' ov.ownBlock) (hat : ov'.ownBlock = ov.ownBlock ∨ ∃ b, ov'.ownBlock = some b ∧ W.heap.size ≤ b) : CS w W' gc cc gh F ov' c o' M cnt := by
  refine ⟨flat_keep flatInt h.cost (fun k hk => hg.block k (Kd.R_lt h.cost k hk) (fun e => (h.a2 k e.symm).1 ?_)) (fun _ _ => trivial), hr, h.heap.chg (Chg.of_grown hg) (fun k hk e => (h.a2 k e.symm).2 hk), hb, h.a1, fun k hk => ?_⟩
  · have : gc = k := by simpa [Value.ownBlock] using hk
    exact this.symm
  · rcases hat with e | ⟨b, e, hle⟩
    · exact h.a2 k (e ▸ hk)
    · rw [e] at hk
      cases hk
      exact ⟨fun q => by have := h.gc_lt; omega, fun q => by have := (h.heap.ge k q).2; omega⟩
end
theorem HeapS.lower {w : World} {base base' g : Nat} {F : Nat → Prop} {M : List It} {c : Nat} (h : HeapS w base g F M c) (hb : base' ≤ base) : HeapS w base' g F M c := by
  obtain ⟨A, cap, b, l, h1, h2, h3, h4⟩ := h
  exact ⟨A, cap, b, l, ⟨h1.blk, Kd.R_lower h1.row hb, h1.map, ⟨Nat.le_trans hb h1.ge.1, Nat.le_trans hb h1.ge.2⟩, h1.keys, h1.okk⟩, h2, h3, h4⟩
theorem okK_small {k : Int} (h : 0 ≤ k ∧ k < 4096) : okK k := by
  unfold okK
  simp only [Lit.wf, IntKind.min, IntKind.max, Bool.and_eq_true, decide_eq_true_eq]
  simp [IntKind.signed, IntKind.bits]
  omega
theorem keys_le {n : Nat} {M : List It} (hk : Keys M) (hb : ∀ x ∈ M, 0 ≤ x.1 ∧ x.1 < n) : M.length ≤ n := by
  have := nodup_le (n := n) (o := M.map (fun x => x.1)) (show (M.map (fun x => x.1)).Nodup from hk) (fun v hv => by
    obtain ⟨x, hx, rfl⟩ := List.mem_map.1 hv
    exact hb x hx)
  simpa using this
theorem least_none {M : List It} (h : leastF lex (fun i => (at_ M i).2.1) M.length = none) : M = [] := by
  rcases leastF_spec lex_swo (fun i => (at_ M i).2.1) M.length with ⟨q, _⟩ | ⟨b, q, _⟩
  · exact List.eq_nil_of_length_eq_zero q
  · rw [q] at h; cases h
theorem c_move {w w' : World} {A : Option Addr} {n : Nat} {xs : List Rd} (h : Kd.C Roads.kRd w A n xs) (hm : ∀ a, A = some a → w'.heap[a.block]? = w.heap[a.block]?) : Kd.C Roads.kRd w' A n xs := by
  obtain ⟨h1, h2, h3⟩ := h
  refine ⟨h1, h2, fun hn => ?_⟩
  obtain ⟨a, ha, hj⟩ := h3 hn
  refine ⟨a, ha, fun j p hp => ?_⟩
  obtain ⟨us, k1, k2, k3⟩ := hj j p hp
  refine ⟨us, k1, k2, fun i u hu => ?_⟩
  rw [← k3 i u hu]
  exact World.cell?_of_block (by rw [add_block]; exact hm a ha)
/-- a row of roads that is read, none of the blocks F -/
structure Seen (w : World) (A : Option Addr) (n : Nat) (xs : List Rd) (F : Nat → Prop) : Prop where
  c : Kd.C Roads.kRd w A n xs
  far : ∀ a, A = some a → ¬ F a.block ∧ a.block < w.heap.size
theorem Seen.step {w w' : World} {A : Option Addr} {n : Nat} {xs : List Rd} {F : Nat → Prop} (h : Seen w A n xs F) (hb : Below w.heap.size w w') : Seen w' A n xs F := ⟨Kd.C_below h.c hb, fun a ha => ⟨(h.far a ha).1, Nat.lt_of_lt_of_le (h.far a ha).2 hb.size⟩⟩
theorem Seen.chg {w w' : World} {A : Option Addr} {n : Nat} {xs : List Rd} {F F' : Nat → Prop} (h : Seen w A n xs F) (hc : Chg F w w') (hF : ∀ k, F' k → F k ∨ w.heap.size ≤ k) : Seen w' A n xs F' :=
  ⟨c_move h.c (fun a ha => hc.block _ (h.far a ha).2 (h.far a ha).1), fun a ha => ⟨fun q => by
    rcases hF _ q with q | q
    · exact (h.far a ha).1 q
    · have := (h.far a ha).2; omega, Nat.lt_of_lt_of_le (h.far a ha).2 hc.size⟩⟩
theorem fill_set (i k : Nat) : (List.replicate i (-1 : Int) ++ List.replicate (k + 1) 0).set i (-1) = List.replicate (i + 1) (-1) ++ List.replicate k 0 := by
  rw [List.set_append_right _ _ (by simp), List.length_replicate, Nat.sub_self, List.replicate_succ, List.set_cons_zero, List.replicate_succ', List.append_assoc]
  rfl
/-- what was looked at: k roads of u, all of the others -/
def outK (outf : Int → List Rd) (u : Int) (k : Nat) (v : Int) : List Rd := if v = u then (outf u).take k else outf v
theorem outK_zero (outf : Int → List Rd) (u v : Int) : outK outf u 0 v = if v = u then [] else outf v := by
  unfold outK
  rw [List.take_zero]
theorem outK_full (outf : Int → List Rd) (u : Int) {k : Nat} (hk : (outf u).length ≤ k) : outK outf u k = outf := by
  funext v
  unfold outK
  split
  · rename_i e
    rw [e, List.take_of_length_le hk]
  · rfl
theorem outK_mem {outf : Int → List Rd} {u v : Int} {k : Nat} {r x : Rd} (hx : (outf u)[k]? = some x) (hr : r ∈ outK outf u (k + 1) v) : r ∈ outK outf u k v ∨ (v = u ∧ r = x) := by
  unfold outK at *
  split
  · rename_i e
    rw [if_pos e] at hr
    rw [List.take_add_one, hx] at hr
    rcases List.mem_append.1 hr with q | q
    · exact Or.inl q
    · simp at q
      exact Or.inr ⟨e, q⟩
  · rename_i e
    rw [if_neg e] at hr
    exact Or.inl hr
end Go.Proofs.Ytgbfhhmmkhjhhaa.Paths
