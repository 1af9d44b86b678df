import Derived.Test.YtibipbfmhbkpiaaHeapR
import Derived.Test.YtibipbfmhbkpiaaWTab
import Derived.Test.YtibipbfmhbkpiaaHeapW
import Derived.Laws.Cover3
namespace Go.Proofs.Ytibipbfmhbkpiaa.HeapII
open Go.RowKit Go.Proofs.YtibipbfmhbkpiaaW.PrintWords Go.Proofs.YtibipbfmhbkpiaaW.PrintLast Go.Proofs.YtibipbfmhbkpiaaW.PrintMore Go.Proofs.Ytibipbfmhbkpiaa.HeapW Go.Proofs.Ytibipbfmhbkpiaa.HeapP Go.Proofs.Ytibipbfmhbkpiaa.MapAt
set_option linter.unusedVariables false
set_option linter.unusedSimpArgs false
abbrev It := HeapP.Item Int Int
def kIt : Kd It := Kd.pair (Kd.int .i64) (Kd.pair (Kd.int .i64) (Kd.int .i64))
def encK (k : Int) : Value := .int .i64 k
def okK (k : Int) : Prop := (Lit.int .i64 k).wf = true
theorem keyLaw : Law Try.prog 3 encK okK where
  keyed := Go.Maps.int_keyed Try.underlying3
  lit k hk := ⟨_, Go.Maps.keyOf_int_mk Try.underlying3 hk⟩
  inj a b _ _ h := by unfold encK at h; cases h; rfl
theorem kIt_M {w : World} {base : Nat} {ok : Nat → Prop} {x : It} {c : List Value} (h : kIt.M w base ok x c) : c = [.int .i64 x.1, .int .i64 x.2.1, .int .i64 x.2.2] := by
  obtain ⟨k, r, n⟩ := x
  obtain ⟨_, _, rfl, h0, _, _, rfl, h1, h2⟩ := h
  cases h0; cases h1; cases h2
  rfl
/-- the cells of the one at i -/
theorem item_cells {w : World} {e base : Nat} {ok : Nat → Prop} {gl cap : Nat} {l : List It} (h : kIt.R e w base ok (.slice (some ⟨gl, 0, none⟩) l.length cap) l) {i : Nat} (hi : i < l.length) :
    w.cell? ⟨gl, i * 3, none⟩ = some (.int .i64 (at_ l i).1) ∧ w.cell? ⟨gl, i * 3 + 1, none⟩ = some (.int .i64 (at_ l i).2.1) ∧ w.cell? ⟨gl, i * 3 + 2, none⟩ = some (.int .i64 (at_ l i).2.2) ∧ ∀ j, w.frozen? ⟨gl, i * 3 + j, none⟩ = false := by
  obtain ⟨c, h1, h2, h3, h4⟩ := Kd.R_elem h default (i : Int) (by omega) (by omega)
  have hc := kIt_M h2
  rw [Int.toNat_natCast] at hc h3 h4
  subst hc
  exact ⟨h3 0 _ rfl, h3 1 _ rfl, h3 2 _ rfl, h4⟩
structure HAt (w : World) (base g : Nat) (fv : Value) (A : Option Addr) (cap b : Nat) (l : List It) (c : Int) : Prop where
  blk : w.heap[g]? = some (.cells #[fv, .slice A l.length cap, .map (some b), .int .i64 c] 79 (0, 0))
  row : kIt.R 100 w base (fun _ => True) (.slice A l.length cap) l
  map : MapAt encK okK w b (idxL l)
  ge : base ≤ g ∧ base ≤ b
  keys : Keys l
  okk : ∀ x ∈ l, okK x.1
theorem HAt.some {w : World} {base g : Nat} {fv : Value} {A : Option Addr} {cap b : Nat} {l : List It} {c : Int} (h : HAt w base g fv A cap b l c) (hl : 0 < l.length) : ∃ gl, A = some ⟨gl, 0, none⟩ := by
  obtain ⟨inner, ho⟩ := Kd.R_own h.row
  rcases ho.2 with ⟨_, h1⟩ | ⟨g', cap', cur, e, _⟩
  · omega
  · cases e
    exact ⟨g', rfl⟩
/-- less, as a function of the program -/
structure Less (f : Nat) (lt : Int → Int → Bool) : Prop where
  fn : ∃ fn : Func, Try.prog.funcs[f]? = Option.some fn ∧ (fn.name == "runtime.NumGoroutine") = false ∧ fn.body.isSome = true
  calls : ∀ (a b : Int) (w : World), Calls Try.prog f #[.int .i64 a, .int .i64 b] w fun e w' => e = .returned (.bool (lt a b)) ∧ Below w.heap.size w w'
/-- a call of a function value -/
theorem via_ {P : Program} {Q : Exit → Act → World → Prop} {ops : Array Oper} {oi : Oper} {N : Option Tmp} {a : Act} {w : World} {K : Act → World → Prop} {f : FuncId} {fn : Func} {x : Operand} {as_ : Array Operand} {ts : Array TypeId} (hf : P.funcs[f]? = Option.some fn) (hname : (fn.name == "runtime.NumGoroutine") = false) (hb : fn.body.isSome = true) (args : Array Value)
    (hw : Region.wanted oi (yielded ops a.tmps) = true) (hN : oi.dst = N) (hop : oi.op = .call { callee := .value x, args := as_, argTypes := ts }) (hx : a.eval x = .func (.func f) #[] #[]) (hargs : as_.map a.eval = args)
    (h : Calls P f args w fun e w' => ∃ v, e = .returned v ∧ K (a.put N v) w') : if Region.wanted oi (yielded ops a.tmps) = true then Oper.wp P oi a w K Q else K (a.put N undef) w := by
  refine call_ f args hw hN ?_ h
  have he := enters_ hf hname hb args w
  unfold execOp
  simp [hop, resolve, Deferred.ofValue, invoke, hargs, he, hx]
theorem chg_row {w : World} {g : Nat} {t : TypeId} {old cs : Array Value} (hg : w.heap[g]? = Option.some (.cells old t (0, 0))) : (w.setRow g cs).heap[g]? = Option.some (.cells cs t (0, 0)) ∧ Chg (· = g) w (w.setRow g cs) :=
  ⟨setRow_heap w g old cs t (0, 0) hg, ⟨rfl, rfl, rfl, by simp [World.setRow], fun k hk hf => setRow_other w g k cs (fun e => hf e)⟩⟩
theorem rowstore_ {P : Program} {Q : Exit → Act → World → Prop} {ops : Array Oper} {oi : Oper} {a : Act} {w : World} {K : Act → World → Prop} (hw : Region.wanted oi (yielded ops a.tmps) = true) (hN : oi.dst = none) (ty : TypeId) (x y : Operand) (ho : oi.op = .store ty x y)
    (g : Nat) (cells : Array Value) (hx : a.eval x = .pointer (some ⟨g, 0, none⟩)) (hy : a.eval y = .agg cells) (t : TypeId) (old : Array Value) (hg : w.heap[g]? = Option.some (.cells old t (0, 0))) (hi : (P.info? ty).map (·.size) = Option.some cells.size)
    (hold : old.size = cells.size) (h1 : cells.all (·.oneCell') = true) (h : K a (w.setRow g cells)) : if Region.wanted oi (yielded ops a.tmps) = true then Oper.wp P oi a w K Q else K (a.put none undef) w := by
  rw [if_pos hw]
  refine wp_store_row ty x y ho g cells hx hy t old hg hi hold h1 ?_
  rw [hN]
  exact h
theorem infoIt : (Try.prog.info? 100).map (·.size) = Option.some 3 := by kernel_rfl
theorem kIt_mk (w : World) (base : Nat) (ok : Nat → Prop) (x : It) : kIt.M w base ok x [.int .i64 x.1, .int .i64 x.2.1, .int .i64 x.2.2] := ⟨[_], [_, _], rfl, rfl, [_], [_], rfl, rfl, rfl⟩
/-- the one at i is written -/
theorem item_put {w : World} {e base : Nat} {gl cap : Nat} {l : List It} (h : kIt.R e w base (fun _ => True) (.slice (some ⟨gl, 0, none⟩) l.length cap) l) {i : Nat} (hi : i < l.length) (x : It) :
    w.there gl (i * 3) 3 ∧ kIt.R e (w.setCells gl (i * 3) [.int .i64 x.1, .int .i64 x.2.1, .int .i64 x.2.2]) base (fun _ => True) (.slice (some ⟨gl, 0, none⟩) (l.set i x).length cap) (l.set i x) ∧ w.grownBy (w.setCells gl (i * 3) [.int .i64 x.1, .int .i64 x.2.1, .int .i64 x.2.2]) (Option.some gl) := by
  obtain ⟨c, h1, h2, h3, h4⟩ := Kd.R_elem h default (i : Int) (by omega) (by omega)
  rw [Int.toNat_natCast] at h3 h4
  have h5 := Kd.R_seg h (i : Int) (by omega) (by omega) (c := c) (seg := [.int .i64 x.1, .int .i64 x.2.1, .int .i64 x.2.2]) (j := 0) h1 (by rw [Int.toNat_natCast]; exact h3) (by show 0 + 3 ≤ kIt.sz; exact Nat.le_refl 3) (x' := x) (okp := fun _ => False) (by
    have e : c.drop (0 + 3) = [] := List.drop_eq_nil_of_le (by rw [h1]; exact Nat.le_refl 3)
    show kIt.M _ _ _ _ (c.take 0 ++ _ ++ c.drop (0 + 3))
    rw [e]
    exact kIt_mk _ _ _ _) (fun _ q => q.elim)
  rw [Int.toNat_natCast] at h5
  obtain ⟨i0, i1, i2, i3⟩ := item_cells h hi
  refine ⟨fun j hj => ⟨?_, i3 j⟩, by rw [List.length_set]; exact h5.1, h5.2⟩
  have hj' : j = 0 ∨ j = 1 ∨ j = 2 := by omega
  rcases hj' with rfl | rfl | rfl
  · rw [show i * 3 + 0 = i * 3 from rfl, i0]; rfl
  · rw [i1]; rfl
  · rw [i2]; rfl
theorem itemstore_ {P : Program} {Q : Exit → Act → World → Prop} {ops : Array Oper} {oi : Oper} {a : Act} {w : World} {K : Act → World → Prop} (hw : Region.wanted oi (yielded ops a.tmps) = true) (hN : oi.dst = none) (ty : TypeId) (x y : Operand) (ho : oi.op = .store ty x y)
    {e base gl cap : Nat} {l : List It} (i : Nat) (z : It) (hx : a.eval x = .pointer (some ⟨gl, i * 3, none⟩)) (hy : a.eval y = .agg #[.int .i64 z.1, .int .i64 z.2.1, .int .i64 z.2.2]) (hin : (P.info? ty).map (·.size) = Option.some 3)
    (h : kIt.R e w base (fun _ => True) (.slice (some ⟨gl, 0, none⟩) l.length cap) l) (hi : i < l.length)
    (hk : ∀ w', kIt.R e w' base (fun _ => True) (.slice (some ⟨gl, 0, none⟩) (l.set i z).length cap) (l.set i z) → w.grownBy w' (Option.some gl) → K a w') : if Region.wanted oi (yielded ops a.tmps) = true then Oper.wp P oi a w K Q else K (a.put none undef) w := by
  rw [if_pos hw]
  obtain ⟨h1, h2, h3⟩ := item_put h hi z
  refine wp_store_mid ty x y ho gl (i * 3) #[.int .i64 z.1, .int .i64 z.2.1, .int .i64 z.2.2] hx hy h1 hin (by simp [Value.oneCell']) ?_
  rw [hN]
  exact hk _ h2 h3
def hfp (g : Nat) (A : Option Addr) (b : Nat) (k : Nat) : Prop := k = g ∨ k = b ∨ ∃ a : Addr, A = Option.some a ∧ k = a.block
theorem at_swap_i {l : List It} {i j : Nat} (hi : i < l.length) (hj : j < l.length) : at_ (swapL l i j) i = at_ l j := by
  rw [at_swap l hi hj hi]
  by_cases e : i = j
  · rw [if_pos e, e]
  · rw [if_neg e, if_pos rfl]
theorem at_swap_j {l : List It} {i j : Nat} (hi : i < l.length) (hj : j < l.length) : at_ (swapL l i j) j = at_ l i := by
  rw [at_swap l hi hj hj, if_pos rfl]
theorem HAt.below {w w' : World} {base g : Nat} {fv : Value} {A : Option Addr} {cap b : Nat} {l : List It} {c : Int} (h : HAt w base g fv A cap b l c) (hb : Below w.heap.size w w') : HAt w' base g fv A cap b l c :=
  ⟨(hb.block _ (blk_lt h.blk)).trans h.blk, Kd.R_below h.row hb, h.map.move (hb.block _ h.map.lt), h.ge, h.keys, h.okk⟩
theorem eq_map (m : Option Nat) (W : World) : (binOp .eql 77 (.map m) (.map none)).run Try.prog W = .ok (.bool m.isNone) W := by
  simp only [binOp]
  simp [run_equal_map_nil W 77 3 3 m Try.underlying77]
theorem eq_func (fn : Fn) (a b : Array Value) (W : World) : (binOp .eql 30 (.func fn a b) .nilFunc).run Try.prog W = .ok (.bool false) W := by
  simp only [binOp]
  have e : (Op.equal 30 (.func fn a b) .nilFunc).run Try.prog W = .ok false W := by
    show (Op.equalIn (9999 + 1) 30 (.func fn a b) .nilFunc).run Try.prog W = .ok false W
    unfold Op.equalIn
    simp [run_underlying Try.underlying30]
  simp [e]
theorem eq_nilfunc (W : World) : (binOp .eql 30 .nilFunc .nilFunc).run Try.prog W = .ok (.bool true) W := by
  simp only [binOp]
  have e : (Op.equal 30 .nilFunc .nilFunc).run Try.prog W = .ok true W := by
    show (Op.equalIn (9999 + 1) 30 .nilFunc .nilFunc).run Try.prog W = .ok true W
    unfold Op.equalIn
    simp [run_underlying Try.underlying30]
  simp [e]
theorem HAt.came {w : World} {base g : Nat} {fv : Value} {A : Option Addr} {cap b : Nat} {l : List It} {c : Int} (h : HAt w base g fv A cap b l c) (c' : Int) : HAt (w.setCell ⟨g, 3, none⟩ (.int .i64 c')) base g fv A cap b l c' ∧ Chg (· = g) w (w.setCell ⟨g, 3, none⟩ (.int .i64 c')) :=
  ⟨⟨blk_put h.blk 3 _ rfl, Kd.R_set h.row h.blk (by decide) 3 _, h.map.move (Below.heap_setCell w _ _ _ (fun e => h.map.ne h.blk e.symm)), h.ge, h.keys, h.okk⟩, Chg.setCell (F := (· = g)) (Chg.refl _ _) (p := ⟨g, 3, none⟩) (Or.inl rfl) _⟩
theorem zero_int (W : World) : (zeroValue 3).run Try.prog W = .ok (.int .i64 0) W := by
  kernel_rfl
theorem HAt.apart {w : World} {base g : Nat} {fv : Value} {gl cap b : Nat} {l : List It} {c : Int} (h : HAt w base g fv (Option.some ⟨gl, 0, none⟩) cap b l c) : g ≠ gl ∧ b ≠ gl ∧ g ≠ b :=
  ⟨fun e => Kd.R_ne h.row h.blk (by decide) (by rw [e]; rfl), fun e => by
    obtain ⟨inner, ho⟩ := Kd.R_own h.row
    obtain ⟨cs, hcs⟩ := own_typed ho gl rfl
    exact h.map.ne hcs e.symm, h.map.ne h.blk⟩
theorem HAt.set {w w' : World} {base g : Nat} {fv : Value} {gl cap b : Nat} {l : List It} {c : Int} (h : HAt w base g fv (Option.some ⟨gl, 0, none⟩) cap b l c) {i : Nat} (hi : i < l.length) {x : It} (hx : (at_ l i).1 = x.1) (hr : kIt.R 100 w' base (fun _ => True) (.slice (Option.some ⟨gl, 0, none⟩) (l.set i x).length cap) (l.set i x)) (hg : w.grownBy w' (Option.some gl)) :
    HAt w' base g fv (Option.some ⟨gl, 0, none⟩) cap b (l.set i x) c ∧ Chg (hfp g (Option.some ⟨gl, 0, none⟩) b) w w' := by
  obtain ⟨h1, h2, h3⟩ := h.apart
  refine ⟨⟨?_, hr, (h.map.move (hg.block b h.map.lt (fun e => h2 (by cases e; rfl)))).congr (fun k _ => (idx_set h.keys hi hx k).symm), h.ge, keys_set h.keys hi hx, fun y hy => ?_⟩, Chg.keep (Chg.of_grown hg) (fun k hk _ => by cases hk; exact Or.inr (Or.inr ⟨_, rfl, rfl⟩))⟩
  · rw [List.length_set]
    exact blk_grown h.blk hg (fun e => h1 (by cases e; rfl))
  · rcases List.mem_or_eq_of_mem_set hy with q | q
    · exact h.okk y q
    · rw [q, ← hx]
      exact h.okk _ (at_mem hi)
theorem HAt.fp_ge {w : World} {base g : Nat} {fv : Value} {A : Option Addr} {cap b : Nat} {l : List It} {c : Int} (h : HAt w base g fv A cap b l c) : ∀ k, hfp g A b k → base ≤ k := by
  intro k hk
  rcases hk with rfl | rfl | ⟨a, ha, rfl⟩
  · exact h.ge.1
  · exact h.ge.2
  · subst ha
    obtain ⟨inner, ho⟩ := Kd.R_own h.row
    exact own_base ho _ rfl
theorem HAt.fp_lt {w : World} {base g : Nat} {fv : Value} {A : Option Addr} {cap b : Nat} {l : List It} {c : Int} (h : HAt w base g fv A cap b l c) : ∀ k, hfp g A b k → k < w.heap.size := by
  intro k hk
  rcases hk with rfl | rfl | ⟨a, ha, rfl⟩
  · exact blk_lt h.blk
  · exact h.map.lt
  · subst ha
    obtain ⟨inner, ho⟩ := Kd.R_own h.row
    exact own_lt ho _ rfl
theorem reps_single {α : Type} {R : α → List Value → Prop} {size : Nat} {x : α} {cs : List Value} (h : R x cs) (hl : cs.length = size) : Reps R size [x] cs := by
  refine ⟨by simp [hl], fun j p hj => ?_⟩
  have h0 : j = 0 := by
    have := (List.getElem?_eq_some_iff.1 hj).1
    simpa using this
  subst h0
  have hp : x = p := by simpa using hj
  rw [← hp, Nat.zero_mul, List.drop_zero, List.take_of_length_le (by omega)]
  exact h
theorem kIt_K {w w' : World} {base : Nat} {x : It} {c : List Value} (h : kIt.K w x c) : kIt.M w' base (fun _ => False) x c := by
  obtain ⟨k, r, n⟩ := x
  obtain ⟨_, _, rfl, h0, _, _, rfl, h1, h2⟩ := h
  cases h0; cases h1; cases h2
  exact kIt_mk _ _ _ _
theorem infoZ : (Try.prog.info? 100).map (fun i => (i.zero, i.size, i.bytes)) = Option.some (Option.some (.agg #[.int .i64 0, .int .i64 0, .int .i64 0]), 3, 24) := by kernel_rfl
theorem wpList_mapPut {P : Program} {kt : TypeId} {K : Type} {enc : K → Value} {ok : K → Prop} [DecidableEq K] {ops : Array Oper} {rest : List Oper} {o : Oper} {a : Act} {Q : Exit → Act → World → Prop} {w : World} (hg : o.guard = none) (m x v : Operand) (t e : TypeId) (hop : o.op = Op.mapUpdate t m x v) (b : Nat) (f : K → Option Nat) (k : K) (n : Nat)
    (L : Law P kt enc ok) (ht : P.underlying t = Option.some (.map kt e)) (H : MapAt enc ok w b f) (hk : ok k) (hm : a.eval m = .map (Option.some b)) (hx : a.eval x = enc k) (hv : a.eval v = .int .i64 (n : Nat))
    (hK : ∀ w', MapAt enc ok w' b (upd f k n) → w.grownBy w' (Option.some b) → wpList P ops Q rest (a.put o.dst undef) w') : wpList P ops Q (o :: rest) a w := by
  refine wpList_plain hg fun K' hK' => ?_
  obtain ⟨w', hrun, r1, r2⟩ := H.put L ht hk n
  unfold Oper.wp
  simp [execOp, hop, hm, hx, hv, hrun, Result.andThen]
  exact hK' _ _ (hK w' r1 r2)
theorem wpList_mapDel {P : Program} {kt : TypeId} {K : Type} {enc : K → Value} {ok : K → Prop} [DecidableEq K] {ops : Array Oper} {rest : List Oper} {o : Oper} {a : Act} {Q : Exit → Act → World → Prop} {w : World} (hg : o.guard = none) (m x : Operand) (t tk e : TypeId) (hop : o.op = .call { callee := .builtin .delete, args := #[m, x], argTypes := #[t, tk] }) (b : Nat) (f : K → Option Nat) (k : K)
    (L : Law P kt enc ok) (ht : P.underlying t = Option.some (.map kt e)) (H : MapAt enc ok w b f) (hk : ok k) (hm : a.eval m = .map (Option.some b)) (hx : a.eval x = enc k)
    (hK : ∀ w', MapAt enc ok w' b (rem f k) → w.grownBy w' (Option.some b) → wpList P ops Q rest (a.put o.dst (.tuple #[])) w') : wpList P ops Q (o :: rest) a w := by
  refine wpList_plain hg fun K' hK' => ?_
  obtain ⟨w', hrun, r1, r2⟩ := H.del L ht hk tk o.type
  unfold Oper.wp
  simp [execOp, hop, resolve, invoke, builtin, hm, hx, hrun, Result.andThen]
  exact hK' _ _ (hK w' r1 r2)
end Go.Proofs.Ytibipbfmhbkpiaa.HeapII
