/- Texts of a claim. -/
import Derived.Test.YtgbfhhmmkhjhhaaCHeapB
import Derived.Test.YtgbfhhmmkhjhhaaWTab
import Derived.Laws.Cover3
import Derived.Test.YtgbfhhmmkhjhhaaWInvWords
import Derived.Test.YtgbfhhmmkhjhhaaCSl
namespace Go.Proofs.Ytgbfhhmmkhjhhaa.HeapIR
open Go.RowKit Go.Proofs.YtgbfhhmmkhjhhaaW.PrintWords Go.Proofs.YtgbfhhmmkhjhhaaW.PrintLast Go.Proofs.YtgbfhhmmkhjhhaaW.PrintMore Go.Proofs.Ytgbfhhmmkhjhhaa.HeapW Go.Proofs.Ytgbfhhmmkhjhhaa.HeapP Go.Proofs.Ytgbfhhmmkhjhhaa.MapAt
set_option linter.unusedVariables false
set_option linter.unusedSimpArgs false
abbrev Kt := Int
abbrev Pt := Int × Int
abbrev It := HeapP.Item Kt Pt
def kIt : Kd It := Kd.pair (Kd.int .i64) (Kd.pair (Kd.pair (Kd.int .i64) (Kd.int .i64)) (Kd.int .i64))
def encK (k : Kt) : Value := .int .i64 k
def okK (k : Kt) : Prop := (Lit.int .i64 k).wf = true
theorem keyLaw : Law Try.prog 3 encK okK where
  keyed := Go.Maps.int_keyed Try.underlying3
  lit k hk := ⟨_, Go.Maps.keyOf_int_mk Try.underlying3 hk⟩
  inj a b _ _ h := by unfold encK at h; cases h; rfl
theorem kIt_M {w : World} {base : Nat} {ok : Nat → Prop} {x : It} {c : List Value} (h : kIt.M w base ok x c) : c = [.int .i64 x.1, .int .i64 x.2.1.1, .int .i64 x.2.1.2, .int .i64 x.2.2] := by
  obtain ⟨k, r, n⟩ := x
  obtain ⟨_, _, rfl, hk0, _, _, rfl, ⟨_, _, rfl, hp0, hp1⟩, h2⟩ := h
  cases hk0; cases hp0; cases hp1; cases h2
  rfl
/-- the cells of the one at i -/
theorem item_cells {w : World} {e base : Nat} {ok : Nat → Prop} {gl cap : Nat} {l : List It} (h : kIt.R e w base ok (.slice (some ⟨gl, 0, none⟩) l.length cap) l) {i : Nat} (hi : i < l.length) :
    w.cell? ⟨gl, i * 4, none⟩ = some (.int .i64 (at_ l i).1) ∧ w.cell? ⟨gl, i * 4 + 1, none⟩ = some (.int .i64 (at_ l i).2.1.1) ∧ w.cell? ⟨gl, i * 4 + 2, none⟩ = some (.int .i64 (at_ l i).2.1.2) ∧ w.cell? ⟨gl, i * 4 + 3, none⟩ = some (.int .i64 (at_ l i).2.2) ∧ ∀ j, w.frozen? ⟨gl, i * 4 + j, none⟩ = false := by
  obtain ⟨c, h1, h2, h3, h4⟩ := Kd.R_elem h default (i : Int) (by omega) (by omega)
  have hc := kIt_M h2
  rw [Int.toNat_natCast] at hc h3 h4
  subst hc
  exact ⟨h3 0 _ rfl, h3 1 _ rfl, h3 2 _ rfl, h3 3 _ rfl, h4⟩
structure HAt (w : World) (base g : Nat) (fv : Value) (A : Option Addr) (cap b : Nat) (l : List It) (c : Int) : Prop where
  blk : w.heap[g]? = some (.cells #[fv, .slice A l.length cap, .map (some b), .int .i64 c] 96 (0, 0))
  row : kIt.R 98 w base (fun _ => True) (.slice A l.length cap) l
  map : MapAt encK okK w b (idxL l)
  ge : base ≤ g ∧ base ≤ b
  keys : Keys l
  okk : ∀ x ∈ l, okK x.1
theorem HAt.some {w : World} {base g : Nat} {fv : Value} {A : Option Addr} {cap b : Nat} {l : List It} {c : Int} (h : HAt w base g fv A cap b l c) (hl : 0 < l.length) : ∃ gl, A = some ⟨gl, 0, none⟩ := by
  obtain ⟨inner, ho⟩ := Kd.R_own h.row
  rcases ho.2 with ⟨_, h1⟩ | ⟨g', cap', cur, e, _⟩
  · omega
  · cases e
    exact ⟨g', rfl⟩
/-- less, as a function of the program -/
structure Less (f : Nat) (lt : Pt → Pt → Bool) : Prop where
  fn : ∃ fn : Func, Try.prog.funcs[f]? = Option.some fn ∧ (fn.name == "runtime.NumGoroutine") = false ∧ fn.body.isSome = true
  calls : ∀ (a b : Pt) (w : World), Calls Try.prog f #[.agg #[.int .i64 a.1, .int .i64 a.2], .agg #[.int .i64 b.1, .int .i64 b.2]] w fun e w' => e = .returned (.bool (lt a b)) ∧ Below w.heap.size w w'
/-- a call of a function value -/
theorem via_ {P : Program} {Q : Exit → Act → World → Prop} {ops : Array Oper} {oi : Oper} {N : Option Tmp} {a : Act} {w : World} {K : Act → World → Prop} {f : FuncId} {fn : Func} {x : Operand} {as_ : Array Operand} {ts : Array TypeId} (hf : P.funcs[f]? = Option.some fn) (hname : (fn.name == "runtime.NumGoroutine") = false) (hb : fn.body.isSome = true) (args : Array Value)
    (hw : Region.wanted oi (yielded ops a.tmps) = true) (hN : oi.dst = N) (hop : oi.op = .call { callee := .value x, args := as_, argTypes := ts }) (hx : a.eval x = .func (.func f) #[] #[]) (hargs : as_.map a.eval = args)
    (h : Calls P f args w fun e w' => ∃ v, e = .returned v ∧ K (a.put N v) w') : if Region.wanted oi (yielded ops a.tmps) = true then Oper.wp P oi a w K Q else K (a.put N undef) w := by
  refine call_ f args hw hN ?_ h
  have he := enters_ hf hname hb args w
  unfold execOp
  simp [hop, resolve, Deferred.ofValue, invoke, hargs, he, hx]
theorem chg_row {w : World} {g : Nat} {t : TypeId} {old cs : Array Value} (hg : w.heap[g]? = Option.some (.cells old t (0, 0))) : (w.setRow g cs).heap[g]? = Option.some (.cells cs t (0, 0)) ∧ Chg (· = g) w (w.setRow g cs) :=
  ⟨setRow_heap w g old cs t (0, 0) hg, ⟨rfl, rfl, rfl, by simp [World.setRow], fun k hk hf => setRow_other w g k cs (fun e => hf e)⟩⟩
theorem rowstore_ {P : Program} {Q : Exit → Act → World → Prop} {ops : Array Oper} {oi : Oper} {a : Act} {w : World} {K : Act → World → Prop} (hw : Region.wanted oi (yielded ops a.tmps) = true) (hN : oi.dst = none) (ty : TypeId) (x y : Operand) (ho : oi.op = .store ty x y)
    (g : Nat) (cells : Array Value) (hx : a.eval x = .pointer (some ⟨g, 0, none⟩)) (hy : a.eval y = .agg cells) (t : TypeId) (old : Array Value) (hg : w.heap[g]? = Option.some (.cells old t (0, 0))) (hi : (P.info? ty).map (·.size) = Option.some cells.size)
    (hold : old.size = cells.size) (h1 : cells.all (·.oneCell') = true) (h : K a (w.setRow g cells)) : if Region.wanted oi (yielded ops a.tmps) = true then Oper.wp P oi a w K Q else K (a.put none undef) w := by
  rw [if_pos hw]
  refine wp_store_row ty x y ho g cells hx hy t old hg hi hold h1 ?_
  rw [hN]
  exact h
theorem infoIt : (Try.prog.info? 98).map (·.size) = Option.some 4 := by kernel_rfl
theorem kIt_mk (w : World) (base : Nat) (ok : Nat → Prop) (x : It) : kIt.M w base ok x [.int .i64 x.1, .int .i64 x.2.1.1, .int .i64 x.2.1.2, .int .i64 x.2.2] := ⟨[_], [_, _, _], rfl, rfl, [_, _], [_], rfl, ⟨[_], [_], rfl, rfl, rfl⟩, rfl⟩
/-- the one at i is written -/
theorem item_put {w : World} {e base : Nat} {gl cap : Nat} {l : List It} (h : kIt.R e w base (fun _ => True) (.slice (some ⟨gl, 0, none⟩) l.length cap) l) {i : Nat} (hi : i < l.length) (x : It) :
    w.there gl (i * 4) 4 ∧ kIt.R e (w.setCells gl (i * 4) [.int .i64 x.1, .int .i64 x.2.1.1, .int .i64 x.2.1.2, .int .i64 x.2.2]) base (fun _ => True) (.slice (some ⟨gl, 0, none⟩) (l.set i x).length cap) (l.set i x) ∧ w.grownBy (w.setCells gl (i * 4) [.int .i64 x.1, .int .i64 x.2.1.1, .int .i64 x.2.1.2, .int .i64 x.2.2]) (Option.some gl) := by
  obtain ⟨c, h1, h2, h3, h4⟩ := Kd.R_elem h default (i : Int) (by omega) (by omega)
  rw [Int.toNat_natCast] at h3 h4
  have h5 := Kd.R_seg h (i : Int) (by omega) (by omega) (c := c) (seg := [.int .i64 x.1, .int .i64 x.2.1.1, .int .i64 x.2.1.2, .int .i64 x.2.2]) (j := 0) h1 (by rw [Int.toNat_natCast]; exact h3) (by show 0 + 4 ≤ kIt.sz; exact Nat.le_refl 4) (x' := x) (okp := fun _ => False) (by
    have e : c.drop (0 + 4) = [] := List.drop_eq_nil_of_le (by rw [h1]; exact Nat.le_refl 4)
    show kIt.M _ _ _ _ (c.take 0 ++ _ ++ c.drop (0 + 4))
    rw [e]
    exact kIt_mk _ _ _ _) (fun _ q => q.elim)
  rw [Int.toNat_natCast] at h5
  obtain ⟨i0, i1, i2, i3, i4⟩ := item_cells h hi
  refine ⟨fun j hj => ⟨?_, i4 j⟩, by rw [List.length_set]; exact h5.1, h5.2⟩
  have hj' : j = 0 ∨ j = 1 ∨ j = 2 ∨ j = 3 := by omega
  rcases hj' with rfl | rfl | rfl | rfl
  · rw [show i * 4 + 0 = i * 4 from rfl, i0]; rfl
  · rw [i1]; rfl
  · rw [i2]; rfl
  · rw [i3]; rfl
theorem itemstore_ {P : Program} {Q : Exit → Act → World → Prop} {ops : Array Oper} {oi : Oper} {a : Act} {w : World} {K : Act → World → Prop} (hw : Region.wanted oi (yielded ops a.tmps) = true) (hN : oi.dst = none) (ty : TypeId) (x y : Operand) (ho : oi.op = .store ty x y)
    {e base gl cap : Nat} {l : List It} (i : Nat) (z : It) (hx : a.eval x = .pointer (some ⟨gl, i * 4, none⟩)) (hy : a.eval y = .agg #[.int .i64 z.1, .int .i64 z.2.1.1, .int .i64 z.2.1.2, .int .i64 z.2.2]) (hin : (P.info? ty).map (·.size) = Option.some 4)
    (h : kIt.R e w base (fun _ => True) (.slice (some ⟨gl, 0, none⟩) l.length cap) l) (hi : i < l.length)
    (hk : ∀ w', kIt.R e w' base (fun _ => True) (.slice (some ⟨gl, 0, none⟩) (l.set i z).length cap) (l.set i z) → w.grownBy w' (Option.some gl) → K a w') : if Region.wanted oi (yielded ops a.tmps) = true then Oper.wp P oi a w K Q else K (a.put none undef) w := by
  rw [if_pos hw]
  obtain ⟨h1, h2, h3⟩ := item_put h hi z
  refine wp_store_mid ty x y ho gl (i * 4) #[.int .i64 z.1, .int .i64 z.2.1.1, .int .i64 z.2.1.2, .int .i64 z.2.2] hx hy h1 hin (by simp [Value.oneCell']) ?_
  rw [hN]
  exact hk _ h2 h3
def hfp (g : Nat) (A : Option Addr) (b : Nat) (k : Nat) : Prop := k = g ∨ k = b ∨ ∃ a : Addr, A = Option.some a ∧ k = a.block
theorem at_swap_i {l : List It} {i j : Nat} (hi : i < l.length) (hj : j < l.length) : at_ (swapL l i j) i = at_ l j := by
  rw [at_swap l hi hj hi]
  by_cases e : i = j
  · rw [if_pos e, e]
  · rw [if_neg e, if_pos rfl]
theorem at_swap_j {l : List It} {i j : Nat} (hi : i < l.length) (hj : j < l.length) : at_ (swapL l i j) j = at_ l i := by
  rw [at_swap l hi hj hj, if_pos rfl]
theorem HAt.below {w w' : World} {base g : Nat} {fv : Value} {A : Option Addr} {cap b : Nat} {l : List It} {c : Int} (h : HAt w base g fv A cap b l c) (hb : Below w.heap.size w w') : HAt w' base g fv A cap b l c :=
  ⟨(hb.block _ (blk_lt h.blk)).trans h.blk, Kd.R_below h.row hb, h.map.move (hb.block _ h.map.lt), h.ge, h.keys, h.okk⟩
theorem eq_map (m : Option Nat) (W : World) : (binOp .eql 93 (.map m) (.map none)).run Try.prog W = .ok (.bool m.isNone) W := by
  simp only [binOp]
  simp [run_equal_map_nil W 93 3 3 m Try.underlying93]
theorem eq_func (fn : Fn) (a b : Array Value) (W : World) : (binOp .eql 84 (.func fn a b) .nilFunc).run Try.prog W = .ok (.bool false) W := by
  simp only [binOp]
  have e : (Op.equal 84 (.func fn a b) .nilFunc).run Try.prog W = .ok false W := by
    show (Op.equalIn (9999 + 1) 84 (.func fn a b) .nilFunc).run Try.prog W = .ok false W
    unfold Op.equalIn
    simp [run_underlying Try.underlying84]
  simp [e]
theorem eq_nilfunc (W : World) : (binOp .eql 84 .nilFunc .nilFunc).run Try.prog W = .ok (.bool true) W := by
  simp only [binOp]
  have e : (Op.equal 84 .nilFunc .nilFunc).run Try.prog W = .ok true W := by
    show (Op.equalIn (9999 + 1) 84 .nilFunc .nilFunc).run Try.prog W = .ok true W
    unfold Op.equalIn
    simp [run_underlying Try.underlying84]
  simp [e]
theorem HAt.came {w : World} {base g : Nat} {fv : Value} {A : Option Addr} {cap b : Nat} {l : List It} {c : Int} (h : HAt w base g fv A cap b l c) (c' : Int) : HAt (w.setCell ⟨g, 3, none⟩ (.int .i64 c')) base g fv A cap b l c' ∧ Chg (· = g) w (w.setCell ⟨g, 3, none⟩ (.int .i64 c')) :=
  ⟨⟨blk_put h.blk 3 _ rfl, Kd.R_set h.row h.blk (by decide) 3 _, h.map.move (Below.heap_setCell w _ _ _ (fun e => h.map.ne h.blk e.symm)), h.ge, h.keys, h.okk⟩, Chg.setCell (F := (· = g)) (Chg.refl _ _) (p := ⟨g, 3, none⟩) (Or.inl rfl) _⟩
theorem zero_int (W : World) : (zeroValue 3).run Try.prog W = .ok (.int .i64 0) W := by
  kernel_rfl
theorem HAt.apart {w : World} {base g : Nat} {fv : Value} {gl cap b : Nat} {l : List It} {c : Int} (h : HAt w base g fv (Option.some ⟨gl, 0, none⟩) cap b l c) : g ≠ gl ∧ b ≠ gl ∧ g ≠ b :=
  ⟨fun e => Kd.R_ne h.row h.blk (by decide) (by rw [e]; rfl), fun e => by
    obtain ⟨inner, ho⟩ := Kd.R_own h.row
    obtain ⟨cs, hcs⟩ := own_typed ho gl rfl
    exact h.map.ne hcs e.symm, h.map.ne h.blk⟩
theorem HAt.set {w w' : World} {base g : Nat} {fv : Value} {gl cap b : Nat} {l : List It} {c : Int} (h : HAt w base g fv (Option.some ⟨gl, 0, none⟩) cap b l c) {i : Nat} (hi : i < l.length) {x : It} (hx : (at_ l i).1 = x.1) (hr : kIt.R 98 w' base (fun _ => True) (.slice (Option.some ⟨gl, 0, none⟩) (l.set i x).length cap) (l.set i x)) (hg : w.grownBy w' (Option.some gl)) :
    HAt w' base g fv (Option.some ⟨gl, 0, none⟩) cap b (l.set i x) c ∧ Chg (hfp g (Option.some ⟨gl, 0, none⟩) b) w w' := by
  obtain ⟨h1, h2, h3⟩ := h.apart
  refine ⟨⟨?_, hr, (h.map.move (hg.block b h.map.lt (fun e => h2 (by cases e; rfl)))).congr (fun k _ => (idx_set h.keys hi hx k).symm), h.ge, keys_set h.keys hi hx, fun y hy => ?_⟩, Chg.keep (Chg.of_grown hg) (fun k hk _ => by cases hk; exact Or.inr (Or.inr ⟨_, rfl, rfl⟩))⟩
  · rw [List.length_set]
    exact blk_grown h.blk hg (fun e => h1 (by cases e; rfl))
  · rcases List.mem_or_eq_of_mem_set hy with q | q
    · exact h.okk y q
    · rw [q, ← hx]
      exact h.okk _ (at_mem hi)
theorem HAt.fp_ge {w : World} {base g : Nat} {fv : Value} {A : Option Addr} {cap b : Nat} {l : List It} {c : Int} (h : HAt w base g fv A cap b l c) : ∀ k, hfp g A b k → base ≤ k := by
  intro k hk
  rcases hk with rfl | rfl | ⟨a, ha, rfl⟩
  · exact h.ge.1
  · exact h.ge.2
  · subst ha
    obtain ⟨inner, ho⟩ := Kd.R_own h.row
    exact own_base ho _ rfl
theorem HAt.fp_lt {w : World} {base g : Nat} {fv : Value} {A : Option Addr} {cap b : Nat} {l : List It} {c : Int} (h : HAt w base g fv A cap b l c) : ∀ k, hfp g A b k → k < w.heap.size := by
  intro k hk
  rcases hk with rfl | rfl | ⟨a, ha, rfl⟩
  · exact blk_lt h.blk
  · exact h.map.lt
  · subst ha
    obtain ⟨inner, ho⟩ := Kd.R_own h.row
    exact own_lt ho _ rfl
theorem reps_single {α : Type} {R : α → List Value → Prop} {size : Nat} {x : α} {cs : List Value} (h : R x cs) (hl : cs.length = size) : Reps R size [x] cs := by
  refine ⟨by simp [hl], fun j p hj => ?_⟩
  have h0 : j = 0 := by
    have := (List.getElem?_eq_some_iff.1 hj).1
    simpa using this
  subst h0
  have hp : x = p := by simpa using hj
  rw [← hp, Nat.zero_mul, List.drop_zero, List.take_of_length_le (by omega)]
  exact h
theorem kIt_K {w w' : World} {base : Nat} {x : It} {c : List Value} (h : kIt.K w x c) : kIt.M w' base (fun _ => False) x c := by
  obtain ⟨k, r, n⟩ := x
  obtain ⟨_, _, rfl, hk0, _, _, rfl, ⟨_, _, rfl, hp0, hp1⟩, h2⟩ := h
  cases hk0; cases hp0; cases hp1; cases h2
  exact kIt_mk _ _ _ _
theorem infoZ : (Try.prog.info? 98).map (fun i => (i.zero, i.size, i.bytes)) = Option.some (Option.some (.agg #[.int .i64 0, .int .i64 0, .int .i64 0, .int .i64 0]), 4, 32) := by kernel_rfl
theorem wpList_mapPut {P : Program} {kt : TypeId} {K : Type} {enc : K → Value} {ok : K → Prop} [DecidableEq K] {ops : Array Oper} {rest : List Oper} {o : Oper} {a : Act} {Q : Exit → Act → World → Prop} {w : World} (hg : o.guard = none) (m x v : Operand) (t e : TypeId) (hop : o.op = Op.mapUpdate t m x v) (b : Nat) (f : K → Option Nat) (k : K) (n : Nat)
    (L : Law P kt enc ok) (ht : P.underlying t = Option.some (.map kt e)) (H : MapAt enc ok w b f) (hk : ok k) (hm : a.eval m = .map (Option.some b)) (hx : a.eval x = enc k) (hv : a.eval v = .int .i64 (n : Nat))
    (hK : ∀ w', MapAt enc ok w' b (upd f k n) → w.grownBy w' (Option.some b) → wpList P ops Q rest (a.put o.dst undef) w') : wpList P ops Q (o :: rest) a w := by
  refine wpList_plain hg fun K' hK' => ?_
  obtain ⟨w', hrun, r1, r2⟩ := H.put L ht hk n
  unfold Oper.wp
  simp [execOp, hop, hm, hx, hv, hrun, Result.andThen]
  exact hK' _ _ (hK w' r1 r2)
theorem wpList_mapDel {P : Program} {kt : TypeId} {K : Type} {enc : K → Value} {ok : K → Prop} [DecidableEq K] {ops : Array Oper} {rest : List Oper} {o : Oper} {a : Act} {Q : Exit → Act → World → Prop} {w : World} (hg : o.guard = none) (m x : Operand) (t tk e : TypeId) (hop : o.op = .call { callee := .builtin .delete, args := #[m, x], argTypes := #[t, tk] }) (b : Nat) (f : K → Option Nat) (k : K)
    (L : Law P kt enc ok) (ht : P.underlying t = Option.some (.map kt e)) (H : MapAt enc ok w b f) (hk : ok k) (hm : a.eval m = .map (Option.some b)) (hx : a.eval x = enc k)
    (hK : ∀ w', MapAt enc ok w' b (rem f k) → w.grownBy w' (Option.some b) → wpList P ops Q rest (a.put o.dst (.tuple #[])) w') : wpList P ops Q (o :: rest) a w := by
  refine wpList_plain hg fun K' hK' => ?_
  obtain ⟨w', hrun, r1, r2⟩ := H.del L ht hk tk o.type
  unfold Oper.wp
  simp [execOp, hop, resolve, invoke, builtin, hm, hx, hrun, Result.andThen]
  exact hK' _ _ (hK w' r1 r2)
theorem HAt.below0 {w w' : World} {base g : Nat} {fv : Value} {A : Option Addr} {cap b : Nat} {l : List It} {c : Int} (h : HAt w base g fv A cap b l c) (hm : ∀ k, hfp g A b k → w'.heap[k]? = w.heap[k]?) : HAt w' base g fv A cap b l c := by
  have hr : kIt.R 98 w base (hfp g A b) (.slice A l.length cap) l := Kd.R_flat (fun h => by rw [kIt_M h]; exact kIt_mk _ _ _ _) h.row (fun k hk _ => by
    cases A with
    | none => simp [Value.ownBlock] at hk
    | some a =>
      have e : a.block = k := by simpa [Value.ownBlock] using hk
      exact Or.inr (Or.inr ⟨a, rfl, e.symm⟩))
  exact ⟨(hm g (Or.inl rfl)).trans h.blk, Kd.R_mono (Kd.R_step hr (fun k hk _ => hm k hk)) (fun _ _ => trivial), h.map.move (hm b (Or.inr (Or.inl rfl))), h.ge, h.keys, h.okk⟩
theorem infoP : (Try.prog.info? 83).map (·.size) = Option.some 2 := by kernel_rfl
def ahead_T1 : Bool × List (List Nat × List Nat) := (true, [([], []), ([0], [0]), ([1], [1]), ([2], [2]), ([], []), ([3, 4], [3, 4]), ([5], [5]), ([], []), ([7], [7]), ([8], [8]), ([9], [9]), ([], []), ([10, 11], [10, 11]), ([12], [12]), ([], []), ([], []), ([14, 6, 0, 1, 2, 3, 4, 5, 6, 14, 15], [6, 14]), ([15, 13, 16, 0, 1, 2, 3, 4, 5, 6, 7, 8, 9, 10, 11, 12, 13, 14, 15, 16], [13, 15])])
def ahead_B1 : List Nat := [0, 1, 3, 7, 0, 31, 63, 0, 128, 384, 896, 0, 3968, 8064, 0, 0, 49279, 131071]
theorem ahead_tab1 : rtab .any (opsOf Try.f48 1) = ahead_T1 := by kernel_rfl
theorem ahead_bits1 : waitsOk ahead_T1.2 ahead_B1 = true := by kernel_rfl
def ahead_T2 : Bool × List (List Nat × List Nat) := (true, [([], []), ([0], [0]), ([1], [1]), ([2], [2]), ([], []), ([4], [4]), ([], []), ([6], [6]), ([3, 5, 7], [3, 5, 7])])
def ahead_B2 : List Nat := [0, 1, 3, 7, 0, 16, 0, 64, 255]
theorem ahead_tab2 : rtab .any (opsOf Try.f48 2) = ahead_T2 := by kernel_rfl
theorem ahead_bits2 : waitsOk ahead_T2.2 ahead_B2 = true := by kernel_rfl
def ahead_T4 : Bool × List (List Nat × List Nat) := (true, [([], []), ([0], [0]), ([1], [1]), ([2], [2]), ([], []), ([4], [4]), ([], []), ([6], [6]), ([3, 5, 7], [3, 5, 7]), ([8], [8]), ([9, 8], [9]), ([10], [10]), ([11, 10], [10, 11]), ([10], [10]), ([13, 10], [10, 13]), ([12, 14, 10], [10, 12, 14]), ([10, 15], [10, 15]), ([16, 10, 0, 1, 2, 3, 4, 5, 6, 7, 8, 9, 10, 11, 12, 13, 14, 15, 16], [16])])
def ahead_B4 : List Nat := [0, 1, 3, 7, 0, 16, 0, 64, 255, 511, 1023, 2047, 4095, 2047, 10239, 32767, 65535, 131071]
theorem ahead_tab4 : rtab .any (opsOf Try.f48 4) = ahead_T4 := by kernel_rfl
theorem ahead_bits4 : waitsOk ahead_T4.2 ahead_B4 = true := by kernel_rfl
set_option maxHeartbeats 8000000 in
set_option maxRecDepth 100000 in
theorem ahead_calls (base g f : Nat) (lt : Pt → Pt → Bool) (hlt : Less f lt) (A : Option Addr) (cap b : Nat) (l : List It) (c : Int) (i j : Nat) (w : World) (h : HAt w base g (.func (.func f) #[] #[]) A cap b l c) (hi : i < l.length) (hj : j < l.length) :
    Calls Try.prog 48 #[.pointer (some ⟨g, 0, none⟩), .int .i64 i, .int .i64 j] w fun e w' => e = .returned (.bool (aheadB lt (at_ l i) (at_ l j))) ∧ Below w.heap.size w w' := by
  obtain ⟨gl, rfl⟩ := h.some (by omega)
  obtain ⟨fn_, hf1, hf2, hf3⟩ := hlt.fn
  have HF := Aside0.mk hf1
  have HF2 := Aside0.mk hf2
  have HF3 := Aside0.mk hf3
  have HLT := Aside0.mk hlt
  have hil : (i : Int) < l.length := by omega
  have hjl : (j : Int) < l.length := by omega
  have HS : Aside0 (∀ w', Below w.heap.size w w' → w'.cell? ⟨g, 0, none⟩ = some (.func (.func f) #[] #[]) ∧ w'.cell? ⟨g, 1, none⟩ = some (.slice (some ⟨gl, 0, none⟩) l.length cap) ∧ w'.cell? ⟨g, 2, none⟩ = some (.map (some b)) ∧ w'.cell? ⟨g, 3, none⟩ = some (.int .i64 c) ∧ w'.cell? ⟨gl, i * 4, none⟩ = some (.int .i64 (at_ l i).1) ∧ w'.cell? ⟨gl, i * 4 + 1, none⟩ = some (.int .i64 (at_ l i).2.1.1) ∧ w'.cell? ⟨gl, i * 4 + 2, none⟩ = some (.int .i64 (at_ l i).2.1.2) ∧ w'.cell? ⟨gl, i * 4 + 3, none⟩ = some (.int .i64 (at_ l i).2.2) ∧ w'.cell? ⟨gl, j * 4, none⟩ = some (.int .i64 (at_ l j).1) ∧ w'.cell? ⟨gl, j * 4 + 1, none⟩ = some (.int .i64 (at_ l j).2.1.1) ∧ w'.cell? ⟨gl, j * 4 + 2, none⟩ = some (.int .i64 (at_ l j).2.1.2) ∧ w'.cell? ⟨gl, j * 4 + 3, none⟩ = some (.int .i64 (at_ l j).2.2)) := ⟨fun w' hb => by
    obtain ⟨i0, i1, i2, i3, _⟩ := item_cells h.row hi
    obtain ⟨j0, j1, j2, j3, _⟩ := item_cells h.row hj
    exact ⟨pw_cell_below hb ((blk_cell h.blk 0).trans rfl), pw_cell_below hb ((blk_cell h.blk 1).trans rfl), pw_cell_below hb ((blk_cell h.blk 2).trans rfl), pw_cell_below hb ((blk_cell h.blk 3).trans rfl), pw_cell_below hb i0, pw_cell_below hb i1, pw_cell_below hb i2, pw_cell_below hb i3, pw_cell_below hb j0, pw_cell_below hb j1, pw_cell_below hb j2, pw_cell_below hb j3⟩⟩
  clear h hlt hi hj hf1 hf2 hf3
  go_enter Try.func48, Try.ntmps48
  go_wp2_with fail
  have HB0 : Aside0 (Below w.heap.size w w.drew) := ⟨below_drew1 (Below.refl _ _)⟩
  refine start_ (n := 18) (S := fun w' => w'.cell? ⟨g, 0, none⟩ = some (.func (.func f) #[] #[]) ∧ w'.cell? ⟨g, 1, none⟩ = some (.slice (some ⟨gl, 0, none⟩) l.length cap) ∧ w'.cell? ⟨g, 2, none⟩ = some (.map (some b)) ∧ w'.cell? ⟨g, 3, none⟩ = some (.int .i64 c) ∧ w'.cell? ⟨gl, i * 4, none⟩ = some (.int .i64 (at_ l i).1) ∧ w'.cell? ⟨gl, i * 4 + 1, none⟩ = some (.int .i64 (at_ l i).2.1.1) ∧ w'.cell? ⟨gl, i * 4 + 2, none⟩ = some (.int .i64 (at_ l i).2.1.2) ∧ w'.cell? ⟨gl, i * 4 + 3, none⟩ = some (.int .i64 (at_ l i).2.2) ∧ w'.cell? ⟨gl, j * 4, none⟩ = some (.int .i64 (at_ l j).1) ∧ w'.cell? ⟨gl, j * 4 + 1, none⟩ = some (.int .i64 (at_ l j).2.1.1) ∧ w'.cell? ⟨gl, j * 4 + 2, none⟩ = some (.int .i64 (at_ l j).2.1.2) ∧ w'.cell? ⟨gl, j * 4 + 3, none⟩ = some (.int .i64 (at_ l j).2.2)) (ds := []) #[ff,ff,ff,ff,ff,ff,ff,ff,ff,ff,ff,ff,ff,ff,ff,ff,ff,ff] (by kernel_rfl) rfl rfl (HS.out _ HB0.out) (fun hHeld => ?_)
  refine with_tabW ahead_tab1 ahead_bits1 (fun HT_ HW_ => ?_)
  generalize w.drew = w1 at HB0 hHeld ⊢
  refine pure_ (i := 0) (N := some 9) (v := ?_) (a' := ?_) #[tt,ff,ff,ff,ff,ff,ff,ff,ff,ff,ff,ff,ff,ff,ff,ff,ff,ff] rfl rfl (any_of HT_.out (by kernel_rfl)) (fun _ _ _ h => h) (Or.inl ⟨by rfl, ?_⟩) ?_ ?_
  rotate_left; exact slv; rotate_left; exact sla
  refine pure_ (i := 1) (N := some 10) (v := ?_) (a' := ?_) #[tt,tt,ff,ff,ff,ff,ff,ff,ff,ff,ff,ff,ff,ff,ff,ff,ff,ff] rfl rfl (any_of HT_.out (by kernel_rfl)) (fun _ _ _ h => h) (Or.inl ⟨by rfl, ?_⟩) ?_ ?_
  rotate_left; exact slv; rotate_left; exact sla
  refine pure_ (i := 2) (N := some 11) (v := ?_) (a' := ?_) #[tt,tt,tt,ff,ff,ff,ff,ff,ff,ff,ff,ff,ff,ff,ff,ff,ff,ff] rfl rfl (any_of HT_.out (by kernel_rfl)) (fun _ _ _ h => h) (Or.inl ⟨by rfl, ?_⟩) ?_ ?_
  rotate_left; exact slv; rotate_left; exact sla
  refine take_ (i := 3) (N := some 12) (v := ?_) (a' := ?_) #[tt,tt,tt,tt,ff,ff,ff,ff,ff,ff,ff,ff,ff,ff,ff,ff,ff,ff] rfl rfl (take_ofW HT_.out HW_.out (by kernel_rfl)) (fun _ _ _ h => h) (Or.inl ⟨by rfl, ?_⟩) hHeld ?_ ?_
  rotate_left; exact slt12; rotate_left; exact sla
  refine pure_ (i := 4) (N := some 13) (v := ?_) (a' := ?_) #[tt,tt,tt,tt,tt,ff,ff,ff,ff,ff,ff,ff,ff,ff,ff,ff,ff,ff] rfl rfl (any_of HT_.out (by kernel_rfl)) (fun _ _ _ h => h) (Or.inl ⟨by rfl, ?_⟩) ?_ ?_
  rotate_left; exact slv; rotate_left; exact sla
  refine pure_ (i := 5) (N := some 14) (v := ?_) (a' := ?_) #[tt,tt,tt,tt,tt,tt,ff,ff,ff,ff,ff,ff,ff,ff,ff,ff,ff,ff] rfl rfl (any_of HT_.out (by kernel_rfl)) (fun _ _ _ h => h) (Or.inl ⟨by rfl, ?_⟩) ?_ ?_
  rotate_left; exact slv; rotate_left; exact sla
  refine take_ (i := 6) (N := some 15) (v := ?_) (a' := ?_) #[tt,tt,tt,tt,tt,tt,tt,ff,ff,ff,ff,ff,ff,ff,ff,ff,ff,ff] rfl rfl (take_ofW HT_.out HW_.out (by kernel_rfl)) (fun _ _ _ h => h) (Or.inl ⟨by rfl, ?_⟩) hHeld ?_ ?_
  rotate_left; exact slt12; rotate_left; exact sla
  refine pure_ (i := 7) (N := some 16) (v := ?_) (a' := ?_) #[tt,tt,tt,tt,tt,tt,tt,tt,ff,ff,ff,ff,ff,ff,ff,ff,ff,ff] rfl rfl (any_of HT_.out (by kernel_rfl)) (fun _ _ _ h => h) (Or.inl ⟨by rfl, ?_⟩) ?_ ?_
  rotate_left; exact slv; rotate_left; exact sla
  refine pure_ (i := 8) (N := some 17) (v := ?_) (a' := ?_) #[tt,tt,tt,tt,tt,tt,tt,tt,tt,ff,ff,ff,ff,ff,ff,ff,ff,ff] rfl rfl (any_of HT_.out (by kernel_rfl)) (fun _ _ _ h => h) (Or.inl ⟨by rfl, ?_⟩) ?_ ?_
  rotate_left; exact slv; rotate_left; exact sla
  refine pure_ (i := 9) (N := some 18) (v := ?_) (a' := ?_) #[tt,tt,tt,tt,tt,tt,tt,tt,tt,tt,ff,ff,ff,ff,ff,ff,ff,ff] rfl rfl (any_of HT_.out (by kernel_rfl)) (fun _ _ _ h => h) (Or.inl ⟨by rfl, ?_⟩) ?_ ?_
  rotate_left; exact slv; rotate_left; exact sla
  refine take_ (i := 10) (N := some 19) (v := ?_) (a' := ?_) #[tt,tt,tt,tt,tt,tt,tt,tt,tt,tt,tt,ff,ff,ff,ff,ff,ff,ff] rfl rfl (take_ofW HT_.out HW_.out (by kernel_rfl)) (fun _ _ _ h => h) (Or.inl ⟨by rfl, ?_⟩) hHeld ?_ ?_
  rotate_left; exact slt12; rotate_left; exact sla
  refine pure_ (i := 11) (N := some 20) (v := ?_) (a' := ?_) #[tt,tt,tt,tt,tt,tt,tt,tt,tt,tt,tt,tt,ff,ff,ff,ff,ff,ff] rfl rfl (any_of HT_.out (by kernel_rfl)) (fun _ _ _ h => h) (Or.inl ⟨by rfl, ?_⟩) ?_ ?_
  rotate_left; exact slv; rotate_left; exact sla
  refine pure_ (i := 12) (N := some 21) (v := ?_) (a' := ?_) #[tt,tt,tt,tt,tt,tt,tt,tt,tt,tt,tt,tt,tt,ff,ff,ff,ff,ff] rfl rfl (any_of HT_.out (by kernel_rfl)) (fun _ _ _ h => h) (Or.inl ⟨by rfl, ?_⟩) ?_ ?_
  rotate_left; exact slv; rotate_left; exact sla
  refine take_ (i := 13) (N := some 22) (v := ?_) (a' := ?_) #[tt,tt,tt,tt,tt,tt,tt,tt,tt,tt,tt,tt,tt,tt,ff,ff,ff,ff] rfl rfl (take_ofW HT_.out HW_.out (by kernel_rfl)) (fun _ _ _ h => h) (Or.inl ⟨by rfl, ?_⟩) hHeld ?_ ?_
  rotate_left; exact slt12; rotate_left; exact sla
  refine join_ (σ := Nat × Nat) 2 #[tt,tt,tt,tt,tt,tt,tt,tt,tt,tt,tt,tt,tt,tt,tt,tt,ff,ff] (fun s => [(7, .pointer (some ⟨s.1, 0, none⟩)), (8, .pointer (some ⟨s.2, 0, none⟩))]) (fun s w' => match s with | (g7, g8) => w.heap.size ≤ g7 ∧ w.heap.size ≤ g8 ∧ g7 ≠ g8 ∧ Aside0 (Below w.heap.size w w') ∧ Aside0 (w'.heap[g7]? = some (.cells #[.int .i64 0, .int .i64 0, .int .i64 0, .int .i64 0] 98 (0, 0))) ∧ Aside0 (w'.heap[g8]? = some (.cells #[.int .i64 0, .int .i64 0, .int .i64 0, .int .i64 0] 98 (0, 0)))) ?cont (fun hJ => ?_)
  case cont =>
    clear HB0 hHeld
    rintro ⟨g7, g8⟩ w2 ⟨h7, h8, h78, HB2, H72, H82⟩
    have HN := Aside0.mk (And.intro h7 (And.intro h8 h78))
    clear h7 h8 h78
    refine norm_ (a' := ?_) ?_ ?_
    rotate_left
    · simp only [putAll, Act.put, List.setIfInBounds_toArray, List.set_cons_zero, List.set_cons_succ]
      rfl
    refine one_ (i := 16) (N := none) #[tt,tt,tt,tt,tt,tt,tt,tt,tt,tt,tt,tt,tt,tt,tt,tt,tt,ff] rfl rfl (one_of HT_.out (by kernel_rfl)) (by decide) (fun K hK => ?_)
    refine rowstore_ (by rfl) rfl 98 (.tmp 7) (.tmp 15) rfl g7 #[.int .i64 (at_ l i).1, .int .i64 (at_ l i).2.1.1, .int .i64 (at_ l i).2.1.2, .int .i64 (at_ l i).2.2] (by rfl) (by rfl) _ _ H72.out infoIt rfl (by simp [Value.oneCell']) ?_
    have hs := chg_row (cs := #[.int .i64 (at_ l i).1, .int .i64 (at_ l i).2.1.1, .int .i64 (at_ l i).2.1.2, .int .i64 (at_ l i).2.2]) H72.out
    generalize w2.setRow g7 #[.int .i64 (at_ l i).1, .int .i64 (at_ l i).2.1.1, .int .i64 (at_ l i).2.1.2, .int .i64 (at_ l i).2.2] = w3 at hs ⊢
    have HB3 : Aside0 (Below w.heap.size w w3) := ⟨HB2.out.trans (hs.2.below HB2.out.size (fun k hk => by have e : k = g7 := hk; have := HN.out; omega))⟩
    have H73 := Aside0.mk hs.1
    have H83 := Aside0.mk (hs.2.heap H82.out (fun e => by have e' : g8 = g7 := e; have := HN.out; omega))
    clear hs HB2 H72 H82
    refine hK.out _ _ (HS.out _ HB3.out) (fun hHeld => ?_)
    clear hK K
    refine one_ (i := 17) (N := none) #[tt,tt,tt,tt,tt,tt,tt,tt,tt,tt,tt,tt,tt,tt,tt,tt,tt,tt] rfl rfl (one_of HT_.out (by kernel_rfl)) (by decide) (fun K hK => ?_)
    refine rowstore_ (by rfl) rfl 98 (.tmp 8) (.tmp 22) rfl g8 #[.int .i64 (at_ l j).1, .int .i64 (at_ l j).2.1.1, .int .i64 (at_ l j).2.1.2, .int .i64 (at_ l j).2.2] (by rfl) (by rfl) _ _ H83.out infoIt rfl (by simp [Value.oneCell']) ?_
    have hs := chg_row (cs := #[.int .i64 (at_ l j).1, .int .i64 (at_ l j).2.1.1, .int .i64 (at_ l j).2.1.2, .int .i64 (at_ l j).2.2]) H83.out
    generalize w3.setRow g8 #[.int .i64 (at_ l j).1, .int .i64 (at_ l j).2.1.1, .int .i64 (at_ l j).2.1.2, .int .i64 (at_ l j).2.2] = w4 at hs ⊢
    have HB4 : Aside0 (Below w.heap.size w w4) := ⟨HB3.out.trans (hs.2.below HB3.out.size (fun k hk => by have e : k = g8 := hk; have := HN.out; omega))⟩
    have H84 := Aside0.mk hs.1
    have H74 := Aside0.mk (hs.2.heap H73.out (fun e => by have e' : g7 = g8 := e; have := HN.out; omega))
    clear hs HB3 H73 H83
    refine hK.out _ _ (HS.out _ HB4.out) (fun hHeld => ?_)
    clear hK K
    refine done_ (done_of HT_.out (by kernel_rfl)) ?_
    clear hHeld HT_ HW_
    go_wp2_with fail
    have HB7 : Aside0 (Below w.heap.size w w4.drew) := ⟨below_drew HB4.out⟩
    have H77 : Aside0 (w4.drew.heap[g7]? = _) := ⟨H74.out⟩
    have H87 : Aside0 (w4.drew.heap[g8]? = _) := ⟨H84.out⟩
    clear HB4 H74 H84
    refine start_ (n := 9) (S := fun w' => w'.cell? ⟨g, 0, none⟩ = some (.func (.func f) #[] #[]) ∧ w'.cell? ⟨g7, 0, none⟩ = some (.int .i64 (at_ l i).1) ∧ w'.cell? ⟨g7, 1, none⟩ = some (.int .i64 (at_ l i).2.1.1) ∧ w'.cell? ⟨g7, 2, none⟩ = some (.int .i64 (at_ l i).2.1.2) ∧ w'.cell? ⟨g7, 3, none⟩ = some (.int .i64 (at_ l i).2.2) ∧ w'.cell? ⟨g8, 0, none⟩ = some (.int .i64 (at_ l j).1) ∧ w'.cell? ⟨g8, 1, none⟩ = some (.int .i64 (at_ l j).2.1.1) ∧ w'.cell? ⟨g8, 2, none⟩ = some (.int .i64 (at_ l j).2.1.2) ∧ w'.cell? ⟨g8, 3, none⟩ = some (.int .i64 (at_ l j).2.2)) (ds := []) #[ff,ff,ff,ff,ff,ff,ff,ff,ff] (by kernel_rfl) rfl rfl ⟨(HS.out _ HB7.out).1, (blk_cell H77.out 0).trans rfl, (blk_cell H77.out 1).trans rfl, (blk_cell H77.out 2).trans rfl, (blk_cell H77.out 3).trans rfl, (blk_cell H87.out 0).trans rfl, (blk_cell H87.out 1).trans rfl, (blk_cell H87.out 2).trans rfl, (blk_cell H87.out 3).trans rfl⟩ (fun hHeld => ?_)
    refine with_tabW ahead_tab2 ahead_bits2 (fun HT_ HW_ => ?_)
    generalize w4.drew = w7 at HB7 H77 H87 hHeld ⊢
    refine pure_ (i := 0) (N := some 23) (v := ?_) (a' := ?_) #[tt,ff,ff,ff,ff,ff,ff,ff,ff] rfl rfl (any_of HT_.out (by kernel_rfl)) (fun _ _ _ h => h) (Or.inl ⟨by rfl, ?_⟩) ?_ ?_
    rotate_left; exact slv; rotate_left; exact sla
    refine pure_ (i := 1) (N := some 24) (v := ?_) (a' := ?_) #[tt,tt,ff,ff,ff,ff,ff,ff,ff] rfl rfl (any_of HT_.out (by kernel_rfl)) (fun _ _ _ h => h) (Or.inl ⟨by rfl, ?_⟩) ?_ ?_
    rotate_left; exact slv; rotate_left; exact sla
    refine pure_ (i := 2) (N := some 25) (v := ?_) (a' := ?_) #[tt,tt,tt,ff,ff,ff,ff,ff,ff] rfl rfl (any_of HT_.out (by kernel_rfl)) (fun _ _ _ h => h) (Or.inl ⟨by rfl, ?_⟩) ?_ ?_
    rotate_left; exact slv; rotate_left; exact sla
    refine take_ (i := 3) (N := some 26) (v := ?_) (a' := ?_) #[tt,tt,tt,tt,ff,ff,ff,ff,ff] rfl rfl (take_ofW HT_.out HW_.out (by kernel_rfl)) (fun _ _ _ h => h) (Or.inl ⟨by rfl, ?_⟩) hHeld ?_ ?_
    rotate_left; exact slt9; rotate_left; exact sla
    refine pure_ (i := 4) (N := some 27) (v := ?_) (a' := ?_) #[tt,tt,tt,tt,tt,ff,ff,ff,ff] rfl rfl (any_of HT_.out (by kernel_rfl)) (fun _ _ _ h => h) (Or.inl ⟨by rfl, ?_⟩) ?_ ?_
    rotate_left; exact slv; rotate_left; exact sla
    refine take_ (i := 5) (N := some 28) (v := ?_) (a' := ?_) #[tt,tt,tt,tt,tt,tt,ff,ff,ff] rfl rfl (take_ofW HT_.out HW_.out (by kernel_rfl)) (fun _ _ _ h => h) (Or.inl ⟨by rfl, ?_⟩) hHeld ?_ ?_
    rotate_left; exact slt9; rotate_left; exact sla
    refine pure_ (i := 6) (N := some 29) (v := ?_) (a' := ?_) #[tt,tt,tt,tt,tt,tt,tt,ff,ff] rfl rfl (any_of HT_.out (by kernel_rfl)) (fun _ _ _ h => h) (Or.inl ⟨by rfl, ?_⟩) ?_ ?_
    rotate_left; exact slv; rotate_left; exact sla
    refine take_ (i := 7) (N := some 30) (v := ?_) (a' := ?_) #[tt,tt,tt,tt,tt,tt,tt,tt,ff] rfl rfl (take_ofW HT_.out HW_.out (by kernel_rfl)) (fun _ _ _ h => h) (Or.inl ⟨by rfl, ?_⟩) hHeld ?_ ?_
    rotate_left; exact slt9; rotate_left; exact sla
    obtain ⟨b1, hb1⟩ : ∃ b1, b1 = lt (at_ l i).2.1 (at_ l j).2.1 := ⟨_, rfl⟩
    have HB1 := Aside0.mk hb1
    clear hb1
    refine one_ (i := 8) (N := some 31) #[tt,tt,tt,tt,tt,tt,tt,tt,tt] rfl rfl (one_of HT_.out (by kernel_rfl)) (by decide) (fun K hK => ?_)
    refine via_ HF.out HF2.out HF3.out #[.agg #[.int .i64 (at_ l i).2.1.1, .int .i64 (at_ l i).2.1.2], .agg #[.int .i64 (at_ l j).2.1.1, .int .i64 (at_ l j).2.1.2]] (by rfl) rfl rfl rfl (by (try simp only [List.map_toArray, List.map_cons, List.map_nil]); first | done | rfl) ?_
    refine (HLT.out.calls _ _ _).mono ?_
    rintro e w8 ⟨rfl, hb⟩
    refine ⟨_, rfl, ?_⟩
    have HB8 := Aside0.mk (below_step HB7.out hb)
    have H78 := Aside0.mk ((hb.block _ (blk_lt H77.out)).trans H77.out)
    have H88 := Aside0.mk ((hb.block _ (blk_lt H87.out)).trans H87.out)
    clear hb HB7 H77 H87
    rw [← HB1.out]
    refine hK.out _ _ ⟨(HS.out _ HB8.out).1, (blk_cell H78.out 0).trans rfl, (blk_cell H78.out 1).trans rfl, (blk_cell H78.out 2).trans rfl, (blk_cell H78.out 3).trans rfl, (blk_cell H88.out 0).trans rfl, (blk_cell H88.out 1).trans rfl, (blk_cell H88.out 2).trans rfl, (blk_cell H88.out 3).trans rfl⟩ (fun hHeld => ?_)
    clear hK K
    refine norm_ (a' := ?_) ?_ ?_
    rotate_left
    · show Act.put _ (some 31) _ = _
      simp only [Act.put, List.setIfInBounds_toArray, List.set_cons_zero, List.set_cons_succ, i64_w, i32_w]
      rfl
    refine done_ (done_of HT_.out (by kernel_rfl)) ?_
    clear hHeld HT_ HW_
    cases b1 with
    | true =>
      go_wp2
      go_ret
      exact ⟨by unfold aheadB; rw [← HB1.out]; rfl, HB8.out⟩
    | false =>
      go_wp2_with fail
      have HB9 : Aside0 (Below w.heap.size w w8.drew) := ⟨below_drew HB8.out⟩
      have H79 : Aside0 (w8.drew.heap[g7]? = _) := ⟨H78.out⟩
      have H89 : Aside0 (w8.drew.heap[g8]? = _) := ⟨H88.out⟩
      clear HB8 H78 H88
      refine start_ (n := 18) (S := fun w' => w'.cell? ⟨g, 0, none⟩ = some (.func (.func f) #[] #[]) ∧ w'.cell? ⟨g7, 0, none⟩ = some (.int .i64 (at_ l i).1) ∧ w'.cell? ⟨g7, 1, none⟩ = some (.int .i64 (at_ l i).2.1.1) ∧ w'.cell? ⟨g7, 2, none⟩ = some (.int .i64 (at_ l i).2.1.2) ∧ w'.cell? ⟨g7, 3, none⟩ = some (.int .i64 (at_ l i).2.2) ∧ w'.cell? ⟨g8, 0, none⟩ = some (.int .i64 (at_ l j).1) ∧ w'.cell? ⟨g8, 1, none⟩ = some (.int .i64 (at_ l j).2.1.1) ∧ w'.cell? ⟨g8, 2, none⟩ = some (.int .i64 (at_ l j).2.1.2) ∧ w'.cell? ⟨g8, 3, none⟩ = some (.int .i64 (at_ l j).2.2)) (ds := []) #[ff,ff,ff,ff,ff,ff,ff,ff,ff,ff,ff,ff,ff,ff,ff,ff,ff,ff] (by kernel_rfl) rfl rfl ⟨(HS.out _ HB9.out).1, (blk_cell H79.out 0).trans rfl, (blk_cell H79.out 1).trans rfl, (blk_cell H79.out 2).trans rfl, (blk_cell H79.out 3).trans rfl, (blk_cell H89.out 0).trans rfl, (blk_cell H89.out 1).trans rfl, (blk_cell H89.out 2).trans rfl, (blk_cell H89.out 3).trans rfl⟩ (fun hHeld => ?_)
      refine with_tabW ahead_tab4 ahead_bits4 (fun HT_ HW_ => ?_)
      generalize w8.drew = w9 at HB9 H79 H89 hHeld ⊢
      refine pure_ (i := 0) (N := some 32) (v := ?_) (a' := ?_) #[tt,ff,ff,ff,ff,ff,ff,ff,ff,ff,ff,ff,ff,ff,ff,ff,ff,ff] rfl rfl (any_of HT_.out (by kernel_rfl)) (fun _ _ _ h => h) (Or.inl ⟨by rfl, ?_⟩) ?_ ?_
      rotate_left; exact slv; rotate_left; exact sla
      refine pure_ (i := 1) (N := some 33) (v := ?_) (a' := ?_) #[tt,tt,ff,ff,ff,ff,ff,ff,ff,ff,ff,ff,ff,ff,ff,ff,ff,ff] rfl rfl (any_of HT_.out (by kernel_rfl)) (fun _ _ _ h => h) (Or.inl ⟨by rfl, ?_⟩) ?_ ?_
      rotate_left; exact slv; rotate_left; exact sla
      refine pure_ (i := 2) (N := some 34) (v := ?_) (a' := ?_) #[tt,tt,tt,ff,ff,ff,ff,ff,ff,ff,ff,ff,ff,ff,ff,ff,ff,ff] rfl rfl (any_of HT_.out (by kernel_rfl)) (fun _ _ _ h => h) (Or.inl ⟨by rfl, ?_⟩) ?_ ?_
      rotate_left; exact slv; rotate_left; exact sla
      refine take_ (i := 3) (N := some 35) (v := ?_) (a' := ?_) #[tt,tt,tt,tt,ff,ff,ff,ff,ff,ff,ff,ff,ff,ff,ff,ff,ff,ff] rfl rfl (take_ofW HT_.out HW_.out (by kernel_rfl)) (fun _ _ _ h => h) (Or.inl ⟨by rfl, ?_⟩) hHeld ?_ ?_
      rotate_left; exact slt9; rotate_left; exact sla
      refine pure_ (i := 4) (N := some 36) (v := ?_) (a' := ?_) #[tt,tt,tt,tt,tt,ff,ff,ff,ff,ff,ff,ff,ff,ff,ff,ff,ff,ff] rfl rfl (any_of HT_.out (by kernel_rfl)) (fun _ _ _ h => h) (Or.inl ⟨by rfl, ?_⟩) ?_ ?_
      rotate_left; exact slv; rotate_left; exact sla
      refine take_ (i := 5) (N := some 37) (v := ?_) (a' := ?_) #[tt,tt,tt,tt,tt,tt,ff,ff,ff,ff,ff,ff,ff,ff,ff,ff,ff,ff] rfl rfl (take_ofW HT_.out HW_.out (by kernel_rfl)) (fun _ _ _ h => h) (Or.inl ⟨by rfl, ?_⟩) hHeld ?_ ?_
      rotate_left; exact slt9; rotate_left; exact sla
      refine pure_ (i := 6) (N := some 38) (v := ?_) (a' := ?_) #[tt,tt,tt,tt,tt,tt,tt,ff,ff,ff,ff,ff,ff,ff,ff,ff,ff,ff] rfl rfl (any_of HT_.out (by kernel_rfl)) (fun _ _ _ h => h) (Or.inl ⟨by rfl, ?_⟩) ?_ ?_
      rotate_left; exact slv; rotate_left; exact sla
      refine take_ (i := 7) (N := some 39) (v := ?_) (a' := ?_) #[tt,tt,tt,tt,tt,tt,tt,tt,ff,ff,ff,ff,ff,ff,ff,ff,ff,ff] rfl rfl (take_ofW HT_.out HW_.out (by kernel_rfl)) (fun _ _ _ h => h) (Or.inl ⟨by rfl, ?_⟩) hHeld ?_ ?_
      rotate_left; exact slt9; rotate_left; exact sla
      obtain ⟨b2, hb2⟩ : ∃ b2, b2 = lt (at_ l j).2.1 (at_ l i).2.1 := ⟨_, rfl⟩
      have HB2 := Aside0.mk hb2
      clear hb2
      refine one_ (i := 8) (N := some 40) #[tt,tt,tt,tt,tt,tt,tt,tt,tt,ff,ff,ff,ff,ff,ff,ff,ff,ff] rfl rfl (one_of HT_.out (by kernel_rfl)) (by decide) (fun K hK => ?_)
      refine via_ HF.out HF2.out HF3.out #[.agg #[.int .i64 (at_ l j).2.1.1, .int .i64 (at_ l j).2.1.2], .agg #[.int .i64 (at_ l i).2.1.1, .int .i64 (at_ l i).2.1.2]] (by rfl) rfl rfl rfl (by (try simp only [List.map_toArray, List.map_cons, List.map_nil]); first | done | rfl) ?_
      refine (HLT.out.calls _ _ _).mono ?_
      rintro e w10 ⟨rfl, hb⟩
      refine ⟨_, rfl, ?_⟩
      have HB10 := Aside0.mk (below_step HB9.out hb)
      have H710 := Aside0.mk ((hb.block _ (blk_lt H79.out)).trans H79.out)
      have H810 := Aside0.mk ((hb.block _ (blk_lt H89.out)).trans H89.out)
      clear hb HB9 H79 H89
      rw [← HB2.out]
      refine hK.out _ _ ⟨(HS.out _ HB10.out).1, (blk_cell H710.out 0).trans rfl, (blk_cell H710.out 1).trans rfl, (blk_cell H710.out 2).trans rfl, (blk_cell H710.out 3).trans rfl, (blk_cell H810.out 0).trans rfl, (blk_cell H810.out 1).trans rfl, (blk_cell H810.out 2).trans rfl, (blk_cell H810.out 3).trans rfl⟩ (fun hHeld => ?_)
      clear hK K
      refine norm_ (a' := ?_) ?_ ?_
      rotate_left
      · show Act.put _ (some 40) _ = _
        simp only [Act.put, List.setIfInBounds_toArray, List.set_cons_zero, List.set_cons_succ, i64_w, i32_w]
        rfl
      cases b2 with
      | true =>
        refine pure_ (i := 9) (N := some 41) (v := ?_) (a' := ?_) #[tt,tt,tt,tt,tt,tt,tt,tt,tt,tt,ff,ff,ff,ff,ff,ff,ff,ff] rfl rfl (any_of HT_.out (by kernel_rfl)) (fun _ _ _ h => h) (Or.inl ⟨by rfl, ?_⟩) ?_ ?_
        rotate_left; exact slv; rotate_left; exact sla
        refine pure_ (i := 10) (N := some 42) (v := ?_) (a' := ?_) #[tt,tt,tt,tt,tt,tt,tt,tt,tt,tt,tt,ff,ff,ff,ff,ff,ff,ff] rfl rfl (any_of HT_.out (by kernel_rfl)) (fun _ _ _ h => h) (Or.inl ⟨by rfl, ?_⟩) ?_ ?_
        rotate_left; exact slv; rotate_left; exact sla
        refine pure_ (i := 11) (N := some 43) (v := undef) (a' := ?_) #[tt,tt,tt,tt,tt,tt,tt,tt,tt,tt,tt,tt,ff,ff,ff,ff,ff,ff] rfl rfl (any_of HT_.out (by kernel_rfl)) (fun _ _ _ h => h) (Or.inr ⟨by rfl, rfl⟩) ?_ ?_
        rotate_left
        · exact sla
        refine pure_ (i := 12) (N := some 44) (v := undef) (a' := ?_) #[tt,tt,tt,tt,tt,tt,tt,tt,tt,tt,tt,tt,tt,ff,ff,ff,ff,ff] rfl rfl (any_of HT_.out (by kernel_rfl)) (fun _ _ _ h => h) (Or.inr ⟨by rfl, rfl⟩) ?_ ?_
        rotate_left
        · exact sla
        refine pure_ (i := 13) (N := some 45) (v := undef) (a' := ?_) #[tt,tt,tt,tt,tt,tt,tt,tt,tt,tt,tt,tt,tt,tt,ff,ff,ff,ff] rfl rfl (any_of HT_.out (by kernel_rfl)) (fun _ _ _ h => h) (Or.inr ⟨by rfl, rfl⟩) ?_ ?_
        rotate_left
        · exact sla
        refine pure_ (i := 14) (N := some 46) (v := undef) (a' := ?_) #[tt,tt,tt,tt,tt,tt,tt,tt,tt,tt,tt,tt,tt,tt,tt,ff,ff,ff] rfl rfl (any_of HT_.out (by kernel_rfl)) (fun _ _ _ h => h) (Or.inr ⟨by rfl, rfl⟩) ?_ ?_
        rotate_left
        · exact sla
        refine pure_ (i := 15) (N := some 47) (v := undef) (a' := ?_) #[tt,tt,tt,tt,tt,tt,tt,tt,tt,tt,tt,tt,tt,tt,tt,tt,ff,ff] rfl rfl (any_of HT_.out (by kernel_rfl)) (fun _ _ _ h => h) (Or.inr ⟨by rfl, rfl⟩) ?_ ?_
        rotate_left
        · exact sla
        refine pure_ (i := 16) (N := some 48) (v := ?_) (a' := ?_) #[tt,tt,tt,tt,tt,tt,tt,tt,tt,tt,tt,tt,tt,tt,tt,tt,tt,ff] rfl rfl (any_of HT_.out (by kernel_rfl)) (fun _ _ _ h => h) (Or.inl ⟨by rfl, ?_⟩) ?_ ?_
        rotate_left; exact slv; rotate_left; exact sla
        refine pure_ (i := 17) (N := some 6) (v := ?_) (a' := ?_) #[tt,tt,tt,tt,tt,tt,tt,tt,tt,tt,tt,tt,tt,tt,tt,tt,tt,tt] rfl rfl (any_of HT_.out (by kernel_rfl)) (fun _ _ _ h => h) (Or.inl ⟨by rfl, ?_⟩) ?_ ?_
        rotate_left; exact slv; rotate_left; exact sla
        refine done_ (done_of HT_.out (by kernel_rfl)) ?_
        clear hHeld HT_ HW_
        try go_wp2
        go_ret
        exact ⟨by unfold aheadB; rw [← HB1.out, ← HB2.out]; rfl, HB10.out⟩
      | false =>
        refine pure_ (i := 9) (N := some 41) (v := ?_) (a' := ?_) #[tt,tt,tt,tt,tt,tt,tt,tt,tt,tt,ff,ff,ff,ff,ff,ff,ff,ff] rfl rfl (any_of HT_.out (by kernel_rfl)) (fun _ _ _ h => h) (Or.inl ⟨by rfl, ?_⟩) ?_ ?_
        rotate_left; exact slv; rotate_left; exact sla
        refine pure_ (i := 10) (N := some 42) (v := ?_) (a' := ?_) #[tt,tt,tt,tt,tt,tt,tt,tt,tt,tt,tt,ff,ff,ff,ff,ff,ff,ff] rfl rfl (any_of HT_.out (by kernel_rfl)) (fun _ _ _ h => h) (Or.inl ⟨by rfl, ?_⟩) ?_ ?_
        rotate_left; exact slv; rotate_left; exact sla
        refine pure_ (i := 11) (N := some 43) (v := ?_) (a' := ?_) #[tt,tt,tt,tt,tt,tt,tt,tt,tt,tt,tt,tt,ff,ff,ff,ff,ff,ff] rfl rfl (any_of HT_.out (by kernel_rfl)) (fun _ _ _ h => h) (Or.inl ⟨by rfl, ?_⟩) ?_ ?_
        rotate_left; exact slv; rotate_left; exact sla
        refine take_ (i := 12) (N := some 44) (v := ?_) (a' := ?_) #[tt,tt,tt,tt,tt,tt,tt,tt,tt,tt,tt,tt,tt,ff,ff,ff,ff,ff] rfl rfl (take_ofW HT_.out HW_.out (by kernel_rfl)) (fun _ _ _ h => h) (Or.inl ⟨by rfl, ?_⟩) hHeld ?_ ?_
        rotate_left; exact slt9; rotate_left; exact sla
        refine pure_ (i := 13) (N := some 45) (v := ?_) (a' := ?_) #[tt,tt,tt,tt,tt,tt,tt,tt,tt,tt,tt,tt,tt,tt,ff,ff,ff,ff] rfl rfl (any_of HT_.out (by kernel_rfl)) (fun _ _ _ h => h) (Or.inl ⟨by rfl, ?_⟩) ?_ ?_
        rotate_left; exact slv; rotate_left; exact sla
        refine take_ (i := 14) (N := some 46) (v := ?_) (a' := ?_) #[tt,tt,tt,tt,tt,tt,tt,tt,tt,tt,tt,tt,tt,tt,tt,ff,ff,ff] rfl rfl (take_ofW HT_.out HW_.out (by kernel_rfl)) (fun _ _ _ h => h) (Or.inl ⟨by rfl, ?_⟩) hHeld ?_ ?_
        rotate_left; exact slt9; rotate_left; exact sla
        refine pure_ (i := 15) (N := some 47) (v := ?_) (a' := ?_) #[tt,tt,tt,tt,tt,tt,tt,tt,tt,tt,tt,tt,tt,tt,tt,tt,ff,ff] rfl rfl (any_of HT_.out (by kernel_rfl)) (fun _ _ _ h => h) (Or.inl ⟨by rfl, ?_⟩) ?_ ?_
        rotate_left; exact slv; rotate_left; exact sla
        refine pure_ (i := 16) (N := some 48) (v := ?_) (a' := ?_) #[tt,tt,tt,tt,tt,tt,tt,tt,tt,tt,tt,tt,tt,tt,tt,tt,tt,ff] rfl rfl (any_of HT_.out (by kernel_rfl)) (fun _ _ _ h => h) (Or.inl ⟨by rfl, ?_⟩) ?_ ?_
        rotate_left; exact slv; rotate_left; exact sla
        refine pure_ (i := 17) (N := some 6) (v := ?_) (a' := ?_) #[tt,tt,tt,tt,tt,tt,tt,tt,tt,tt,tt,tt,tt,tt,tt,tt,tt,tt] rfl rfl (any_of HT_.out (by kernel_rfl)) (fun _ _ _ h => h) (Or.inl ⟨by rfl, ?_⟩) ?_ ?_
        rotate_left; exact slv; rotate_left; exact sla
        refine done_ (done_of HT_.out (by kernel_rfl)) ?_
        clear hHeld HT_ HW_
        try go_wp2
        go_ret
        exact ⟨by unfold aheadB; rw [← HB1.out, ← HB2.out]; rfl, HB10.out⟩
  refine two_ (i := 14) (j := 15) (Ni := some 7) (Nj := some 8) #[tt,tt,tt,tt,tt,tt,tt,tt,tt,tt,tt,tt,tt,tt,tt,ff,ff,ff] #[tt,tt,tt,tt,tt,tt,tt,tt,tt,tt,tt,tt,tt,tt,ff,tt,ff,ff] rfl rfl rfl rfl (two_of HT_.out (by kernel_rfl)) (by decide) (by decide) (fun K hK => ?_) (fun K hK => ?_)
  · have HW1 : Aside0 (w.heap.size ≤ w1.heap.size) := ⟨HB0.out.size⟩
    refine value_ (v := .pointer (some ⟨w1.heap.size, 0, none⟩)) (w1 := w1.alloc (.cells #[.int .i64 0, .int .i64 0, .int .i64 0, .int .i64 0] 98)) (by rfl) rfl ?_ ?_
    · first | (go_simp; done) | (go_simp; rfl)
    have H75 : Aside0 ((w1.alloc (.cells #[.int .i64 0, .int .i64 0, .int .i64 0, .int .i64 0] 98)).heap[w1.heap.size]? = some (.cells #[.int .i64 0, .int .i64 0, .int .i64 0, .int .i64 0] 98 (0, 0))) := ⟨blk_new _ _⟩
    have HB5 : Aside0 (Below w.heap.size w (w1.alloc (.cells #[.int .i64 0, .int .i64 0, .int .i64 0, .int .i64 0] 98))) := ⟨below_alloc HB0.out _⟩
    generalize w1.alloc (.cells #[.int .i64 0, .int .i64 0, .int .i64 0, .int .i64 0] 98) = w5 at H75 HB5  ⊢
    refine hK.out _ _ (HS.out _ HB5.out) (fun hHeld => ?_)
    clear hK K
    refine norm_ (a' := ?_) ?_ ?_
    rotate_left
    · show Act.put _ (some 7) _ = _
      simp only [Act.put, List.setIfInBounds_toArray, List.set_cons_zero, List.set_cons_succ, i64_w, i32_w]
      rfl
    refine one_ (i := 15) (N := some 8) #[tt,tt,tt,tt,tt,tt,tt,tt,tt,tt,tt,tt,tt,tt,tt,tt,ff,ff] rfl rfl (one_of HT_.out (by kernel_rfl)) (by decide) (fun K hK => ?_)
    refine value_ (v := .pointer (some ⟨w5.heap.size, 0, none⟩)) (w1 := w5.alloc (.cells #[.int .i64 0, .int .i64 0, .int .i64 0, .int .i64 0] 98)) (by rfl) rfl ?_ ?_
    · first | (go_simp; done) | (go_simp; rfl)
    have H86 : Aside0 ((w5.alloc (.cells #[.int .i64 0, .int .i64 0, .int .i64 0, .int .i64 0] 98)).heap[w5.heap.size]? = some (.cells #[.int .i64 0, .int .i64 0, .int .i64 0, .int .i64 0] 98 (0, 0))) := ⟨blk_new _ _⟩
    have HB6 : Aside0 (Below w.heap.size w (w5.alloc (.cells #[.int .i64 0, .int .i64 0, .int .i64 0, .int .i64 0] 98))) := ⟨below_alloc HB5.out _⟩
    have H76 := Aside0.mk (blk_alloc H75.out (.cells #[.int .i64 0, .int .i64 0, .int .i64 0, .int .i64 0] 98))
    have HZ : Aside0 (w1.heap.size < w5.heap.size) := ⟨blk_lt H75.out⟩
    generalize w5.alloc (.cells #[.int .i64 0, .int .i64 0, .int .i64 0, .int .i64 0] 98) = w6 at H86 HB6 H76 ⊢
    refine hK.out _ _ (HS.out _ HB6.out) (fun hHeld => ?_)
    clear hK K
    refine norm_ (a' := ?_) ?_ ?_
    rotate_left
    · show Act.put _ (some 8) _ = _
      simp only [Act.put, List.setIfInBounds_toArray, List.set_cons_zero, List.set_cons_succ, i64_w, i32_w]
      rfl
    exact norm_ (by first | (simp only [putAll, Act.put, List.setIfInBounds_toArray, List.set_cons_zero, List.set_cons_succ]; done) | (simp only [putAll, Act.put, List.setIfInBounds_toArray, List.set_cons_zero, List.set_cons_succ]; rfl)) (hJ (w1.heap.size, w5.heap.size) _ ⟨by have := HW1.out; have := HZ.out; omega, by have := HW1.out; have := HZ.out; omega, by have := HZ.out; omega, HB6, H76, H86⟩)
  · have HW1 : Aside0 (w.heap.size ≤ w1.heap.size) := ⟨HB0.out.size⟩
    refine value_ (v := .pointer (some ⟨w1.heap.size, 0, none⟩)) (w1 := w1.alloc (.cells #[.int .i64 0, .int .i64 0, .int .i64 0, .int .i64 0] 98)) (by rfl) rfl ?_ ?_
    · first | (go_simp; done) | (go_simp; rfl)
    have H85 : Aside0 ((w1.alloc (.cells #[.int .i64 0, .int .i64 0, .int .i64 0, .int .i64 0] 98)).heap[w1.heap.size]? = some (.cells #[.int .i64 0, .int .i64 0, .int .i64 0, .int .i64 0] 98 (0, 0))) := ⟨blk_new _ _⟩
    have HB5 : Aside0 (Below w.heap.size w (w1.alloc (.cells #[.int .i64 0, .int .i64 0, .int .i64 0, .int .i64 0] 98))) := ⟨below_alloc HB0.out _⟩
    generalize w1.alloc (.cells #[.int .i64 0, .int .i64 0, .int .i64 0, .int .i64 0] 98) = w5 at H85 HB5  ⊢
    refine hK.out _ _ (HS.out _ HB5.out) (fun hHeld => ?_)
    clear hK K
    refine norm_ (a' := ?_) ?_ ?_
    rotate_left
    · show Act.put _ (some 8) _ = _
      simp only [Act.put, List.setIfInBounds_toArray, List.set_cons_zero, List.set_cons_succ, i64_w, i32_w]
      rfl
    refine one_ (i := 14) (N := some 7) #[tt,tt,tt,tt,tt,tt,tt,tt,tt,tt,tt,tt,tt,tt,tt,tt,ff,ff] rfl rfl (one_of HT_.out (by kernel_rfl)) (by decide) (fun K hK => ?_)
    refine value_ (v := .pointer (some ⟨w5.heap.size, 0, none⟩)) (w1 := w5.alloc (.cells #[.int .i64 0, .int .i64 0, .int .i64 0, .int .i64 0] 98)) (by rfl) rfl ?_ ?_
    · first | (go_simp; done) | (go_simp; rfl)
    have H76 : Aside0 ((w5.alloc (.cells #[.int .i64 0, .int .i64 0, .int .i64 0, .int .i64 0] 98)).heap[w5.heap.size]? = some (.cells #[.int .i64 0, .int .i64 0, .int .i64 0, .int .i64 0] 98 (0, 0))) := ⟨blk_new _ _⟩
    have HB6 : Aside0 (Below w.heap.size w (w5.alloc (.cells #[.int .i64 0, .int .i64 0, .int .i64 0, .int .i64 0] 98))) := ⟨below_alloc HB5.out _⟩
    have H86 := Aside0.mk (blk_alloc H85.out (.cells #[.int .i64 0, .int .i64 0, .int .i64 0, .int .i64 0] 98))
    have HZ : Aside0 (w1.heap.size < w5.heap.size) := ⟨blk_lt H85.out⟩
    generalize w5.alloc (.cells #[.int .i64 0, .int .i64 0, .int .i64 0, .int .i64 0] 98) = w6 at H76 HB6 H86 ⊢
    refine hK.out _ _ (HS.out _ HB6.out) (fun hHeld => ?_)
    clear hK K
    refine norm_ (a' := ?_) ?_ ?_
    rotate_left
    · show Act.put _ (some 7) _ = _
      simp only [Act.put, List.setIfInBounds_toArray, List.set_cons_zero, List.set_cons_succ, i64_w, i32_w]
      rfl
    exact norm_ (by first | (simp only [putAll, Act.put, List.setIfInBounds_toArray, List.set_cons_zero, List.set_cons_succ]; done) | (simp only [putAll, Act.put, List.setIfInBounds_toArray, List.set_cons_zero, List.set_cons_succ]; rfl)) (hJ (w5.heap.size, w1.heap.size) _ ⟨by have := HW1.out; have := HZ.out; omega, by have := HW1.out; have := HZ.out; omega, by have := HZ.out; omega, HB6, H76, H86⟩)
def swap_T0 : Bool × List (List Nat × List Nat) := (true, [([], []), ([0], [0]), ([1], [1]), ([2], [2]), ([], []), ([], []), ([5], [5]), ([6], [6]), ([7], [7]), ([], []), ([], []), ([10], [10]), ([11], [11]), ([12], [12]), ([], []), ([13, 14], [13, 14]), ([15], [15]), ([], []), ([17], [17]), ([18], [18]), ([19], [19]), ([], []), ([20, 21], [20, 21]), ([22], [22]), ([3, 4, 0, 1, 2, 3, 4, 8, 10, 11, 12, 13, 14, 15, 16, 20, 23], [3, 4]), ([24, 16, 0, 1, 2, 3, 4, 8, 10, 11, 12, 13, 14, 15, 16, 20, 23], [16, 24]), ([8, 9, 0, 1, 2, 3, 4, 5, 6, 7, 8, 9, 10, 11, 12, 13, 14, 15, 16, 17, 18, 19, 20, 21, 22, 23, 24, 25], [8, 9]), ([26, 23, 25, 0, 1, 2, 3, 4, 5, 6, 7, 8, 9, 10, 11, 12, 13, 14, 15, 16, 17, 18, 19, 20, 21, 22, 23, 24, 25], [23, 26])])
def swap_B0 : List Nat := [0, 1, 3, 7, 0, 0, 32, 96, 224, 0, 0, 1024, 3072, 7168, 0, 31744, 64512, 0, 131072, 393216, 917504, 0, 4063232, 8257536, 16776703, 33553919, 67108863, 134217727]
theorem swap_tab0 : rtab .any (opsOf Try.f49 0) = swap_T0 := by kernel_rfl
theorem swap_bits0 : waitsOk swap_T0.2 swap_B0 = true := by kernel_rfl
def swap_T1 : Bool × List (List Nat × List Nat) := (true, [([], []), ([0], [0]), ([1], [1]), ([2], [2]), ([], []), ([4], [4]), ([5], [5]), ([6], [6]), ([], []), ([7, 8], [7, 8]), ([9], [9]), ([10], [10]), ([], []), ([12], [12]), ([13], [13]), ([14], [14]), ([], []), ([16], [16]), ([17], [17]), ([18], [18]), ([], []), ([19, 20], [19, 20]), ([21], [21]), ([22], [22]), ([], []), ([], []), ([3, 11, 15, 19, 23], [3, 11]), ([26], [26]), ([3, 27, 24, 26, 0, 1, 2, 3, 4, 5, 6, 7, 8, 9, 10, 11, 15, 19, 23, 24, 26], [3, 24, 27]), ([15, 23, 28, 0, 1, 2, 3, 4, 5, 6, 7, 8, 9, 10, 11, 15, 19, 23, 24, 26, 27, 28], [15, 23]), ([29], [29]), ([15, 30, 25, 29, 0, 1, 2, 3, 4, 5, 6, 7, 8, 9, 10, 11, 12, 13, 14, 15, 16, 17, 18, 19, 20, 21, 22, 23, 24, 25, 26, 27, 28, 29], [15, 25, 30])])
def swap_B1 : List Nat := [0, 1, 3, 7, 0, 16, 48, 112, 0, 496, 1008, 2032, 0, 4096, 12288, 28672, 0, 65536, 196608, 458752, 0, 2031616, 4128768, 8323072, 0, 0, 16777215, 83886079, 234881023, 503316479, 1040187391, 2147483647]
theorem swap_tab1 : rtab .any (opsOf Try.f49 1) = swap_T1 := by kernel_rfl
theorem swap_bits1 : waitsOk swap_T1.2 swap_B1 = true := by kernel_rfl
set_option maxHeartbeats 8000000 in
set_option maxRecDepth 100000 in
theorem swap_calls (base g : Nat) (fv : Value) (A : Option Addr) (cap b : Nat) (l : List It) (c : Int) (i j : Nat) (w : World) (h : HAt w base g fv A cap b l c) (hi : i < l.length) (hj : j < l.length) :
    Calls Try.prog 49 #[.pointer (some ⟨g, 0, none⟩), .int .i64 i, .int .i64 j] w fun e w' => e = .returned (.tuple #[]) ∧ HAt w' base g fv A cap b (swapL l i j) c ∧ Chg (hfp g A b) w w' := by
  obtain ⟨gl, rfl⟩ := h.some (by omega)
  have H := Aside0.mk h
  have HI := Aside0.mk hi
  have HJ := Aside0.mk hj
  have hil : (i : Int) < l.length := by omega
  have hjl : (j : Int) < l.length := by omega
  have HS : Aside0 (w.drew.cell? ⟨g, 0, none⟩ = some (fv) ∧ w.drew.cell? ⟨g, 1, none⟩ = some (.slice (some ⟨gl, 0, none⟩) l.length cap) ∧ w.drew.cell? ⟨g, 2, none⟩ = some (.map (some b)) ∧ w.drew.cell? ⟨g, 3, none⟩ = some (.int .i64 c) ∧ w.drew.cell? ⟨gl, i * 4, none⟩ = some (.int .i64 (at_ l i).1) ∧ w.drew.cell? ⟨gl, i * 4 + 1, none⟩ = some (.int .i64 (at_ l i).2.1.1) ∧ w.drew.cell? ⟨gl, i * 4 + 2, none⟩ = some (.int .i64 (at_ l i).2.1.2) ∧ w.drew.cell? ⟨gl, i * 4 + 3, none⟩ = some (.int .i64 (at_ l i).2.2) ∧ w.drew.cell? ⟨gl, j * 4, none⟩ = some (.int .i64 (at_ l j).1) ∧ w.drew.cell? ⟨gl, j * 4 + 1, none⟩ = some (.int .i64 (at_ l j).2.1.1) ∧ w.drew.cell? ⟨gl, j * 4 + 2, none⟩ = some (.int .i64 (at_ l j).2.1.2) ∧ w.drew.cell? ⟨gl, j * 4 + 3, none⟩ = some (.int .i64 (at_ l j).2.2)) := ⟨by
    obtain ⟨i0, i1, i2, i3, _⟩ := item_cells h.row hi
    obtain ⟨j0, j1, j2, j3, _⟩ := item_cells h.row hj
    exact ⟨(blk_cell h.blk 0).trans rfl, (blk_cell h.blk 1).trans rfl, (blk_cell h.blk 2).trans rfl, (blk_cell h.blk 3).trans rfl, i0, i1, i2, i3, j0, j1, j2, j3⟩⟩
  clear h hi hj
  go_enter Try.func49, Try.ntmps49
  go_wp2_with fail
  refine start_ (n := 28) (S := fun w' => w'.cell? ⟨g, 0, none⟩ = some (fv) ∧ w'.cell? ⟨g, 1, none⟩ = some (.slice (some ⟨gl, 0, none⟩) l.length cap) ∧ w'.cell? ⟨g, 2, none⟩ = some (.map (some b)) ∧ w'.cell? ⟨g, 3, none⟩ = some (.int .i64 c) ∧ w'.cell? ⟨gl, i * 4, none⟩ = some (.int .i64 (at_ l i).1) ∧ w'.cell? ⟨gl, i * 4 + 1, none⟩ = some (.int .i64 (at_ l i).2.1.1) ∧ w'.cell? ⟨gl, i * 4 + 2, none⟩ = some (.int .i64 (at_ l i).2.1.2) ∧ w'.cell? ⟨gl, i * 4 + 3, none⟩ = some (.int .i64 (at_ l i).2.2) ∧ w'.cell? ⟨gl, j * 4, none⟩ = some (.int .i64 (at_ l j).1) ∧ w'.cell? ⟨gl, j * 4 + 1, none⟩ = some (.int .i64 (at_ l j).2.1.1) ∧ w'.cell? ⟨gl, j * 4 + 2, none⟩ = some (.int .i64 (at_ l j).2.1.2) ∧ w'.cell? ⟨gl, j * 4 + 3, none⟩ = some (.int .i64 (at_ l j).2.2)) (ds := [25, 27]) #[ff,ff,ff,ff,ff,ff,ff,ff,ff,ff,ff,ff,ff,ff,ff,ff,ff,ff,ff,ff,ff,ff,ff,ff,ff,ff,ff,ff] (by kernel_rfl) rfl rfl HS.out (fun hHeld => ?_)
  refine with_tabW swap_tab0 swap_bits0 (fun HT_ HW_ => ?_)
  have HR0 : Aside0 (kIt.R 98 w.drew base (fun _ => True) (.slice (some ⟨gl, 0, none⟩) l.length cap) l) := ⟨H.out.row⟩
  have HC0 : Aside0 (Chg (· = gl) w w.drew) := ⟨Chg.of_below (below_drew1 (Below.refl _ _))⟩
  generalize w.drew = w1 at HS HR0 HC0 hHeld ⊢
  refine pure_ (i := 0) (N := some 6) (v := ?_) (a' := ?_) #[tt,ff,ff,ff,ff,ff,ff,ff,ff,ff,ff,ff,ff,ff,ff,ff,ff,ff,ff,ff,ff,ff,ff,ff,ff,ff,ff,ff] rfl rfl (any_of HT_.out (by kernel_rfl)) (fun _ _ _ h => h) (Or.inl ⟨by rfl, ?_⟩) ?_ ?_
  rotate_left; exact slv; rotate_left; exact sla
  refine pure_ (i := 1) (N := some 7) (v := ?_) (a' := ?_) #[tt,tt,ff,ff,ff,ff,ff,ff,ff,ff,ff,ff,ff,ff,ff,ff,ff,ff,ff,ff,ff,ff,ff,ff,ff,ff,ff,ff] rfl rfl (any_of HT_.out (by kernel_rfl)) (fun _ _ _ h => h) (Or.inl ⟨by rfl, ?_⟩) ?_ ?_
  rotate_left; exact slv; rotate_left; exact sla
  refine pure_ (i := 2) (N := some 8) (v := ?_) (a' := ?_) #[tt,tt,tt,ff,ff,ff,ff,ff,ff,ff,ff,ff,ff,ff,ff,ff,ff,ff,ff,ff,ff,ff,ff,ff,ff,ff,ff,ff] rfl rfl (any_of HT_.out (by kernel_rfl)) (fun _ _ _ h => h) (Or.inl ⟨by rfl, ?_⟩) ?_ ?_
  rotate_left; exact slv; rotate_left; exact sla
  refine take_ (i := 3) (N := some 9) (v := ?_) (a' := ?_) #[tt,tt,tt,tt,ff,ff,ff,ff,ff,ff,ff,ff,ff,ff,ff,ff,ff,ff,ff,ff,ff,ff,ff,ff,ff,ff,ff,ff] rfl rfl (take_ofW HT_.out HW_.out (by kernel_rfl)) (fun _ _ _ h => h) (Or.inl ⟨by rfl, ?_⟩) hHeld ?_ ?_
  rotate_left; exact slt12; rotate_left; exact sla
  refine pure_ (i := 4) (N := some 10) (v := ?_) (a' := ?_) #[tt,tt,tt,tt,tt,ff,ff,ff,ff,ff,ff,ff,ff,ff,ff,ff,ff,ff,ff,ff,ff,ff,ff,ff,ff,ff,ff,ff] rfl rfl (any_of HT_.out (by kernel_rfl)) (fun _ _ _ h => h) (Or.inl ⟨by rfl, ?_⟩) ?_ ?_
  rotate_left; exact slv; rotate_left; exact sla
  refine pure_ (i := 5) (N := some 11) (v := ?_) (a' := ?_) #[tt,tt,tt,tt,tt,tt,ff,ff,ff,ff,ff,ff,ff,ff,ff,ff,ff,ff,ff,ff,ff,ff,ff,ff,ff,ff,ff,ff] rfl rfl (any_of HT_.out (by kernel_rfl)) (fun _ _ _ h => h) (Or.inl ⟨by rfl, ?_⟩) ?_ ?_
  rotate_left; exact slv; rotate_left; exact sla
  refine pure_ (i := 6) (N := some 12) (v := ?_) (a' := ?_) #[tt,tt,tt,tt,tt,tt,tt,ff,ff,ff,ff,ff,ff,ff,ff,ff,ff,ff,ff,ff,ff,ff,ff,ff,ff,ff,ff,ff] rfl rfl (any_of HT_.out (by kernel_rfl)) (fun _ _ _ h => h) (Or.inl ⟨by rfl, ?_⟩) ?_ ?_
  rotate_left; exact slv; rotate_left; exact sla
  refine pure_ (i := 7) (N := some 13) (v := ?_) (a' := ?_) #[tt,tt,tt,tt,tt,tt,tt,tt,ff,ff,ff,ff,ff,ff,ff,ff,ff,ff,ff,ff,ff,ff,ff,ff,ff,ff,ff,ff] rfl rfl (any_of HT_.out (by kernel_rfl)) (fun _ _ _ h => h) (Or.inl ⟨by rfl, ?_⟩) ?_ ?_
  rotate_left; exact slv; rotate_left; exact sla
  refine take_ (i := 8) (N := some 14) (v := ?_) (a' := ?_) #[tt,tt,tt,tt,tt,tt,tt,tt,tt,ff,ff,ff,ff,ff,ff,ff,ff,ff,ff,ff,ff,ff,ff,ff,ff,ff,ff,ff] rfl rfl (take_ofW HT_.out HW_.out (by kernel_rfl)) (fun _ _ _ h => h) (Or.inl ⟨by rfl, ?_⟩) hHeld ?_ ?_
  rotate_left; exact slt12; rotate_left; exact sla
  refine pure_ (i := 9) (N := some 15) (v := ?_) (a' := ?_) #[tt,tt,tt,tt,tt,tt,tt,tt,tt,tt,ff,ff,ff,ff,ff,ff,ff,ff,ff,ff,ff,ff,ff,ff,ff,ff,ff,ff] rfl rfl (any_of HT_.out (by kernel_rfl)) (fun _ _ _ h => h) (Or.inl ⟨by rfl, ?_⟩) ?_ ?_
  rotate_left; exact slv; rotate_left; exact sla
  refine pure_ (i := 10) (N := some 16) (v := ?_) (a' := ?_) #[tt,tt,tt,tt,tt,tt,tt,tt,tt,tt,tt,ff,ff,ff,ff,ff,ff,ff,ff,ff,ff,ff,ff,ff,ff,ff,ff,ff] rfl rfl (any_of HT_.out (by kernel_rfl)) (fun _ _ _ h => h) (Or.inl ⟨by rfl, ?_⟩) ?_ ?_
  rotate_left; exact slv; rotate_left; exact sla
  refine pure_ (i := 11) (N := some 17) (v := ?_) (a' := ?_) #[tt,tt,tt,tt,tt,tt,tt,tt,tt,tt,tt,tt,ff,ff,ff,ff,ff,ff,ff,ff,ff,ff,ff,ff,ff,ff,ff,ff] rfl rfl (any_of HT_.out (by kernel_rfl)) (fun _ _ _ h => h) (Or.inl ⟨by rfl, ?_⟩) ?_ ?_
  rotate_left; exact slv; rotate_left; exact sla
  refine pure_ (i := 12) (N := some 18) (v := ?_) (a' := ?_) #[tt,tt,tt,tt,tt,tt,tt,tt,tt,tt,tt,tt,tt,ff,ff,ff,ff,ff,ff,ff,ff,ff,ff,ff,ff,ff,ff,ff] rfl rfl (any_of HT_.out (by kernel_rfl)) (fun _ _ _ h => h) (Or.inl ⟨by rfl, ?_⟩) ?_ ?_
  rotate_left; exact slv; rotate_left; exact sla
  refine take_ (i := 13) (N := some 19) (v := ?_) (a' := ?_) #[tt,tt,tt,tt,tt,tt,tt,tt,tt,tt,tt,tt,tt,tt,ff,ff,ff,ff,ff,ff,ff,ff,ff,ff,ff,ff,ff,ff] rfl rfl (take_ofW HT_.out HW_.out (by kernel_rfl)) (fun _ _ _ h => h) (Or.inl ⟨by rfl, ?_⟩) hHeld ?_ ?_
  rotate_left; exact slt12; rotate_left; exact sla
  refine pure_ (i := 14) (N := some 20) (v := ?_) (a' := ?_) #[tt,tt,tt,tt,tt,tt,tt,tt,tt,tt,tt,tt,tt,tt,tt,ff,ff,ff,ff,ff,ff,ff,ff,ff,ff,ff,ff,ff] rfl rfl (any_of HT_.out (by kernel_rfl)) (fun _ _ _ h => h) (Or.inl ⟨by rfl, ?_⟩) ?_ ?_
  rotate_left; exact slv; rotate_left; exact sla
  refine pure_ (i := 15) (N := some 21) (v := ?_) (a' := ?_) #[tt,tt,tt,tt,tt,tt,tt,tt,tt,tt,tt,tt,tt,tt,tt,tt,ff,ff,ff,ff,ff,ff,ff,ff,ff,ff,ff,ff] rfl rfl (any_of HT_.out (by kernel_rfl)) (fun _ _ _ h => h) (Or.inl ⟨by rfl, ?_⟩) ?_ ?_
  rotate_left; exact slv; rotate_left; exact sla
  refine take_ (i := 16) (N := some 22) (v := ?_) (a' := ?_) #[tt,tt,tt,tt,tt,tt,tt,tt,tt,tt,tt,tt,tt,tt,tt,tt,tt,ff,ff,ff,ff,ff,ff,ff,ff,ff,ff,ff] rfl rfl (take_ofW HT_.out HW_.out (by kernel_rfl)) (fun _ _ _ h => h) (Or.inl ⟨by rfl, ?_⟩) hHeld ?_ ?_
  rotate_left; exact slt12; rotate_left; exact sla
  refine pure_ (i := 17) (N := some 23) (v := ?_) (a' := ?_) #[tt,tt,tt,tt,tt,tt,tt,tt,tt,tt,tt,tt,tt,tt,tt,tt,tt,tt,ff,ff,ff,ff,ff,ff,ff,ff,ff,ff] rfl rfl (any_of HT_.out (by kernel_rfl)) (fun _ _ _ h => h) (Or.inl ⟨by rfl, ?_⟩) ?_ ?_
  rotate_left; exact slv; rotate_left; exact sla
  refine pure_ (i := 18) (N := some 24) (v := ?_) (a' := ?_) #[tt,tt,tt,tt,tt,tt,tt,tt,tt,tt,tt,tt,tt,tt,tt,tt,tt,tt,tt,ff,ff,ff,ff,ff,ff,ff,ff,ff] rfl rfl (any_of HT_.out (by kernel_rfl)) (fun _ _ _ h => h) (Or.inl ⟨by rfl, ?_⟩) ?_ ?_
  rotate_left; exact slv; rotate_left; exact sla
  refine pure_ (i := 19) (N := some 25) (v := ?_) (a' := ?_) #[tt,tt,tt,tt,tt,tt,tt,tt,tt,tt,tt,tt,tt,tt,tt,tt,tt,tt,tt,tt,ff,ff,ff,ff,ff,ff,ff,ff] rfl rfl (any_of HT_.out (by kernel_rfl)) (fun _ _ _ h => h) (Or.inl ⟨by rfl, ?_⟩) ?_ ?_
  rotate_left; exact slv; rotate_left; exact sla
  refine take_ (i := 20) (N := some 26) (v := ?_) (a' := ?_) #[tt,tt,tt,tt,tt,tt,tt,tt,tt,tt,tt,tt,tt,tt,tt,tt,tt,tt,tt,tt,tt,ff,ff,ff,ff,ff,ff,ff] rfl rfl (take_ofW HT_.out HW_.out (by kernel_rfl)) (fun _ _ _ h => h) (Or.inl ⟨by rfl, ?_⟩) hHeld ?_ ?_
  rotate_left; exact slt12; rotate_left; exact sla
  refine pure_ (i := 21) (N := some 27) (v := ?_) (a' := ?_) #[tt,tt,tt,tt,tt,tt,tt,tt,tt,tt,tt,tt,tt,tt,tt,tt,tt,tt,tt,tt,tt,tt,ff,ff,ff,ff,ff,ff] rfl rfl (any_of HT_.out (by kernel_rfl)) (fun _ _ _ h => h) (Or.inl ⟨by rfl, ?_⟩) ?_ ?_
  rotate_left; exact slv; rotate_left; exact sla
  refine pure_ (i := 22) (N := some 28) (v := ?_) (a' := ?_) #[tt,tt,tt,tt,tt,tt,tt,tt,tt,tt,tt,tt,tt,tt,tt,tt,tt,tt,tt,tt,tt,tt,tt,ff,ff,ff,ff,ff] rfl rfl (any_of HT_.out (by kernel_rfl)) (fun _ _ _ h => h) (Or.inl ⟨by rfl, ?_⟩) ?_ ?_
  rotate_left; exact slv; rotate_left; exact sla
  refine take_ (i := 23) (N := some 29) (v := ?_) (a' := ?_) #[tt,tt,tt,tt,tt,tt,tt,tt,tt,tt,tt,tt,tt,tt,tt,tt,tt,tt,tt,tt,tt,tt,tt,tt,ff,ff,ff,ff] rfl rfl (take_ofW HT_.out HW_.out (by kernel_rfl)) (fun _ _ _ h => h) (Or.inl ⟨by rfl, ?_⟩) hHeld ?_ ?_
  rotate_left; exact slt12; rotate_left; exact sla
  refine pure_ (i := 24) (N := some 30) (v := ?_) (a' := ?_) #[tt,tt,tt,tt,tt,tt,tt,tt,tt,tt,tt,tt,tt,tt,tt,tt,tt,tt,tt,tt,tt,tt,tt,tt,tt,ff,ff,ff] rfl rfl (any_of HT_.out (by kernel_rfl)) (fun _ _ _ h => h) (Or.inl ⟨by rfl, ?_⟩) ?_ ?_
  rotate_left; exact slv; rotate_left; exact sla
  refine last_ (i := 25) (N := none) #[tt,tt,tt,tt,tt,tt,tt,tt,tt,tt,tt,tt,tt,tt,tt,tt,tt,tt,tt,tt,tt,tt,tt,tt,tt,tt,ff,ff] rfl rfl (one_of HT_.out (by kernel_rfl)) (by decide) (fun K hK => ?_)
  refine itemstore_ (by rfl) rfl 98 (.tmp 30) (.tmp 22) rfl i (at_ l j) (by rfl) (by rfl) infoIt HR0.out HI.out ?_
  intro w2 hr hg
  have HR2 := Aside0.mk hr
  have HC2 := Aside0.mk (HC0.out.trans (Chg.keep (Chg.of_grown hg) (fun k hk _ => by cases hk; rfl)))
  clear hr hg HR0 HC0 HS
  refine hK.out _ _ ?_
  clear hK K
  refine pure_ (i := 26) (N := some 31) (v := ?_) (a' := ?_) #[tt,tt,tt,tt,tt,tt,tt,tt,tt,tt,tt,tt,tt,tt,tt,tt,tt,tt,tt,tt,tt,tt,tt,tt,tt,tt,tt,ff] rfl rfl (any_of HT_.out (by kernel_rfl)) (fun _ _ _ h => h) (Or.inl ⟨by rfl, ?_⟩) ?_ ?_
  rotate_left; exact slv; rotate_left; exact sla
  refine last_ (i := 27) (N := none) #[tt,tt,tt,tt,tt,tt,tt,tt,tt,tt,tt,tt,tt,tt,tt,tt,tt,tt,tt,tt,tt,tt,tt,tt,tt,tt,tt,tt] rfl rfl (one_of HT_.out (by kernel_rfl)) (by decide) (fun K hK => ?_)
  refine itemstore_ (by rfl) rfl 98 (.tmp 31) (.tmp 29) rfl j (at_ l i) (by rfl) (by rfl) infoIt HR2.out (by rw [List.length_set]; exact HJ.out) ?_
  intro w3 hr hg
  have HR3 : Aside0 (kIt.R 98 w3 base (fun _ => True) (.slice (some ⟨gl, 0, none⟩) (swapL l i j).length cap) (swapL l i j)) := ⟨hr⟩
  have HC3 := Aside0.mk (HC2.out.trans (Chg.keep (Chg.of_grown hg) (fun k hk _ => by cases hk; rfl)))
  clear hr hg HR2 HC2
  refine hK.out _ _ ?_
  clear hK K
  refine done_ (done_of HT_.out (by kernel_rfl)) ?_
  clear hHeld HT_ HW_
  try clear hHeld
  have HGL : Aside0 (g ≠ gl ∧ b ≠ gl ∧ g ≠ b) := ⟨fun e => Kd.R_ne H.out.row H.out.blk (by decide) (by rw [e]; rfl), fun e => by
    obtain ⟨inner, ho⟩ := Kd.R_own H.out.row
    obtain ⟨cs, hcs⟩ := own_typed ho gl rfl
    exact H.out.map.ne hcs e.symm, H.out.map.ne H.out.blk⟩
  have HB3 := Aside0.mk (HC3.out.heap H.out.blk HGL.out.1)
  have HM3 := Aside0.mk (H.out.map.move (HC3.out.block b H.out.map.lt HGL.out.2.1))
  have HLS : Aside0 ((swapL l i j).length = l.length) := ⟨swapL_len l i j⟩
  have HS3 : Aside0 (w3.drew.cell? ⟨g, 0, none⟩ = some (fv) ∧ w3.drew.cell? ⟨g, 1, none⟩ = some (.slice (some ⟨gl, 0, none⟩) l.length cap) ∧ w3.drew.cell? ⟨g, 2, none⟩ = some (.map (some b)) ∧ w3.drew.cell? ⟨g, 3, none⟩ = some (.int .i64 c) ∧ w3.drew.cell? ⟨gl, i * 4, none⟩ = some (.int .i64 (at_ l j).1) ∧ w3.drew.cell? ⟨gl, i * 4 + 1, none⟩ = some (.int .i64 (at_ l j).2.1.1) ∧ w3.drew.cell? ⟨gl, i * 4 + 2, none⟩ = some (.int .i64 (at_ l j).2.1.2) ∧ w3.drew.cell? ⟨gl, i * 4 + 3, none⟩ = some (.int .i64 (at_ l j).2.2) ∧ w3.drew.cell? ⟨gl, j * 4, none⟩ = some (.int .i64 (at_ l i).1) ∧ w3.drew.cell? ⟨gl, j * 4 + 1, none⟩ = some (.int .i64 (at_ l i).2.1.1) ∧ w3.drew.cell? ⟨gl, j * 4 + 2, none⟩ = some (.int .i64 (at_ l i).2.1.2) ∧ w3.drew.cell? ⟨gl, j * 4 + 3, none⟩ = some (.int .i64 (at_ l i).2.2)) := ⟨by
    obtain ⟨i0, i1, i2, i3, _⟩ := item_cells HR3.out (i := i) (by rw [HLS.out]; exact HI.out)
    obtain ⟨j0, j1, j2, j3, _⟩ := item_cells HR3.out (i := j) (by rw [HLS.out]; exact HJ.out)
    rw [at_swap_i HI.out HJ.out] at i0 i1 i2 i3
    rw [at_swap_j HI.out HJ.out] at j0 j1 j2 j3
    exact ⟨(blk_cell HB3.out 0).trans rfl, (blk_cell HB3.out 1).trans rfl, (blk_cell HB3.out 2).trans rfl, (blk_cell HB3.out 3).trans rfl, i0, i1, i2, i3, j0, j1, j2, j3⟩⟩
  go_wp2_with fail
  refine start_ (n := 32) (S := fun w' => w'.cell? ⟨g, 0, none⟩ = some (fv) ∧ w'.cell? ⟨g, 1, none⟩ = some (.slice (some ⟨gl, 0, none⟩) l.length cap) ∧ w'.cell? ⟨g, 2, none⟩ = some (.map (some b)) ∧ w'.cell? ⟨g, 3, none⟩ = some (.int .i64 c) ∧ w'.cell? ⟨gl, i * 4, none⟩ = some (.int .i64 (at_ l j).1) ∧ w'.cell? ⟨gl, i * 4 + 1, none⟩ = some (.int .i64 (at_ l j).2.1.1) ∧ w'.cell? ⟨gl, i * 4 + 2, none⟩ = some (.int .i64 (at_ l j).2.1.2) ∧ w'.cell? ⟨gl, i * 4 + 3, none⟩ = some (.int .i64 (at_ l j).2.2) ∧ w'.cell? ⟨gl, j * 4, none⟩ = some (.int .i64 (at_ l i).1) ∧ w'.cell? ⟨gl, j * 4 + 1, none⟩ = some (.int .i64 (at_ l i).2.1.1) ∧ w'.cell? ⟨gl, j * 4 + 2, none⟩ = some (.int .i64 (at_ l i).2.1.2) ∧ w'.cell? ⟨gl, j * 4 + 3, none⟩ = some (.int .i64 (at_ l i).2.2)) (ds := []) #[ff,ff,ff,ff,ff,ff,ff,ff,ff,ff,ff,ff,ff,ff,ff,ff,ff,ff,ff,ff,ff,ff,ff,ff,ff,ff,ff,ff,ff,ff,ff,ff] (by kernel_rfl) rfl rfl HS3.out (fun hHeld => ?_)
  refine with_tabW swap_tab1 swap_bits1 (fun HT_ HW_ => ?_)
  have HR4 : Aside0 (kIt.R 98 w3.drew base (fun _ => True) (.slice (some ⟨gl, 0, none⟩) (swapL l i j).length cap) (swapL l i j)) := ⟨HR3.out⟩
  have HC4 : Aside0 (Chg (hfp g (some ⟨gl, 0, none⟩) b) w w3.drew) := ⟨(Chg.keep HC3.out (fun k hk _ => Or.inr (Or.inr ⟨_, rfl, hk⟩))).trans (Chg.of_below (below_drew1 (Below.refl _ _)))⟩
  have HB4 : Aside0 (w3.drew.heap[g]? = _) := ⟨HB3.out⟩
  have HM4 : Aside0 (MapAt encK okK w3.drew b (idxL l)) := ⟨HM3.out⟩
  clear HR3 HC3 HB3 HM3
  generalize w3.drew = w4 at HR4 HC4 HB4 HM4 HS3 hHeld ⊢
  refine pure_ (i := 0) (N := some 32) (v := ?_) (a' := ?_) #[tt,ff,ff,ff,ff,ff,ff,ff,ff,ff,ff,ff,ff,ff,ff,ff,ff,ff,ff,ff,ff,ff,ff,ff,ff,ff,ff,ff,ff,ff,ff,ff] rfl rfl (any_of HT_.out (by kernel_rfl)) (fun _ _ _ h => h) (Or.inl ⟨by rfl, ?_⟩) ?_ ?_
  rotate_left; exact slv; rotate_left; exact sla
  refine pure_ (i := 1) (N := some 33) (v := ?_) (a' := ?_) #[tt,tt,ff,ff,ff,ff,ff,ff,ff,ff,ff,ff,ff,ff,ff,ff,ff,ff,ff,ff,ff,ff,ff,ff,ff,ff,ff,ff,ff,ff,ff,ff] rfl rfl (any_of HT_.out (by kernel_rfl)) (fun _ _ _ h => h) (Or.inl ⟨by rfl, ?_⟩) ?_ ?_
  rotate_left; exact slv; rotate_left; exact sla
  refine pure_ (i := 2) (N := some 34) (v := ?_) (a' := ?_) #[tt,tt,tt,ff,ff,ff,ff,ff,ff,ff,ff,ff,ff,ff,ff,ff,ff,ff,ff,ff,ff,ff,ff,ff,ff,ff,ff,ff,ff,ff,ff,ff] rfl rfl (any_of HT_.out (by kernel_rfl)) (fun _ _ _ h => h) (Or.inl ⟨by rfl, ?_⟩) ?_ ?_
  rotate_left; exact slv; rotate_left; exact sla
  refine take_ (i := 3) (N := some 35) (v := ?_) (a' := ?_) #[tt,tt,tt,tt,ff,ff,ff,ff,ff,ff,ff,ff,ff,ff,ff,ff,ff,ff,ff,ff,ff,ff,ff,ff,ff,ff,ff,ff,ff,ff,ff,ff] rfl rfl (take_ofW HT_.out HW_.out (by kernel_rfl)) (fun _ _ _ h => h) (Or.inl ⟨by rfl, ?_⟩) hHeld ?_ ?_
  rotate_left; exact slt12; rotate_left; exact sla
  refine pure_ (i := 4) (N := some 36) (v := ?_) (a' := ?_) #[tt,tt,tt,tt,tt,ff,ff,ff,ff,ff,ff,ff,ff,ff,ff,ff,ff,ff,ff,ff,ff,ff,ff,ff,ff,ff,ff,ff,ff,ff,ff,ff] rfl rfl (any_of HT_.out (by kernel_rfl)) (fun _ _ _ h => h) (Or.inl ⟨by rfl, ?_⟩) ?_ ?_
  rotate_left; exact slv; rotate_left; exact sla
  refine pure_ (i := 5) (N := some 37) (v := ?_) (a' := ?_) #[tt,tt,tt,tt,tt,tt,ff,ff,ff,ff,ff,ff,ff,ff,ff,ff,ff,ff,ff,ff,ff,ff,ff,ff,ff,ff,ff,ff,ff,ff,ff,ff] rfl rfl (any_of HT_.out (by kernel_rfl)) (fun _ _ _ h => h) (Or.inl ⟨by rfl, ?_⟩) ?_ ?_
  rotate_left; exact slv; rotate_left; exact sla
  refine pure_ (i := 6) (N := some 38) (v := ?_) (a' := ?_) #[tt,tt,tt,tt,tt,tt,tt,ff,ff,ff,ff,ff,ff,ff,ff,ff,ff,ff,ff,ff,ff,ff,ff,ff,ff,ff,ff,ff,ff,ff,ff,ff] rfl rfl (any_of HT_.out (by kernel_rfl)) (fun _ _ _ h => h) (Or.inl ⟨by rfl, ?_⟩) ?_ ?_
  rotate_left; exact slv; rotate_left; exact sla
  refine take_ (i := 7) (N := some 39) (v := ?_) (a' := ?_) #[tt,tt,tt,tt,tt,tt,tt,tt,ff,ff,ff,ff,ff,ff,ff,ff,ff,ff,ff,ff,ff,ff,ff,ff,ff,ff,ff,ff,ff,ff,ff,ff] rfl rfl (take_ofW HT_.out HW_.out (by kernel_rfl)) (fun _ _ _ h => h) (Or.inl ⟨by rfl, ?_⟩) hHeld ?_ ?_
  rotate_left; exact slt12; rotate_left; exact sla
  refine pure_ (i := 8) (N := some 40) (v := ?_) (a' := ?_) #[tt,tt,tt,tt,tt,tt,tt,tt,tt,ff,ff,ff,ff,ff,ff,ff,ff,ff,ff,ff,ff,ff,ff,ff,ff,ff,ff,ff,ff,ff,ff,ff] rfl rfl (any_of HT_.out (by kernel_rfl)) (fun _ _ _ h => h) (Or.inl ⟨by rfl, ?_⟩) ?_ ?_
  rotate_left; exact slv; rotate_left; exact sla
  refine pure_ (i := 9) (N := some 41) (v := ?_) (a' := ?_) #[tt,tt,tt,tt,tt,tt,tt,tt,tt,tt,ff,ff,ff,ff,ff,ff,ff,ff,ff,ff,ff,ff,ff,ff,ff,ff,ff,ff,ff,ff,ff,ff] rfl rfl (any_of HT_.out (by kernel_rfl)) (fun _ _ _ h => h) (Or.inl ⟨by rfl, ?_⟩) ?_ ?_
  rotate_left; exact slv; rotate_left; exact sla
  refine pure_ (i := 10) (N := some 42) (v := ?_) (a' := ?_) #[tt,tt,tt,tt,tt,tt,tt,tt,tt,tt,tt,ff,ff,ff,ff,ff,ff,ff,ff,ff,ff,ff,ff,ff,ff,ff,ff,ff,ff,ff,ff,ff] rfl rfl (any_of HT_.out (by kernel_rfl)) (fun _ _ _ h => h) (Or.inl ⟨by rfl, ?_⟩) ?_ ?_
  rotate_left; exact slv; rotate_left; exact sla
  refine take_ (i := 11) (N := some 43) (v := ?_) (a' := ?_) #[tt,tt,tt,tt,tt,tt,tt,tt,tt,tt,tt,tt,ff,ff,ff,ff,ff,ff,ff,ff,ff,ff,ff,ff,ff,ff,ff,ff,ff,ff,ff,ff] rfl rfl (take_ofW HT_.out HW_.out (by kernel_rfl)) (fun _ _ _ h => h) (Or.inl ⟨by rfl, ?_⟩) hHeld ?_ ?_
  rotate_left; exact slt12; rotate_left; exact sla
  refine pure_ (i := 12) (N := some 44) (v := ?_) (a' := ?_) #[tt,tt,tt,tt,tt,tt,tt,tt,tt,tt,tt,tt,tt,ff,ff,ff,ff,ff,ff,ff,ff,ff,ff,ff,ff,ff,ff,ff,ff,ff,ff,ff] rfl rfl (any_of HT_.out (by kernel_rfl)) (fun _ _ _ h => h) (Or.inl ⟨by rfl, ?_⟩) ?_ ?_
  rotate_left; exact slv; rotate_left; exact sla
  refine pure_ (i := 13) (N := some 45) (v := ?_) (a' := ?_) #[tt,tt,tt,tt,tt,tt,tt,tt,tt,tt,tt,tt,tt,tt,ff,ff,ff,ff,ff,ff,ff,ff,ff,ff,ff,ff,ff,ff,ff,ff,ff,ff] rfl rfl (any_of HT_.out (by kernel_rfl)) (fun _ _ _ h => h) (Or.inl ⟨by rfl, ?_⟩) ?_ ?_
  rotate_left; exact slv; rotate_left; exact sla
  refine pure_ (i := 14) (N := some 46) (v := ?_) (a' := ?_) #[tt,tt,tt,tt,tt,tt,tt,tt,tt,tt,tt,tt,tt,tt,tt,ff,ff,ff,ff,ff,ff,ff,ff,ff,ff,ff,ff,ff,ff,ff,ff,ff] rfl rfl (any_of HT_.out (by kernel_rfl)) (fun _ _ _ h => h) (Or.inl ⟨by rfl, ?_⟩) ?_ ?_
  rotate_left; exact slv; rotate_left; exact sla
  refine take_ (i := 15) (N := some 47) (v := ?_) (a' := ?_) #[tt,tt,tt,tt,tt,tt,tt,tt,tt,tt,tt,tt,tt,tt,tt,tt,ff,ff,ff,ff,ff,ff,ff,ff,ff,ff,ff,ff,ff,ff,ff,ff] rfl rfl (take_ofW HT_.out HW_.out (by kernel_rfl)) (fun _ _ _ h => h) (Or.inl ⟨by rfl, ?_⟩) hHeld ?_ ?_
  rotate_left; exact slt12; rotate_left; exact sla
  refine pure_ (i := 16) (N := some 48) (v := ?_) (a' := ?_) #[tt,tt,tt,tt,tt,tt,tt,tt,tt,tt,tt,tt,tt,tt,tt,tt,tt,ff,ff,ff,ff,ff,ff,ff,ff,ff,ff,ff,ff,ff,ff,ff] rfl rfl (any_of HT_.out (by kernel_rfl)) (fun _ _ _ h => h) (Or.inl ⟨by rfl, ?_⟩) ?_ ?_
  rotate_left; exact slv; rotate_left; exact sla
  refine pure_ (i := 17) (N := some 49) (v := ?_) (a' := ?_) #[tt,tt,tt,tt,tt,tt,tt,tt,tt,tt,tt,tt,tt,tt,tt,tt,tt,tt,ff,ff,ff,ff,ff,ff,ff,ff,ff,ff,ff,ff,ff,ff] rfl rfl (any_of HT_.out (by kernel_rfl)) (fun _ _ _ h => h) (Or.inl ⟨by rfl, ?_⟩) ?_ ?_
  rotate_left; exact slv; rotate_left; exact sla
  refine pure_ (i := 18) (N := some 50) (v := ?_) (a' := ?_) #[tt,tt,tt,tt,tt,tt,tt,tt,tt,tt,tt,tt,tt,tt,tt,tt,tt,tt,tt,ff,ff,ff,ff,ff,ff,ff,ff,ff,ff,ff,ff,ff] rfl rfl (any_of HT_.out (by kernel_rfl)) (fun _ _ _ h => h) (Or.inl ⟨by rfl, ?_⟩) ?_ ?_
  rotate_left; exact slv; rotate_left; exact sla
  refine take_ (i := 19) (N := some 51) (v := ?_) (a' := ?_) #[tt,tt,tt,tt,tt,tt,tt,tt,tt,tt,tt,tt,tt,tt,tt,tt,tt,tt,tt,tt,ff,ff,ff,ff,ff,ff,ff,ff,ff,ff,ff,ff] rfl rfl (take_ofW HT_.out HW_.out (by kernel_rfl)) (fun _ _ _ h => h) (Or.inl ⟨by rfl, ?_⟩) hHeld ?_ ?_
  rotate_left; exact slt12; rotate_left; exact sla
  refine pure_ (i := 20) (N := some 52) (v := ?_) (a' := ?_) #[tt,tt,tt,tt,tt,tt,tt,tt,tt,tt,tt,tt,tt,tt,tt,tt,tt,tt,tt,tt,tt,ff,ff,ff,ff,ff,ff,ff,ff,ff,ff,ff] rfl rfl (any_of HT_.out (by kernel_rfl)) (fun _ _ _ h => h) (Or.inl ⟨by rfl, ?_⟩) ?_ ?_
  rotate_left; exact slv; rotate_left; exact sla
  refine pure_ (i := 21) (N := some 53) (v := ?_) (a' := ?_) #[tt,tt,tt,tt,tt,tt,tt,tt,tt,tt,tt,tt,tt,tt,tt,tt,tt,tt,tt,tt,tt,tt,ff,ff,ff,ff,ff,ff,ff,ff,ff,ff] rfl rfl (any_of HT_.out (by kernel_rfl)) (fun _ _ _ h => h) (Or.inl ⟨by rfl, ?_⟩) ?_ ?_
  rotate_left; exact slv; rotate_left; exact sla
  refine pure_ (i := 22) (N := some 54) (v := ?_) (a' := ?_) #[tt,tt,tt,tt,tt,tt,tt,tt,tt,tt,tt,tt,tt,tt,tt,tt,tt,tt,tt,tt,tt,tt,tt,ff,ff,ff,ff,ff,ff,ff,ff,ff] rfl rfl (any_of HT_.out (by kernel_rfl)) (fun _ _ _ h => h) (Or.inl ⟨by rfl, ?_⟩) ?_ ?_
  rotate_left; exact slv; rotate_left; exact sla
  refine take_ (i := 23) (N := some 55) (v := ?_) (a' := ?_) #[tt,tt,tt,tt,tt,tt,tt,tt,tt,tt,tt,tt,tt,tt,tt,tt,tt,tt,tt,tt,tt,tt,tt,tt,ff,ff,ff,ff,ff,ff,ff,ff] rfl rfl (take_ofW HT_.out HW_.out (by kernel_rfl)) (fun _ _ _ h => h) (Or.inl ⟨by rfl, ?_⟩) hHeld ?_ ?_
  rotate_left; exact slt12; rotate_left; exact sla
  refine pure_ (i := 24) (N := some 56) (v := ?_) (a' := ?_) #[tt,tt,tt,tt,tt,tt,tt,tt,tt,tt,tt,tt,tt,tt,tt,tt,tt,tt,tt,tt,tt,tt,tt,tt,tt,ff,ff,ff,ff,ff,ff,ff] rfl rfl (any_of HT_.out (by kernel_rfl)) (fun _ _ _ h => h) (Or.inl ⟨by rfl, ?_⟩) ?_ ?_
  rotate_left; exact slv; rotate_left; exact sla
  refine pure_ (i := 25) (N := some 57) (v := ?_) (a' := ?_) #[tt,tt,tt,tt,tt,tt,tt,tt,tt,tt,tt,tt,tt,tt,tt,tt,tt,tt,tt,tt,tt,tt,tt,tt,tt,tt,ff,ff,ff,ff,ff,ff] rfl rfl (any_of HT_.out (by kernel_rfl)) (fun _ _ _ h => h) (Or.inl ⟨by rfl, ?_⟩) ?_ ?_
  rotate_left; exact slv; rotate_left; exact sla
  have hk1 : okK (at_ l j).1 := H.out.okk _ (at_mem HJ.out)
  have hk2 : okK (at_ l i).1 := H.out.okk _ (at_mem HI.out)
  have HK1 := Aside0.mk hk1
  have HK2 := Aside0.mk hk2
  clear hk1 hk2
  obtain ⟨st1, e1, e2⟩ := MapAt.entry keyLaw HM4.out Try.underlying93 HK1.out (idx_at H.out.keys HJ.out)
  have HE2 := Aside0.mk e2
  clear e2
  unfold encK at e1
  refine one_ (i := 26) (N := some 58) #[tt,tt,tt,tt,tt,tt,tt,tt,tt,tt,tt,tt,tt,tt,tt,tt,tt,tt,tt,tt,tt,tt,tt,tt,tt,tt,tt,ff,ff,ff,ff,ff] rfl rfl (one_of HT_.out (by kernel_rfl)) (by decide) (fun K hK => ?_)
  refine value_ (v := .tuple #[.int .i64 (j : Nat), .int .i64 (st1 : Nat)]) (w1 := w4) (by rfl) rfl ?_ ?_
  · first | (go_simp; done) | (go_simp; rfl)
  clear e1
  refine hK.out _ _ HS3.out (fun hHeld => ?_)
  clear hK K
  refine norm_ (a' := ?_) ?_ ?_
  rotate_left
  · show Act.put _ (some 58) _ = _
    simp only [Act.put, List.setIfInBounds_toArray, List.set_cons_zero, List.set_cons_succ, i64_w, i32_w]
    rfl
  refine pure_ (i := 27) (N := some 59) (v := ?_) (a' := ?_) #[tt,tt,tt,tt,tt,tt,tt,tt,tt,tt,tt,tt,tt,tt,tt,tt,tt,tt,tt,tt,tt,tt,tt,tt,tt,tt,tt,tt,ff,ff,ff,ff] rfl rfl (any_of HT_.out (by kernel_rfl)) (fun _ _ _ h => h) (Or.inl ⟨by rfl, ?_⟩) ?_ ?_
  rotate_left; exact slv; rotate_left; exact sla
  obtain ⟨w5, e3, hm5, hg5⟩ := HE2.out i
  have HM5 := Aside0.mk hm5
  have HG5 := Aside0.mk hg5
  clear hm5 hg5 HE2
  refine one_ (i := 28) (N := none) #[tt,tt,tt,tt,tt,tt,tt,tt,tt,tt,tt,tt,tt,tt,tt,tt,tt,tt,tt,tt,tt,tt,tt,tt,tt,tt,tt,tt,tt,ff,ff,ff] rfl rfl (one_of HT_.out (by kernel_rfl)) (by decide) (fun K hK => ?_)
  refine skip_ (w1 := w5) (by rfl) rfl ?_ ?_
  · first | (go_simp; done) | (go_simp; rfl)
  have HC5 := Aside0.mk (HC4.out.trans (Chg.keep (Chg.of_grown HG5.out) (fun k hk _ => by cases hk; exact Or.inr (Or.inl rfl))))
  have HR5 := Aside0.mk (Kd.R_grown (Kd.R_bound HR4.out) HG5.out (fun k hk e => by
    obtain ⟨_, _, _, q, _, cs, hcs⟩ := hk
    cases e
    exact HM4.out.ne hcs rfl))
  replace HR5 := Aside0.mk (Kd.R_mono HR5.out (fun _ _ => True.intro))
  have HB5 := Aside0.mk (blk_grown HB4.out HG5.out (fun e => by cases e; exact HGL.out.2.2 rfl))
  have HS5 : Aside0 (w5.cell? ⟨g, 0, none⟩ = some (fv) ∧ w5.cell? ⟨g, 1, none⟩ = some (.slice (some ⟨gl, 0, none⟩) l.length cap) ∧ w5.cell? ⟨g, 2, none⟩ = some (.map (some b)) ∧ w5.cell? ⟨g, 3, none⟩ = some (.int .i64 c) ∧ w5.cell? ⟨gl, i * 4, none⟩ = some (.int .i64 (at_ l j).1) ∧ w5.cell? ⟨gl, i * 4 + 1, none⟩ = some (.int .i64 (at_ l j).2.1.1) ∧ w5.cell? ⟨gl, i * 4 + 2, none⟩ = some (.int .i64 (at_ l j).2.1.2) ∧ w5.cell? ⟨gl, i * 4 + 3, none⟩ = some (.int .i64 (at_ l j).2.2) ∧ w5.cell? ⟨gl, j * 4, none⟩ = some (.int .i64 (at_ l i).1) ∧ w5.cell? ⟨gl, j * 4 + 1, none⟩ = some (.int .i64 (at_ l i).2.1.1) ∧ w5.cell? ⟨gl, j * 4 + 2, none⟩ = some (.int .i64 (at_ l i).2.1.2) ∧ w5.cell? ⟨gl, j * 4 + 3, none⟩ = some (.int .i64 (at_ l i).2.2)) := ⟨by
    obtain ⟨i0, i1, i2, i3, _⟩ := item_cells HR5.out (i := i) (by rw [HLS.out]; exact HI.out)
    obtain ⟨j0, j1, j2, j3, _⟩ := item_cells HR5.out (i := j) (by rw [HLS.out]; exact HJ.out)
    rw [at_swap_i HI.out HJ.out] at i0 i1 i2 i3
    rw [at_swap_j HI.out HJ.out] at j0 j1 j2 j3
    exact ⟨(blk_cell HB5.out 0).trans rfl, (blk_cell HB5.out 1).trans rfl, (blk_cell HB5.out 2).trans rfl, (blk_cell HB5.out 3).trans rfl, i0, i1, i2, i3, j0, j1, j2, j3⟩⟩
  clear e3 HC4 HR4 HB4 HM4 HS3
  refine hK.out _ _ HS5.out (fun hHeld => ?_)
  clear hK K
  have hf2 : upd (idxL l) (at_ l j).1 i (at_ l i).1 = some i := by
    unfold upd
    by_cases e : (at_ l i).1 = (at_ l j).1
    · rw [if_pos e]
    · rw [if_neg e]; exact idx_at H.out.keys HI.out
  obtain ⟨st2, e1, e2⟩ := MapAt.entry keyLaw HM5.out Try.underlying93 HK2.out hf2
  have HE2 := Aside0.mk e2
  clear e2 hf2
  unfold encK at e1
  refine one_ (i := 29) (N := some 60) #[tt,tt,tt,tt,tt,tt,tt,tt,tt,tt,tt,tt,tt,tt,tt,tt,tt,tt,tt,tt,tt,tt,tt,tt,tt,tt,tt,tt,tt,tt,ff,ff] rfl rfl (one_of HT_.out (by kernel_rfl)) (by decide) (fun K hK => ?_)
  refine value_ (v := .tuple #[.int .i64 (i : Nat), .int .i64 (st2 : Nat)]) (w1 := w5) (by rfl) rfl ?_ ?_
  · first | (go_simp; done) | (go_simp; rfl)
  clear e1
  refine hK.out _ _ HS5.out (fun hHeld => ?_)
  clear hK K
  refine norm_ (a' := ?_) ?_ ?_
  rotate_left
  · show Act.put _ (some 60) _ = _
    simp only [Act.put, List.setIfInBounds_toArray, List.set_cons_zero, List.set_cons_succ, i64_w, i32_w]
    rfl
  refine pure_ (i := 30) (N := some 61) (v := ?_) (a' := ?_) #[tt,tt,tt,tt,tt,tt,tt,tt,tt,tt,tt,tt,tt,tt,tt,tt,tt,tt,tt,tt,tt,tt,tt,tt,tt,tt,tt,tt,tt,tt,tt,ff] rfl rfl (any_of HT_.out (by kernel_rfl)) (fun _ _ _ h => h) (Or.inl ⟨by rfl, ?_⟩) ?_ ?_
  rotate_left; exact slv; rotate_left; exact sla
  obtain ⟨w6, e3, hm6, hg6⟩ := HE2.out j
  have HM6 := Aside0.mk hm6
  have HG6 := Aside0.mk hg6
  clear hm6 hg6 HE2
  refine one_ (i := 31) (N := none) #[tt,tt,tt,tt,tt,tt,tt,tt,tt,tt,tt,tt,tt,tt,tt,tt,tt,tt,tt,tt,tt,tt,tt,tt,tt,tt,tt,tt,tt,tt,tt,tt] rfl rfl (one_of HT_.out (by kernel_rfl)) (by decide) (fun K hK => ?_)
  refine skip_ (w1 := w6) (by rfl) rfl ?_ ?_
  · first | (go_simp; done) | (go_simp; rfl)
  have HC6 := Aside0.mk (HC5.out.trans (Chg.keep (Chg.of_grown HG6.out) (fun k hk _ => by cases hk; exact Or.inr (Or.inl rfl))))
  have HR6 := Aside0.mk (Kd.R_grown (Kd.R_bound HR5.out) HG6.out (fun k hk e => by
    obtain ⟨_, _, _, q, _, cs, hcs⟩ := hk
    cases e
    exact HM5.out.ne hcs rfl))
  replace HR6 := Aside0.mk (Kd.R_mono HR6.out (fun _ _ => True.intro))
  have HB6 := Aside0.mk (blk_grown HB5.out HG6.out (fun e => by cases e; exact HGL.out.2.2 rfl))
  have HS6 : Aside0 (w6.cell? ⟨g, 0, none⟩ = some (fv) ∧ w6.cell? ⟨g, 1, none⟩ = some (.slice (some ⟨gl, 0, none⟩) l.length cap) ∧ w6.cell? ⟨g, 2, none⟩ = some (.map (some b)) ∧ w6.cell? ⟨g, 3, none⟩ = some (.int .i64 c) ∧ w6.cell? ⟨gl, i * 4, none⟩ = some (.int .i64 (at_ l j).1) ∧ w6.cell? ⟨gl, i * 4 + 1, none⟩ = some (.int .i64 (at_ l j).2.1.1) ∧ w6.cell? ⟨gl, i * 4 + 2, none⟩ = some (.int .i64 (at_ l j).2.1.2) ∧ w6.cell? ⟨gl, i * 4 + 3, none⟩ = some (.int .i64 (at_ l j).2.2) ∧ w6.cell? ⟨gl, j * 4, none⟩ = some (.int .i64 (at_ l i).1) ∧ w6.cell? ⟨gl, j * 4 + 1, none⟩ = some (.int .i64 (at_ l i).2.1.1) ∧ w6.cell? ⟨gl, j * 4 + 2, none⟩ = some (.int .i64 (at_ l i).2.1.2) ∧ w6.cell? ⟨gl, j * 4 + 3, none⟩ = some (.int .i64 (at_ l i).2.2)) := ⟨by
    obtain ⟨i0, i1, i2, i3, _⟩ := item_cells HR6.out (i := i) (by rw [HLS.out]; exact HI.out)
    obtain ⟨j0, j1, j2, j3, _⟩ := item_cells HR6.out (i := j) (by rw [HLS.out]; exact HJ.out)
    rw [at_swap_i HI.out HJ.out] at i0 i1 i2 i3
    rw [at_swap_j HI.out HJ.out] at j0 j1 j2 j3
    exact ⟨(blk_cell HB6.out 0).trans rfl, (blk_cell HB6.out 1).trans rfl, (blk_cell HB6.out 2).trans rfl, (blk_cell HB6.out 3).trans rfl, i0, i1, i2, i3, j0, j1, j2, j3⟩⟩
  clear e3 HC5 HR5 HB5 HM5 HS5
  refine hK.out _ _ HS6.out (fun hHeld => ?_)
  clear hK K
  refine done_ (done_of HT_.out (by kernel_rfl)) ?_
  clear hHeld HT_ HW_
  try go_wp2
  go_end0
  refine ⟨rfl, ⟨by rw [HLS.out]; exact HB6.out, HR6.out, HM6.out.congr (fun k _ => (idx_swap H.out.keys HI.out HJ.out k).symm), H.out.ge, H.out.keys.perm (swapL_perm l HI.out HJ.out), fun x hx => H.out.okk x ((swapL_perm l HI.out HJ.out).mem_iff.1 hx)⟩, HC6.out⟩
end Go.Proofs.Ytgbfhhmmkhjhhaa.HeapIR
