/- The orders of the statements about heaps, as functions of the program. Conditions: those that stand in each theorem. Written in this session. -/
import Derived.Test.YtibipbfmhbkpiaaHeapIIh
import Derived.Test.YtibipbfmhbkpiaaQ1
import Derived.Test.YtibipbfmhbkpiaaHeapDIC
import Derived.Test.YtibipbfmhbkpiaaHeapDID
import Derived.Test.YtibipbfmhbkpiaaHeapS
import Derived.Test.YtibipbfmhbkpiaaQ57
import Derived.Laws.StructEq
namespace Go.Proofs.Ytibipbfmhbkpiaa.HeapII
open Go.RowKit Go.Proofs.YtibipbfmhbkpiaaW.PrintWords Go.Proofs.YtibipbfmhbkpiaaW.PrintLast Go.Proofs.YtibipbfmhbkpiaaW.PrintMore Go.Proofs.Ytibipbfmhbkpiaa.HeapW Go.Proofs.Ytibipbfmhbkpiaa.HeapP Go.Proofs.Ytibipbfmhbkpiaa.MapAt Go.Proofs.Ytibipbfmhbkpiaa.Q
set_option linter.unusedVariables false
set_option linter.unusedSimpArgs false
theorem swo_key (k : Int → Int) : Swo (fun a b : Int => decide (k a < k b)) := ⟨fun a b h => by simp at *; omega, fun a b c h => by simp at *; omega⟩
/-- the order of the number n -/
def ordK (n : Int) (a b : Int) : Bool := if n = 0 then decide (a < b) else if n = 1 then decide (b < a) else if n = 2 then decide (wrap64 (Int.tdiv a 10) < wrap64 (Int.tdiv b 10)) else if n = 3 then decide (Int.tmod a 3 < Int.tmod b 3) else false
theorem swo_ord (n : Int) : Swo (ordK n) := by
  unfold ordK
  by_cases h0 : n = 0
  · simp only [h0, if_true]; exact swo_key id
  by_cases h1 : n = 1
  · subst h1; simp only [show ¬ (1 : Int) = 0 by decide, if_false, if_true]
    exact ⟨fun a b h => by simp at *; omega, fun a b c h => by simp at *; omega⟩
  by_cases h2 : n = 2
  · subst h2; simp only [show ¬ (2 : Int) = 0 by decide, show ¬ (2 : Int) = 1 by decide, if_false, if_true]; exact swo_key (fun a => wrap64 (Int.tdiv a 10))
  by_cases h3 : n = 3
  · subst h3; simp only [show ¬ (3 : Int) = 0 by decide, show ¬ (3 : Int) = 1 by decide, show ¬ (3 : Int) = 2 by decide, if_false, if_true]; exact swo_key (Int.tmod · 3)
  · simp only [h0, h1, h2, h3, if_false]; exact ⟨fun a b h => by simp at h, fun a b c h => by simp at h⟩
set_option maxHeartbeats 800000 in
theorem less_ord0 : Less 41 (ordK 0) where
  fn := ⟨Try.f41, Try.func41, by kernel_rfl, by kernel_rfl⟩
  calls a b w := by
    go_enter Try.func41, Try.ntmps41
    go_wp2
    go_ret
    exact ⟨rfl, Below.refl _ _⟩
set_option maxHeartbeats 800000 in
theorem less_ord1 : Less 42 (ordK 1) where
  fn := ⟨Try.f42, Try.func42, by kernel_rfl, by kernel_rfl⟩
  calls a b w := by
    go_enter Try.func42, Try.ntmps42
    go_wp2
    go_ret
    exact ⟨rfl, Below.refl _ _⟩
set_option maxHeartbeats 800000 in
theorem less_ord2 : Less 43 (ordK 2) where
  fn := ⟨Try.f43, Try.func43, by kernel_rfl, by kernel_rfl⟩
  calls a b w := by
    go_enter Try.func43, Try.ntmps43
    go_wp2
    go_ret
    exact ⟨rfl, Below.refl _ _⟩
set_option maxHeartbeats 800000 in
theorem less_ord3 : Less 44 (ordK 3) where
  fn := ⟨Try.f44, Try.func44, by kernel_rfl, by kernel_rfl⟩
  calls a b w := by
    go_enter Try.func44, Try.ntmps44
    go_wp2
    go_ret
    exact ⟨rfl, Below.refl _ _⟩
set_option maxHeartbeats 800000 in
theorem less_ord4 : Less 45 (ordK 4) where
  fn := ⟨Try.f45, Try.func45, by kernel_rfl, by kernel_rfl⟩
  calls a b w := by
    go_enter Try.func45, Try.ntmps45
    go_wp2
    go_ret
    exact ⟨rfl, Below.refl _ _⟩
theorem pick_ok (a n : Int) (hn : 0 < n) (hn2 : n ≤ 9223372036854775807) : ∃ t, cabstandlaw07_pick.f a n = some t ∧ 0 ≤ t ∧ t < n := by
  unfold cabstandlaw07_pick.f
  have h1 := Int.tmod_lt_of_pos a hn
  have h2 := Int.lt_tmod_of_pos a hn
  rw [if_neg (by omega)]
  by_cases h : Int.tmod a n < 0
  · rw [if_pos h]
    refine ⟨_, rfl, ?_⟩
    unfold wrap64
    omega
  · rw [if_neg h]
    exact ⟨_, rfl, by omega, h1⟩
set_option maxHeartbeats 8000000 in
set_option maxRecDepth 100000 in
theorem order_calls (n : Int) (w : World) : Calls Try.prog 11 #[.int .i64 n] w fun e w' => ∃ (f : Nat) (k : Int), e = .returned (.func (.func f) #[] #[]) ∧ cabstandlaw07_pick.f n 5 = some k ∧ Less f (ordK k) ∧ Below w.heap.size w w' := by
  obtain ⟨k, hkf, hk0, hk1⟩ := pick_ok n 5 (by decide) (by decide)
  have HKF := Aside0.mk hkf
  clear hkf
  go_enter Try.func11, Try.ntmps11
  go_wp2_with fail
  refine (cabstandlaw07_pick.calls n 5 k _ HKF.out).mono ?_
  rintro e w1 ⟨rfl, nq, rfl⟩
  have hb : Below w.heap.size w (w.drewN nq) := pw_below_drewN (Below.refl _ _) nq
  have HB := Aside0.mk hb
  clear hb
  have hcase : k = 0 ∨ k = 1 ∨ k = 2 ∨ k = 3 ∨ k = 4 := by omega
  clear hk0 hk1
  rcases hcase with rfl | rfl | rfl | rfl | rfl
  · go_wp2
    go_ret
    exact ⟨_, 0, rfl, HKF.out, less_ord0, HB.out⟩
  · go_wp2
    go_ret
    exact ⟨_, 1, rfl, HKF.out, less_ord1, HB.out⟩
  · go_wp2
    go_ret
    exact ⟨_, 2, rfl, HKF.out, less_ord2, HB.out⟩
  · go_wp2
    go_ret
    exact ⟨_, 3, rfl, HKF.out, less_ord3, HB.out⟩
  · go_wp2
    go_ret
    exact ⟨_, 4, rfl, HKF.out, less_ord4, HB.out⟩
end Go.Proofs.Ytibipbfmhbkpiaa.HeapII
/- The document's heap: its list, its lines. Conditions: those that stand in each theorem. Written by wip/gen/heaprf.py. -/
namespace Go.Proofs.Ytibipbfmhbkpiaa.HeapDI
open Go.RowKit Go.Proofs.YtibipbfmhbkpiaaW.PrintWords Go.Proofs.YtibipbfmhbkpiaaW.PrintLast Go.Proofs.YtibipbfmhbkpiaaW.PrintMore Go.Proofs.Ytibipbfmhbkpiaa.HeapW Go.Proofs.Ytibipbfmhbkpiaa.HeapP Go.Proofs.Ytibipbfmhbkpiaa.MapAt Go.Proofs.Ytibipbfmhbkpiaa.Q
set_option linter.unusedVariables false
set_option linter.unusedSimpArgs false
abbrev Rt := Kt × Int
def kRI : Kd Rt := Kd.pair (Kd.pair (Kd.int .u8) (Kd.pair (Kd.int .u8) (Kd.pair (Kd.int .u8) (Kd.pair (Kd.int .u8) (Kd.pair (Kd.int .u8) (Kd.pair (Kd.int .u8) (Kd.pair (Kd.int .u8) (Kd.int .u8)))))))) (Kd.int .i64)
def rat (l : List Rt) (i : Nat) : Rt := l.getD i default
theorem kRI_M {w : World} {base : Nat} {ok : Nat → Prop} {x : Rt} {c : List Value} (h : kRI.M w base ok x c) : c = [.int .u8 x.1.1, .int .u8 x.1.2.1, .int .u8 x.1.2.2.1, .int .u8 x.1.2.2.2.1, .int .u8 x.1.2.2.2.2.1, .int .u8 x.1.2.2.2.2.2.1, .int .u8 x.1.2.2.2.2.2.2.1, .int .u8 x.1.2.2.2.2.2.2.2, .int .i64 x.2] := by
  obtain ⟨k, r⟩ := x
  obtain ⟨_, _, rfl, ⟨_, _, rfl, hk0, ⟨_, _, rfl, hk1, ⟨_, _, rfl, hk2, ⟨_, _, rfl, hk3, ⟨_, _, rfl, hk4, ⟨_, _, rfl, hk5, ⟨_, _, rfl, hk6, hk7⟩⟩⟩⟩⟩⟩⟩, h2⟩ := h
  cases hk0; cases hk1; cases hk2; cases hk3; cases hk4; cases hk5; cases hk6; cases hk7; cases h2
  rfl
theorem kRI_mk (w : World) (base : Nat) (ok : Nat → Prop) (x : Rt) : kRI.M w base ok x [.int .u8 x.1.1, .int .u8 x.1.2.1, .int .u8 x.1.2.2.1, .int .u8 x.1.2.2.2.1, .int .u8 x.1.2.2.2.2.1, .int .u8 x.1.2.2.2.2.2.1, .int .u8 x.1.2.2.2.2.2.2.1, .int .u8 x.1.2.2.2.2.2.2.2, .int .i64 x.2] := ⟨[_, _, _, _, _, _, _, _], [_], rfl, ⟨[_], [_, _, _, _, _, _, _], rfl, rfl, ⟨[_], [_, _, _, _, _, _], rfl, rfl, ⟨[_], [_, _, _, _, _], rfl, rfl, ⟨[_], [_, _, _, _], rfl, rfl, ⟨[_], [_, _, _], rfl, rfl, ⟨[_], [_, _], rfl, rfl, ⟨[_], [_], rfl, rfl, rfl⟩⟩⟩⟩⟩⟩⟩, rfl⟩
theorem kRI_K {w w' : World} {base : Nat} {x : Rt} {c : List Value} (h : kRI.K w x c) : kRI.M w' base (fun _ => False) x c := by
  obtain ⟨k, r⟩ := x
  obtain ⟨_, _, rfl, ⟨_, _, rfl, hk0, ⟨_, _, rfl, hk1, ⟨_, _, rfl, hk2, ⟨_, _, rfl, hk3, ⟨_, _, rfl, hk4, ⟨_, _, rfl, hk5, ⟨_, _, rfl, hk6, hk7⟩⟩⟩⟩⟩⟩⟩, h2⟩ := h
  cases hk0; cases hk1; cases hk2; cases hk3; cases hk4; cases hk5; cases hk6; cases hk7; cases h2
  exact kRI_mk _ _ _ _
theorem rcells {w : World} {e base : Nat} {ok : Nat → Prop} {gl cap : Nat} {l : List Rt} (h : kRI.R e w base ok (.slice (some ⟨gl, 0, none⟩) l.length cap) l) {i : Nat} (hi : i < l.length) :
    w.cell? ⟨gl, i * 9, none⟩ = some (.int .u8 (rat l i).1.1) ∧ w.cell? ⟨gl, i * 9 + 1, none⟩ = some (.int .u8 (rat l i).1.2.1) ∧ w.cell? ⟨gl, i * 9 + 2, none⟩ = some (.int .u8 (rat l i).1.2.2.1) ∧ w.cell? ⟨gl, i * 9 + 3, none⟩ = some (.int .u8 (rat l i).1.2.2.2.1) ∧ w.cell? ⟨gl, i * 9 + 4, none⟩ = some (.int .u8 (rat l i).1.2.2.2.2.1) ∧ w.cell? ⟨gl, i * 9 + 5, none⟩ = some (.int .u8 (rat l i).1.2.2.2.2.2.1) ∧ w.cell? ⟨gl, i * 9 + 6, none⟩ = some (.int .u8 (rat l i).1.2.2.2.2.2.2.1) ∧ w.cell? ⟨gl, i * 9 + 7, none⟩ = some (.int .u8 (rat l i).1.2.2.2.2.2.2.2) ∧ w.cell? ⟨gl, i * 9 + 8, none⟩ = some (.int .i64 (rat l i).2) := by
  obtain ⟨c, h1, h2, h3, h4⟩ := Kd.R_elem h default (i : Int) (by omega) (by omega)
  have hc := kRI_M h2
  rw [Int.toNat_natCast] at hc h3
  subst hc
  exact ⟨h3 0 _ rfl, h3 1 _ rfl, h3 2 _ rfl, h3 3 _ rfl, h3 4 _ rfl, h3 5 _ rfl, h3 6 _ rfl, h3 7 _ rfl, h3 8 _ rfl⟩
structure RefAt (w : World) (base g : Nat) (ord : Int) (A : Option Addr) (cap : Nat) (l : List Rt) : Prop where
  blk : w.heap[g]? = some (.cells #[.int .i64 ord, .slice A l.length cap] 39 (0, 0))
  row : kRI.R 87 w base (fun _ => True) (.slice A l.length cap) l
  ge : base ≤ g
def rfp (g : Nat) (A : Option Addr) (k : Nat) : Prop := k = g ∨ ∃ a : Addr, A = some a ∧ k = a.block
theorem RefAt.gl {w : World} {base g : Nat} {ord : Int} {A : Option Addr} {cap : Nat} {l : List Rt} (h : RefAt w base g ord A cap l) (hl : 0 < l.length) : ∃ gl, A = some ⟨gl, 0, none⟩ := by
  obtain ⟨inner, ho⟩ := Kd.R_own h.row
  rcases ho.2 with ⟨_, h1⟩ | ⟨g', cap', cur, e, _⟩
  · omega
  · cases e
    exact ⟨g', rfl⟩
theorem RefAt.below {w w' : World} {base g : Nat} {ord : Int} {A : Option Addr} {cap : Nat} {l : List Rt} (h : RefAt w base g ord A cap l) (hb : Below w.heap.size w w') : RefAt w' base g ord A cap l :=
  ⟨(hb.block _ (blk_lt h.blk)).trans h.blk, Kd.R_below h.row hb, h.ge⟩
theorem RefAt.below0 {w w' : World} {base g : Nat} {ord : Int} {A : Option Addr} {cap : Nat} {l : List Rt} (h : RefAt w base g ord A cap l) (hm : ∀ k, rfp g A k → w'.heap[k]? = w.heap[k]?) : RefAt w' base g ord A cap l := by
  have hr : kRI.R 87 w base (rfp g A) (.slice A l.length cap) l := Kd.R_flat (fun h => by rw [kRI_M h]; exact kRI_mk _ _ _ _) h.row (fun k hk _ => by
    cases A with
    | none => simp [Value.ownBlock] at hk
    | some a =>
      have e : a.block = k := by simpa [Value.ownBlock] using hk
      exact Or.inr ⟨a, rfl, e.symm⟩)
  exact ⟨(hm g (Or.inl rfl)).trans h.blk, Kd.R_mono (Kd.R_step hr (fun k hk _ => hm k hk)) (fun _ _ => trivial), h.ge⟩
theorem RefAt.fp_ge {w : World} {base g : Nat} {ord : Int} {A : Option Addr} {cap : Nat} {l : List Rt} (h : RefAt w base g ord A cap l) : ∀ k, rfp g A k → base ≤ k := by
  intro k hk
  rcases hk with rfl | ⟨a, ha, rfl⟩
  · exact h.ge
  · subst ha
    exact Kd.R_base h.row _ rfl
theorem RefAt.fp_lt {w : World} {base g : Nat} {ord : Int} {A : Option Addr} {cap : Nat} {l : List Rt} (h : RefAt w base g ord A cap l) : ∀ k, rfp g A k → k < w.heap.size := by
  intro k hk
  rcases hk with rfl | ⟨a, ha, rfl⟩
  · exact blk_lt h.blk
  · subst ha
    exact Kd.R_lt h.row _ rfl
def idxR (l : List Rt) (k : Kt) : Option Nat := l.findIdx? (fun x => decide (x.1 = k))
def idxI : Option Nat → Int
  | none => -1
  | some i => i
theorem idxR_none {l : List Rt} {k : Kt} (h : ∀ j, j < l.length → (rat l j).1 ≠ k) : idxR l k = none := by
  unfold idxR
  rw [List.findIdx?_eq_none_iff]
  intro x hx
  obtain ⟨j, hj, e⟩ := List.getElem_of_mem hx
  have := h j hj
  unfold rat at this
  rw [List.getD_eq_getElem?_getD, List.getElem?_eq_getElem hj] at this
  rw [← e]
  exact decide_eq_false this
theorem idxR_some {l : List Rt} {k : Kt} {i : Nat} (hi : i < l.length) (h : (rat l i).1 = k) (hj : ∀ j, j < i → (rat l j).1 ≠ k) : idxR l k = some i := by
  unfold idxR
  rw [List.findIdx?_eq_some_iff_getElem]
  unfold rat at h hj
  rw [List.getD_eq_getElem?_getD, List.getElem?_eq_getElem hi] at h
  refine ⟨hi, decide_eq_true h, fun j hji => ?_⟩
  have := hj j hji
  rw [List.getD_eq_getElem?_getD, List.getElem?_eq_getElem (Nat.lt_trans hji hi)] at this
  simpa using this
theorem idxR_at {l : List Rt} {k : Kt} {i : Nat} (h : idxR l k = some i) : i < l.length ∧ (rat l i).1 = k := by
  unfold idxR at h
  rw [List.findIdx?_eq_some_iff_getElem] at h
  obtain ⟨hi, h1, _⟩ := h
  refine ⟨hi, ?_⟩
  unfold rat
  rw [List.getD_eq_getElem?_getD, List.getElem?_eq_getElem hi]
  simpa using h1
theorem idxR_map (M : List It) (k : Kt) : idxR (M.map pairOf) k = idxL M k := by
  unfold idxR idxL
  rw [List.findIdx?_map]
  rfl
theorem infoRI : (Try.prog.info? 87).map (fun i => (i.zero, i.size, i.bytes)) = some (some (.agg #[.int .u8 0, .int .u8 0, .int .u8 0, .int .u8 0, .int .u8 0, .int .u8 0, .int .u8 0, .int .u8 0, .int .i64 0]), 9, 16) := by kernel_rfl
theorem infoRI' : (Try.prog.info? 87).map (·.size) = some 9 := by kernel_rfl
theorem eqb (x y : Int) (d : Nat) (W : World) : (Op.equalIn (d + 1) 5 (.int .u8 x) (.int .u8 y)).run Try.prog W = .ok (x == y) W := by
  rw [run_equalIn_int (P := Try.prog) W d _ .u8 .u8 x y Try.underlying5]
theorem partb (xs : Array Value) (i : Nat) (u : Value) (W : World) (hx : xs[i]? = some u) : (part 5 xs i).run Try.prog W = .ok u W := by
  have h : (isAgg 5).run Try.prog W = .ok false W := by kernel_rfl
  simp [part, Sem.run_bind, h, hx]
theorem infob : ∃ i, Try.prog.info? 5 = some i := Option.isSome_iff_exists.1 (by kernel_rfl)
theorem eq_id (a b : Kt) (W : World) : (binOp .eql 33 (.agg #[.int .u8 a.1, .int .u8 a.2.1, .int .u8 a.2.2.1, .int .u8 a.2.2.2.1, .int .u8 a.2.2.2.2.1, .int .u8 a.2.2.2.2.2.1, .int .u8 a.2.2.2.2.2.2.1, .int .u8 a.2.2.2.2.2.2.2]) (.agg #[.int .u8 b.1, .int .u8 b.2.1, .int .u8 b.2.2.1, .int .u8 b.2.2.2.1, .int .u8 b.2.2.2.2.1, .int .u8 b.2.2.2.2.2.1, .int .u8 b.2.2.2.2.2.2.1, .int .u8 b.2.2.2.2.2.2.2])).run Try.prog W = .ok (.bool (decide (a = b))) W := by
  obtain ⟨i5, hi5⟩ := infob
  have step : ∀ (xs ys : Array Value) (k : Nat) (x y : Int) (is : List Nat) (r : Bool), xs[k]? = some (.int .u8 x) → ys[k]? = some (.int .u8 y) → (Op.eqItems 9999 5 1 xs ys is).run Try.prog W = .ok r W → (Op.eqItems 9999 5 1 xs ys (k :: is)).run Try.prog W = .ok ((x == y) && r) W := fun xs ys k x y is r hx hy hr => by
    have h1 := partb xs (k * 1) _ W (by rw [Nat.mul_one]; exact hx)
    have h2 := partb ys (k * 1) _ W (by rw [Nat.mul_one]; exact hy)
    rw [Op.eqItems]
    simp only [Sem.run_bind, h1, h2, eqb x y 9998 W, Result.andThen_ok]
    cases h : (x == y)
    · simp
    · simpa using hr
  have last : ∀ (xs ys : Array Value), (Op.eqItems 9999 5 1 xs ys []).run Try.prog W = .ok true W := fun xs ys => by simp [Op.eqItems]
  have h : (Op.equalIn (9999 + 1) 33 (.agg #[.int .u8 a.1, .int .u8 a.2.1, .int .u8 a.2.2.1, .int .u8 a.2.2.2.1, .int .u8 a.2.2.2.2.1, .int .u8 a.2.2.2.2.2.1, .int .u8 a.2.2.2.2.2.2.1, .int .u8 a.2.2.2.2.2.2.2]) (.agg #[.int .u8 b.1, .int .u8 b.2.1, .int .u8 b.2.2.1, .int .u8 b.2.2.2.1, .int .u8 b.2.2.2.2.1, .int .u8 b.2.2.2.2.2.1, .int .u8 b.2.2.2.2.2.2.1, .int .u8 b.2.2.2.2.2.2.2])).run Try.prog W = .ok ((a.1 == b.1) && ((a.2.1 == b.2.1) && ((a.2.2.1 == b.2.2.1) && ((a.2.2.2.1 == b.2.2.2.1) && ((a.2.2.2.2.1 == b.2.2.2.2.1) && ((a.2.2.2.2.2.1 == b.2.2.2.2.2.1) && ((a.2.2.2.2.2.2.1 == b.2.2.2.2.2.2.1) && ((a.2.2.2.2.2.2.2 == b.2.2.2.2.2.2.2) && true)))))))) W := by
    rw [run_equalIn_array (P := Try.prog) W 9999 _ _ Try.underlying33 hi5, show Try.prog.cellsOf 5 = 1 by kernel_rfl, show List.range 8 = [0, 1, 2, 3, 4, 5, 6, 7] by decide]
    exact (step _ _ 0 _ _ _ _ rfl rfl (step _ _ 1 _ _ _ _ rfl rfl (step _ _ 2 _ _ _ _ rfl rfl (step _ _ 3 _ _ _ _ rfl rfl (step _ _ 4 _ _ _ _ rfl rfl (step _ _ 5 _ _ _ _ rfl rfl (step _ _ 6 _ _ _ _ rfl rfl (step _ _ 7 _ _ _ _ rfl rfl (last _ _)))))))))
  have e : (Op.equal 33 (.agg #[.int .u8 a.1, .int .u8 a.2.1, .int .u8 a.2.2.1, .int .u8 a.2.2.2.1, .int .u8 a.2.2.2.2.1, .int .u8 a.2.2.2.2.2.1, .int .u8 a.2.2.2.2.2.2.1, .int .u8 a.2.2.2.2.2.2.2]) (.agg #[.int .u8 b.1, .int .u8 b.2.1, .int .u8 b.2.2.1, .int .u8 b.2.2.2.1, .int .u8 b.2.2.2.2.1, .int .u8 b.2.2.2.2.2.1, .int .u8 b.2.2.2.2.2.2.1, .int .u8 b.2.2.2.2.2.2.2])).run Try.prog W = .ok ((a.1 == b.1) && ((a.2.1 == b.2.1) && ((a.2.2.1 == b.2.2.1) && ((a.2.2.2.1 == b.2.2.2.1) && ((a.2.2.2.2.1 == b.2.2.2.2.1) && ((a.2.2.2.2.2.1 == b.2.2.2.2.2.1) && ((a.2.2.2.2.2.2.1 == b.2.2.2.2.2.2.1) && ((a.2.2.2.2.2.2.2 == b.2.2.2.2.2.2.2) && true)))))))) W := h
  have e2 : ((a.1 == b.1) && ((a.2.1 == b.2.1) && ((a.2.2.1 == b.2.2.1) && ((a.2.2.2.1 == b.2.2.2.1) && ((a.2.2.2.2.1 == b.2.2.2.2.1) && ((a.2.2.2.2.2.1 == b.2.2.2.2.2.1) && ((a.2.2.2.2.2.2.1 == b.2.2.2.2.2.2.1) && ((a.2.2.2.2.2.2.2 == b.2.2.2.2.2.2.2) && true)))))))) = decide (a = b) := by
    obtain ⟨a0, a1, a2, a3, a4, a5, a6, a7⟩ := a
    obtain ⟨b0, b1, b2, b3, b4, b5, b6, b7⟩ := b
    rw [Bool.eq_iff_iff]
    simp
  rw [e2] at e
  simp only [binOp]
  simp [e]
end Go.Proofs.Ytibipbfmhbkpiaa.HeapDI
/- The document's heap: at,outf. Conditions: those that stand in each theorem. Written by wip/gen/heaprf.py. -/
namespace Go.Proofs.Ytibipbfmhbkpiaa.HeapDI
open Go.RowKit Go.Proofs.YtibipbfmhbkpiaaW.PrintWords Go.Proofs.YtibipbfmhbkpiaaW.PrintLast Go.Proofs.YtibipbfmhbkpiaaW.PrintMore Go.Proofs.Ytibipbfmhbkpiaa.HeapW Go.Proofs.Ytibipbfmhbkpiaa.HeapP Go.Proofs.Ytibipbfmhbkpiaa.MapAt Go.Proofs.Ytibipbfmhbkpiaa.Q
set_option linter.unusedVariables false
set_option linter.unusedSimpArgs false
def at.T4 : Bool × List (List Nat × List Nat) := (true, [([], []), ([0], [0]), ([1], [1]), ([2], [2]), ([], []), ([3, 4], [3, 4]), ([5], [5]), ([6], [6]), ([], []), ([7, 8], [7, 8])])
def at.B4 : List Nat := [0, 1, 3, 7, 0, 31, 63, 127, 0, 511]
theorem at.tab4 : rtab .any (opsOf Try.f65 4) = at.T4 := by kernel_rfl
theorem at.bits4 : waitsOk at.T4.2 at.B4 = true := by kernel_rfl
set_option maxHeartbeats 8000000 in
set_option maxRecDepth 100000 in
theorem at_calls (base g : Nat) (ord : Int) (A : Option Addr) (cap : Nat) (l : List Rt) (key : Kt) (w : World) (h : RefAt w base g ord A cap l) (hl : l.length ≤ 4000000000000) :
    Calls Try.prog 65 #[.pointer (some ⟨g, 0, none⟩), .agg #[.int .u8 key.1, .int .u8 key.2.1, .int .u8 key.2.2.1, .int .u8 key.2.2.2.1, .int .u8 key.2.2.2.2.1, .int .u8 key.2.2.2.2.2.1, .int .u8 key.2.2.2.2.2.2.1, .int .u8 key.2.2.2.2.2.2.2]] w fun e w' => e = .returned (.int .i64 (idxI (idxR l key))) ∧ Below w.heap.size w w' := by
  have H := Aside0.mk h
  have HL := Aside0.mk hl
  clear h hl
  go_enter Try.func65, Try.ntmps65
  go_upto_region 1 with (fail)
  have HXk : Aside0 ((w.alloc (.cells #[.int .u8 key.1, .int .u8 key.2.1, .int .u8 key.2.2.1, .int .u8 key.2.2.2.1, .int .u8 key.2.2.2.2.1, .int .u8 key.2.2.2.2.2.1, .int .u8 key.2.2.2.2.2.2.1, .int .u8 key.2.2.2.2.2.2.2] 33)).heap[w.heap.size]? = some (.cells #[.int .u8 key.1, .int .u8 key.2.1, .int .u8 key.2.2.1, .int .u8 key.2.2.2.1, .int .u8 key.2.2.2.2.1, .int .u8 key.2.2.2.2.2.1, .int .u8 key.2.2.2.2.2.2.1, .int .u8 key.2.2.2.2.2.2.2] 33 (0, 0))) := ⟨blk_new _ _⟩
  have HBB : Aside0 (Below w.heap.size w (w.alloc (.cells #[.int .u8 key.1, .int .u8 key.2.1, .int .u8 key.2.2.1, .int .u8 key.2.2.2.1, .int .u8 key.2.2.2.2.1, .int .u8 key.2.2.2.2.2.1, .int .u8 key.2.2.2.2.2.2.1, .int .u8 key.2.2.2.2.2.2.2] 33))) := ⟨below_alloc (Below.refl _ _) _⟩
  have HQ := Aside0.mk (H.out.below HBB.out)
  generalize w.alloc (.cells #[.int .u8 key.1, .int .u8 key.2.1, .int .u8 key.2.2.1, .int .u8 key.2.2.2.1, .int .u8 key.2.2.2.2.1, .int .u8 key.2.2.2.2.2.1, .int .u8 key.2.2.2.2.2.2.1, .int .u8 key.2.2.2.2.2.2.2] 33) = wB at HXk HBB HQ ⊢
  have heq := eq_id
  go_wp2_with fail
  go_loopg [5] l.length (fun kq v5 w' => ∃ (i : Nat), v5 = .int .i64 i ∧ Aside0 (i + kq = l.length ∧ ∀ j, j < i → (rat l j).1 ≠ key) ∧ Aside0 (Below wB.heap.size wB w'))
  case atStart => exact ⟨0, rfl, ⟨by omega, fun j h => by omega⟩, ⟨Below.refl _ _⟩⟩
  case round =>
    obtain ⟨i, rfl, HI, HB⟩ := hrel
    have HR := Aside0.mk (HQ.out.below HB.out)
    have hc1 : wr.cell? ⟨g, 1, none⟩ = some (.slice A l.length cap) := (blk_cell HR.out.blk 1).trans rfl
    cases gk with
    | zero =>
      have hgt : decide (i < l.length) = false := decide_eq_false (by have := HI.out.1; omega)
      go_wp2
      go_ret
      rw [idxR_none (fun j hj => HI.out.2 j (by have := HI.out.1; omega))]
      exact ⟨rfl, below_step HBB.out HB.out⟩
    | succ gk =>
      have hil : (i : Int) < l.length := by have := HI.out.1; omega
      have hiN : i < l.length := by omega
      obtain ⟨gl, hA⟩ := HR.out.gl (by omega)
      subst hA
      have HXr := Aside0.mk ((HB.out.block _ (blk_lt HXk.out)).trans HXk.out)
      have HC := Aside0.mk (rcells HR.out.row hiN)
      obtain ⟨y, hy⟩ : ∃ y, y = rat l i := ⟨_, rfl⟩
      rw [← hy] at HC
      have HY := Aside0.mk hy
      have HIN := Aside0.mk hiN
      have hwi : wrap64 ((i : Int) + 1) = (i : Int) + 1 := by unfold wrap64; have := HL.out; omega
      have HWI := Aside0.mk hwi
      clear hy hiN hwi
      go_wp2_with fail
      have HR4 : Aside0 (RefAt wr.drew base g ord (some ⟨gl, 0, none⟩) cap l) := ⟨HR.out.below (below_drew1 (Below.refl _ _))⟩
      have HX4 : Aside0 (wr.drew.heap[w.heap.size]? = _) := ⟨HXr.out⟩
      have HC4 : Aside0 (wr.drew.cell? ⟨gl, i * 9, none⟩ = some (.int .u8 y.1.1) ∧ wr.drew.cell? ⟨gl, i * 9 + 1, none⟩ = some (.int .u8 y.1.2.1) ∧ wr.drew.cell? ⟨gl, i * 9 + 2, none⟩ = some (.int .u8 y.1.2.2.1) ∧ wr.drew.cell? ⟨gl, i * 9 + 3, none⟩ = some (.int .u8 y.1.2.2.2.1) ∧ wr.drew.cell? ⟨gl, i * 9 + 4, none⟩ = some (.int .u8 y.1.2.2.2.2.1) ∧ wr.drew.cell? ⟨gl, i * 9 + 5, none⟩ = some (.int .u8 y.1.2.2.2.2.2.1) ∧ wr.drew.cell? ⟨gl, i * 9 + 6, none⟩ = some (.int .u8 y.1.2.2.2.2.2.2.1) ∧ wr.drew.cell? ⟨gl, i * 9 + 7, none⟩ = some (.int .u8 y.1.2.2.2.2.2.2.2) ∧ wr.drew.cell? ⟨gl, i * 9 + 8, none⟩ = some (.int .i64 y.2)) := ⟨HC.out⟩
      have HB4 : Aside0 (Below wB.heap.size wB wr.drew) := ⟨below_drew HB.out⟩
      clear HR HXr HC HB hc1
      refine start_ (n := 10) (S := fun w' => w'.cell? ⟨g, 1, none⟩ = some (.slice (some ⟨gl, 0, none⟩) l.length cap) ∧ w'.cell? ⟨gl, i * 9, none⟩ = some (.int .u8 y.1.1) ∧ w'.cell? ⟨gl, i * 9 + 1, none⟩ = some (.int .u8 y.1.2.1) ∧ w'.cell? ⟨gl, i * 9 + 2, none⟩ = some (.int .u8 y.1.2.2.1) ∧ w'.cell? ⟨gl, i * 9 + 3, none⟩ = some (.int .u8 y.1.2.2.2.1) ∧ w'.cell? ⟨gl, i * 9 + 4, none⟩ = some (.int .u8 y.1.2.2.2.2.1) ∧ w'.cell? ⟨gl, i * 9 + 5, none⟩ = some (.int .u8 y.1.2.2.2.2.2.1) ∧ w'.cell? ⟨gl, i * 9 + 6, none⟩ = some (.int .u8 y.1.2.2.2.2.2.2.1) ∧ w'.cell? ⟨gl, i * 9 + 7, none⟩ = some (.int .u8 y.1.2.2.2.2.2.2.2) ∧ w'.cell? ⟨w.heap.size, 0, none⟩ = some (.int .u8 key.1) ∧ w'.cell? ⟨w.heap.size, 1, none⟩ = some (.int .u8 key.2.1) ∧ w'.cell? ⟨w.heap.size, 2, none⟩ = some (.int .u8 key.2.2.1) ∧ w'.cell? ⟨w.heap.size, 3, none⟩ = some (.int .u8 key.2.2.2.1) ∧ w'.cell? ⟨w.heap.size, 4, none⟩ = some (.int .u8 key.2.2.2.2.1) ∧ w'.cell? ⟨w.heap.size, 5, none⟩ = some (.int .u8 key.2.2.2.2.2.1) ∧ w'.cell? ⟨w.heap.size, 6, none⟩ = some (.int .u8 key.2.2.2.2.2.2.1) ∧ w'.cell? ⟨w.heap.size, 7, none⟩ = some (.int .u8 key.2.2.2.2.2.2.2)) (ds := []) #[false, false, false, false, false, false, false, false, false, false] (by kernel_rfl) rfl rfl ⟨(blk_cell HR4.out.blk 1).trans rfl, HC4.out.1, HC4.out.2.1, HC4.out.2.2.1, HC4.out.2.2.2.1, HC4.out.2.2.2.2.1, HC4.out.2.2.2.2.2.1, HC4.out.2.2.2.2.2.2.1, HC4.out.2.2.2.2.2.2.2.1, (blk_cell HX4.out 0).trans rfl, (blk_cell HX4.out 1).trans rfl, (blk_cell HX4.out 2).trans rfl, (blk_cell HX4.out 3).trans rfl, (blk_cell HX4.out 4).trans rfl, (blk_cell HX4.out 5).trans rfl, (blk_cell HX4.out 6).trans rfl, (blk_cell HX4.out 7).trans rfl⟩ (fun hHeld => ?_)
      refine with_tabW at.tab4 at.bits4 (fun HT_ HW_ => ?_)
      generalize wr.drew = w4 at HR4 HX4 HC4 HB4 hHeld ⊢
      refine pure_ (i := 0) (N := some 15) (v := ?_) (a' := ?_) #[true, false, false, false, false, false, false, false, false, false] rfl rfl (any_of HT_.out (by kernel_rfl)) (fun _ _ _ h => h) (Or.inl ⟨by rfl, ?_⟩) ?_ ?_
      rotate_left
      · intro w'
        go_simp
        with_reducible rfl
      rotate_left
      · simp only [Act.put, List.setIfInBounds_toArray, List.set_cons_zero, List.set_cons_succ, i64_w, i32_w]
        rfl
      refine pure_ (i := 1) (N := some 16) (v := ?_) (a' := ?_) #[true, true, false, false, false, false, false, false, false, false] rfl rfl (any_of HT_.out (by kernel_rfl)) (fun _ _ _ h => h) (Or.inl ⟨by rfl, ?_⟩) ?_ ?_
      rotate_left
      · intro w'
        go_simp
        with_reducible rfl
      rotate_left
      · simp only [Act.put, List.setIfInBounds_toArray, List.set_cons_zero, List.set_cons_succ, i64_w, i32_w]
        rfl
      refine pure_ (i := 2) (N := some 17) (v := ?_) (a' := ?_) #[true, true, true, false, false, false, false, false, false, false] rfl rfl (any_of HT_.out (by kernel_rfl)) (fun _ _ _ h => h) (Or.inl ⟨by rfl, ?_⟩) ?_ ?_
      rotate_left
      · intro w'
        go_simp
        with_reducible rfl
      rotate_left
      · simp only [Act.put, List.setIfInBounds_toArray, List.set_cons_zero, List.set_cons_succ, i64_w, i32_w]
        rfl
      refine pure_ (i := 4) (N := some 19) (v := ?_) (a' := ?_) #[true, true, true, false, true, false, false, false, false, false] rfl rfl (any_of HT_.out (by kernel_rfl)) (fun _ _ _ h => h) (Or.inl ⟨by rfl, ?_⟩) ?_ ?_
      rotate_left
      · intro w'
        go_simp
        with_reducible rfl
      rotate_left
      · simp only [Act.put, List.setIfInBounds_toArray, List.set_cons_zero, List.set_cons_succ, i64_w, i32_w]
        rfl
      refine take_ (i := 3) (N := some 18) (v := ?_) (a' := ?_) #[true, true, true, true, true, false, false, false, false, false] rfl rfl (take_ofW HT_.out HW_.out (by kernel_rfl)) (fun _ _ _ h => h) (Or.inl ⟨by rfl, ?_⟩) hHeld ?_ ?_
      rotate_left
      · rintro w' ⟨s0, s1, s2, s3, s4, s5, s6, s7, s8, s9, s10, s11, s12, s13, s14, s15, s16⟩
        go_simp
        with_reducible rfl
      rotate_left
      · simp only [Act.put, List.setIfInBounds_toArray, List.set_cons_zero, List.set_cons_succ, i64_w, i32_w]
        rfl
      refine pure_ (i := 5) (N := some 20) (v := ?_) (a' := ?_) #[true, true, true, true, true, true, false, false, false, false] rfl rfl (any_of HT_.out (by kernel_rfl)) (fun _ _ _ h => h) (Or.inl ⟨by rfl, ?_⟩) ?_ ?_
      rotate_left
      · intro w'
        go_simp
        with_reducible rfl
      rotate_left
      · simp only [Act.put, List.setIfInBounds_toArray, List.set_cons_zero, List.set_cons_succ, i64_w, i32_w]
        rfl
      refine pure_ (i := 6) (N := some 21) (v := ?_) (a' := ?_) #[true, true, true, true, true, true, true, false, false, false] rfl rfl (any_of HT_.out (by kernel_rfl)) (fun _ _ _ h => h) (Or.inl ⟨by rfl, ?_⟩) ?_ ?_
      rotate_left
      · intro w'
        go_simp
        with_reducible rfl
      rotate_left
      · simp only [Act.put, List.setIfInBounds_toArray, List.set_cons_zero, List.set_cons_succ, i64_w, i32_w]
        rfl
      refine take_ (i := 7) (N := some 22) (v := ?_) (a' := ?_) #[true, true, true, true, true, true, true, true, false, false] rfl rfl (take_ofW HT_.out HW_.out (by kernel_rfl)) (fun _ _ _ h => h) (Or.inl ⟨by rfl, ?_⟩) hHeld ?_ ?_
      rotate_left
      · rintro w' ⟨s0, s1, s2, s3, s4, s5, s6, s7, s8, s9, s10, s11, s12, s13, s14, s15, s16⟩
        go_simp
        with_reducible rfl
      rotate_left
      · simp only [Act.put, List.setIfInBounds_toArray, List.set_cons_zero, List.set_cons_succ, i64_w, i32_w]
        rfl
      refine take_ (i := 8) (N := some 23) (v := ?_) (a' := ?_) #[true, true, true, true, true, true, true, true, true, false] rfl rfl (take_ofW HT_.out HW_.out (by kernel_rfl)) (fun _ _ _ h => h) (Or.inl ⟨by rfl, ?_⟩) hHeld ?_ ?_
      rotate_left
      · rintro w' ⟨s0, s1, s2, s3, s4, s5, s6, s7, s8, s9, s10, s11, s12, s13, s14, s15, s16⟩
        go_simp
        with_reducible rfl
      rotate_left
      · simp only [Act.put, List.setIfInBounds_toArray, List.set_cons_zero, List.set_cons_succ, i64_w, i32_w]
        rfl
      refine pure_ (i := 9) (N := some 24) (v := ?_) (a' := ?_) #[true, true, true, true, true, true, true, true, true, true] rfl rfl (any_of HT_.out (by kernel_rfl)) (fun _ _ _ h => h) (Or.inl ⟨by rfl, ?_⟩) ?_ ?_
      rotate_left
      · intro w'
        go_simp
        with_reducible rfl
      rotate_left
      · simp only [Act.put, List.setIfInBounds_toArray, List.set_cons_zero, List.set_cons_succ, i64_w, i32_w]
        rfl
      refine done_ (done_of HT_.out (by kernel_rfl)) ?_
      try clear hHeld
      by_cases he : y.1 = key
      · have hde : decide (y.1 = key) = true := decide_eq_true he
        have HE := Aside0.mk he
        clear he
        (first | rw [hde] | skip)
        go_wp2
        go_ret
        rw [idxR_some HIN.out (by rw [← HY.out]; exact HE.out) HI.out.2]
        exact ⟨rfl, below_step HBB.out HB4.out⟩
      · have hde : decide (y.1 = key) = false := decide_eq_false he
        have HE := Aside0.mk he
        clear he
        (first | rw [hde] | skip)
        go_wp2
        go_roundg gk
        case measure => omega
        case rel => exact ⟨i + 1, by first | rfl | (rw [HWI.out]; rfl), ⟨by have := HI.out.1; omega, fun j hj => by
          by_cases e : j = i
          · subst e; rw [← HY.out]; exact HE.out
          · exact HI.out.2 j (by omega)⟩, HB4⟩
set_option maxHeartbeats 8000000 in
set_option maxRecDepth 100000 in
theorem out_calls (base g : Nat) (ord : Int) (A : Option Addr) (cap : Nat) (l : List Rt) (i : Nat) (w : World) (h : RefAt w base g ord A cap l) (hl : l.length ≤ 4000000000000) (hi : i < l.length) (hb : base ≤ w.heap.size) :
    Calls Try.prog 66 #[.pointer (some ⟨g, 0, none⟩), .int .i64 i] w fun e w' => e = .returned (.tuple #[]) ∧ ∃ A' cap', RefAt w' base g ord A' cap' (l.eraseIdx i) ∧ Chg (· = g) w w' ∧ ∀ a, A' = some a → w.heap.size ≤ a.block := by
  obtain ⟨gl, rfl⟩ := h.gl (by omega)
  have H := Aside0.mk h
  have HL := Aside0.mk hl
  have HI := Aside0.mk hi
  have HB := Aside0.mk hb
  obtain ⟨_, hcap, hC⟩ := Kd.R_reads' h.row
  have HC := Aside0.mk hC
  have HCAP := Aside0.mk hcap
  obtain ⟨i1, hi1⟩ : ∃ i1, i1 = i + 1 := ⟨_, rfl⟩
  have hw1 : wrap64 ((i : Int) + 1) = (i1 : Int) := by unfold wrap64; omega
  have hi1l : i1 ≤ l.length := by omega
  have hil : (i : Int) ≤ cap := by omega
  have hlc : (l.length : Int) ≤ cap := by omega
  have HI1 := Aside0.mk hi1
  have hc1 : w.cell? ⟨g, 1, none⟩ = some (.slice (some ⟨gl, 0, none⟩) l.length cap) := (blk_cell h.blk 1).trans rfl
  have hf1 := blk_frozen h.blk 1
  have ht : Kd.C kRI w (some ⟨gl, 0, none⟩) i (l.take i) := by
    have := Kd.C_take hC (m := i) (by omega)
    rwa [show (l.take i).length = i by rw [List.length_take]; omega] at this
  have HT := Aside0.mk ht
  clear h hl hi hb hcap hC hi1 ht
  go_enter Try.func66, Try.ntmps66
  go_upto_region 2 with ((with_reducible refine gate_builtin (b := .append) (xs := #[.tmp 5, .tmp 11]) rfl ?_); at_builtin; refine Kd.R_append_rows kRI (w0 := w) w.heap.size rfl (.tmp 5) (.tmp 11) 37 87 (.agg #[.int .u8 0, .int .u8 0, .int .u8 0, .int .u8 0, .int .u8 0, .int .u8 0, .int .u8 0, .int .u8 0, .int .i64 0]) 16 rfl Try.underlying37 infoRI rfl (by decide) (by omega) (.slice none 0 0) [] (l.take i) (some ⟨gl, 0, none⟩) i cap (fun _ => True) (fun _ => False) rfl rfl (Kd.R_nil _ _ _ _ _) HT.out (fun _ _ h => kRI_K h) (fun _ h => h.elim) (fun _ _ => trivial) (Below.refl _ _) (Nat.le_refl _) (by have := HL.out; have := HI.out; simp; omega) ?_; intro v1 w1 ho hbb hg hat; have HO := Aside0.mk ho; have HB1 := Aside0.mk hbb; have H1 := Aside0.mk (H.out.below hbb); have hc1' : w1.cell? ⟨g, 1, none⟩ = some (.slice (some ⟨gl, 0, none⟩) l.length cap) := (blk_cell H1.out.blk 1).trans rfl; have hf1' := blk_frozen H1.out.blk 1; have hd := Kd.C_drop (Kd.C_below HC.out hbb) (m := i1) (c := cap) hi1l HCAP.out; have HD := Aside0.mk hd; clear hd ho hbb hg hat hc1 hf1)
  obtain ⟨L, hL⟩ : ∃ L, L = l.eraseIdx i := ⟨_, rfl⟩
  have HEQ : Aside0 ([] ++ l.take i ++ l.drop i1 = L) := ⟨by rw [hL, List.nil_append, List.eraseIdx_eq_take_drop_succ, HI1.out]⟩
  have HLE := Aside0.mk hL
  clear hL
  have hbb2 : ∀ (ad : Addr) (v2 : Value) (w2 : World), Kd.R kRI 87 w2 w.heap.size (fun _ => True) v2 L → w1.grownBy w2 v1.ownBlock → Below w.heap.size w w2 → RefAt w2 base g ord (some ⟨gl, 0, none⟩) cap l ∧ ∃ A2 c2, v2 = .slice A2 L.length c2 ∧ RefAt (w2.setCell ⟨g, 1, none⟩ v2) base g ord A2 c2 L ∧ Chg (· = g) w (w2.setCell ⟨g, 1, none⟩ v2) ∧ ∀ a, A2 = some a → w.heap.size ≤ a.block := fun _ v2 w2 ho hg hb2 => by
    have h2 : RefAt w2 base g ord (some ⟨gl, 0, none⟩) cap l := H1.out.below0 (fun k hk => hg.block k (H1.out.fp_lt k hk) (fun e => by have h1 := Kd.R_base HO.out k e.symm; have h2 := H.out.fp_lt k hk; omega))
    obtain ⟨A2, c2, e2⟩ := Kd.R_slice ho
    have hba := Kd.R_base ho
    subst e2
    refine ⟨h2, A2, c2, rfl, ⟨blk_put h2.blk 1 _ rfl, Kd.R_lower (Kd.R_set ho h2.blk (by decide) 1 _) HB.out, h2.ge⟩, Chg.setCell (F := (· = g)) (Chg.of_below hb2) (p := ⟨g, 1, none⟩) (Or.inl rfl) _, fun a ha => ?_⟩
    subst ha
    exact hba _ rfl
  have HF := Aside0.mk hbb2
  clear hbb2
  by_cases hci : cap = i1
  · have HD' : Aside0 (Kd.C kRI w1 (some ⟨gl, 0, none⟩) (l.length - i1) (l.drop i1)) := ⟨by have h := HD.out; rw [if_pos hci, List.length_drop] at h; exact h⟩
    have hci' : cap - i1 = 0 := by omega
    clear HD
    subst hci
    go_wp2_with ((with_reducible refine gate_builtin (b := .append) (xs := #[.tmp 14, .tmp 21]) rfl ?_); at_builtin; refine Kd.R_append_rows kRI (w0 := w) w.heap.size rfl (.tmp 14) (.tmp 21) 37 87 (.agg #[.int .u8 0, .int .u8 0, .int .u8 0, .int .u8 0, .int .u8 0, .int .u8 0, .int .u8 0, .int .u8 0, .int .i64 0]) 16 rfl Try.underlying37 infoRI rfl (by decide) (by omega) v1 ([] ++ l.take i) (l.drop cap) (some ⟨gl, 0, none⟩) (l.length - cap) _ (fun _ => True) (fun _ => False) rfl rfl HO.out HD'.out (fun _ _ h => kRI_K h) (fun _ h => h.elim) (fun _ _ => trivial) HB1.out HB1.out.size (by have := HL.out; have := HI.out; simp; omega) ?_; intro v2 w2 ho hbb hg hat; rw [HEQ.out] at ho; obtain ⟨A2, c2, e2⟩ := Kd.R_slice ho; subst e2; have hF := HF.out ⟨gl, 0, none⟩ _ w2 ho hg hbb; have HF2 := Aside0.mk hF.2; have hc2 : w2.cell? ⟨g, 1, none⟩ = some (.slice (some ⟨gl, 0, none⟩) l.length cap) := (blk_cell hF.1.blk 1).trans rfl; have hf2 := blk_frozen hF.1.blk 1; clear hF ho hbb hg hat hc1' hf1')
    first | go_end0 | (refine bodyPost_ret (results_none rfl _ _ _) rfl ?_)
    obtain ⟨A3, c3, e2, h1, h2, h3⟩ := HF2.out
    injection e2 with e3 e4 e5
    subst e3 e5
    rw [← HLE.out]
    exact ⟨rfl, A2, ⟨c2, h1⟩, h2, h3⟩
  · have HD' : Aside0 (Kd.C kRI w1 (some ⟨gl, i1 * 9, none⟩) (l.length - i1) (l.drop i1)) := ⟨by have h := HD.out; rw [if_neg hci, List.length_drop] at h; have e : (Option.map (fun x : Addr => x.add (i1 * kRI.sz)) (some ⟨gl, 0, none⟩)) = some ⟨gl, i1 * 9, none⟩ := (by show some ((⟨gl, 0, none⟩ : Addr).add (i1 * 9)) = _; rw [add_plain]); rw [e] at h; exact h⟩
    clear HD
    go_wp2_with ((with_reducible refine gate_builtin (b := .append) (xs := #[.tmp 14, .tmp 21]) rfl ?_); at_builtin; refine Kd.R_append_rows kRI (w0 := w) w.heap.size rfl (.tmp 14) (.tmp 21) 37 87 (.agg #[.int .u8 0, .int .u8 0, .int .u8 0, .int .u8 0, .int .u8 0, .int .u8 0, .int .u8 0, .int .u8 0, .int .i64 0]) 16 rfl Try.underlying37 infoRI rfl (by decide) (by omega) v1 ([] ++ l.take i) (l.drop i1) (some ⟨gl, i1 * 9, none⟩) (l.length - i1) (cap - i1) (fun _ => True) (fun _ => False) rfl rfl HO.out HD'.out (fun _ _ h => kRI_K h) (fun _ h => h.elim) (fun _ _ => trivial) HB1.out HB1.out.size (by have := HL.out; have := HI.out; simp; omega) ?_; intro v2 w2 ho hbb hg hat; rw [HEQ.out] at ho; obtain ⟨A2, c2, e2⟩ := Kd.R_slice ho; subst e2; have hF := HF.out ⟨gl, 0, none⟩ _ w2 ho hg hbb; have HF2 := Aside0.mk hF.2; have hc2 : w2.cell? ⟨g, 1, none⟩ = some (.slice (some ⟨gl, 0, none⟩) l.length cap) := (blk_cell hF.1.blk 1).trans rfl; have hf2 := blk_frozen hF.1.blk 1; clear hF ho hbb hg hat hc1' hf1')
    first | go_end0 | (refine bodyPost_ret (results_none rfl _ _ _) rfl ?_)
    obtain ⟨A3, c3, e2, h1, h2, h3⟩ := HF2.out
    injection e2 with e3 e4 e5
    subst e3 e5
    rw [← HLE.out]
    exact ⟨rfl, A2, ⟨c2, h1⟩, h2, h3⟩
end Go.Proofs.Ytibipbfmhbkpiaa.HeapDI
/- The document's heap: least,first. Conditions: those that stand in each theorem. Written by wip/gen/heaprf.py. -/
namespace Go.Proofs.Ytibipbfmhbkpiaa.HeapDI
open Go.RowKit Go.Proofs.YtibipbfmhbkpiaaW.PrintWords Go.Proofs.YtibipbfmhbkpiaaW.PrintLast Go.Proofs.YtibipbfmhbkpiaaW.PrintMore Go.Proofs.Ytibipbfmhbkpiaa.HeapW Go.Proofs.Ytibipbfmhbkpiaa.HeapP Go.Proofs.Ytibipbfmhbkpiaa.MapAt Go.Proofs.Ytibipbfmhbkpiaa.Q
set_option linter.unusedVariables false
set_option linter.unusedSimpArgs false
def least.T5 : Bool × List (List Nat × List Nat) := (true, [([], []), ([0], [0]), ([1], [1]), ([2], [2]), ([3, 2], [2, 3]), ([4, 2], [2, 4]), ([5, 2], [2, 5]), ([2], [2]), ([7, 2], [2, 7]), ([8, 2], [2, 8]), ([9, 2], [2, 9]), ([2], [2]), ([10, 11, 2], [2, 10, 11]), ([12, 2], [2, 12]), ([13, 2], [2, 13]), ([2], [2]), ([15, 2], [2, 15]), ([16, 2], [2, 16]), ([17, 2], [2, 17]), ([2], [2]), ([18, 19, 2], [2, 18, 19]), ([20, 2], [2, 20]), ([21, 2], [2, 21]), ([6, 14, 22, 2, 2], [2, 6, 14, 22]), ([2, 23], [2, 23])])
def least.B5 : List Nat := [0, 1, 3, 7, 15, 31, 63, 7, 135, 391, 903, 7, 3975, 8071, 16263, 7, 32775, 98311, 229383, 7, 1015815, 2064391, 4161543, 8388607, 16777215]
theorem least.tab5 : rtab .any (opsOf Try.f67 5) = least.T5 := by kernel_rfl
theorem least.bits5 : waitsOk least.T5.2 least.B5 = true := by kernel_rfl
theorem leastF_lt {lt : Int → Int → Bool} {rk : Nat → Int} : ∀ {n b : Nat}, leastF lt rk n = some b → b < n
  | 0, b, h => by simp [leastF] at h
  | n + 1, b, h => by
    unfold leastF at h
    cases hb : leastF lt rk n with
    | none => rw [hb] at h; cases h; omega
    | some b' =>
      rw [hb] at h
      have := leastF_lt hb
      simp only at h
      split at h <;> (cases h; omega)
theorem before_ok (n a b : Int) : cabstandref07_Before.f n a b = some (HeapII.ordK n a b) := by
  unfold cabstandref07_Before.f HeapII.ordK
  split
  · rfl
  · split
    · rfl
    · split
      · rfl
      · split <;> rfl
set_option maxHeartbeats 8000000 in
set_option maxRecDepth 100000 in
theorem least_calls (base g : Nat) (ord : Int) (A : Option Addr) (cap : Nat) (l : List Rt) (w : World) (h : RefAt w base g ord A cap l) (hl : l.length ≤ 4000000000000) :
    Calls Try.prog 67 #[.pointer (some ⟨g, 0, none⟩)] w fun e w' => e = .returned (.int .i64 (idxI (leastF (HeapII.ordK ord) (fun j => (rat l j).2) l.length))) ∧ Below w.heap.size w w' := by
  have HQ := Aside0.mk h
  have HL := Aside0.mk hl
  clear h hl
  go_enter Try.func67, Try.ntmps67
  go_wp2_with fail
  go_loopg [3, 4] l.length (fun kq v3 v4 w' => ∃ (i : Nat), v3 = .int .i64 (idxI (leastF (HeapII.ordK ord) (fun j => (rat l j).2) i)) ∧ v4 = .int .i64 i ∧ Aside0 (i + kq = l.length) ∧ Aside0 (Below w.heap.size w w'))
  case atStart => exact ⟨0, rfl, rfl, ⟨by omega⟩, ⟨Below.refl _ _⟩⟩
  case round =>
    obtain ⟨i, rfl, rfl, HI, HB⟩ := hrel
    have HR := Aside0.mk (HQ.out.below HB.out)
    have hc1 : wr.cell? ⟨g, 1, none⟩ = some (.slice A l.length cap) := (blk_cell HR.out.blk 1).trans rfl
    cases gk with
    | zero =>
      have hgt : decide (i < l.length) = false := decide_eq_false (by have := HI.out; omega)
      have hi : i = l.length := by have := HI.out; omega
      have HII := Aside0.mk hi
      clear hi
      go_wp2
      go_ret
      rw [HII.out]
      exact ⟨rfl, HB.out⟩
    | succ gk =>
      have hil : (i : Int) < l.length := by have := HI.out; omega
      have hiN : i < l.length := by omega
      obtain ⟨gl, hA⟩ := HR.out.gl (by omega)
      subst hA
      have HIN := Aside0.mk hiN
      have hwi : wrap64 ((i : Int) + 1) = (i : Int) + 1 := by unfold wrap64; have := HL.out; omega
      have HWI := Aside0.mk hwi
      have HLS : Aside0 (leastF (HeapII.ordK ord) (fun j => (rat l j).2) (i + 1) = match leastF (HeapII.ordK ord) (fun j => (rat l j).2) i with
        | none => some i
        | some b => if HeapII.ordK ord (rat l i).2 (rat l b).2 = true then some i else some b) := ⟨rfl⟩
      clear hwi hiN
      cases hb : leastF (HeapII.ordK ord) (fun j => (rat l j).2) i with
      | none =>
        rw [hb] at HLS
        have hm1 : idxI none = -1 := rfl
        rw [hm1]
        clear hb hm1
        go_wp2_with fail
        have HB4 : Aside0 (Below w.heap.size w wr.drew) := ⟨below_drew HB.out⟩
        clear HR HB hc1
        refine start_ (n := 25) (S := fun w' => True) (ds := []) #[false, false, false, false, false, false, false, false, false, false, false, false, false, false, false, false, false, false, false, false, false, false, false, false, false] (by kernel_rfl) rfl rfl trivial (fun hHeld => ?_)
        refine with_tabW least.tab5 least.bits5 (fun HT_ HW_ => ?_)
        generalize wr.drew = w4 at HB4 hHeld ⊢
        refine pure_ (i := 0) (N := some 14) (v := ?_) (a' := ?_) #[true, false, false, false, false, false, false, false, false, false, false, false, false, false, false, false, false, false, false, false, false, false, false, false, false] rfl rfl (any_of HT_.out (by kernel_rfl)) (fun _ _ _ h => h) (Or.inl ⟨by rfl, ?_⟩) ?_ ?_
        rotate_left
        · intro w'
          go_simp
          with_reducible rfl
        rotate_left
        · simp only [Act.put, List.setIfInBounds_toArray, List.set_cons_zero, List.set_cons_succ, i64_w, i32_w]
          rfl
        refine pure_ (i := 1) (N := some 15) (v := ?_) (a' := ?_) #[true, true, false, false, false, false, false, false, false, false, false, false, false, false, false, false, false, false, false, false, false, false, false, false, false] rfl rfl (any_of HT_.out (by kernel_rfl)) (fun _ _ _ h => h) (Or.inl ⟨by rfl, ?_⟩) ?_ ?_
        rotate_left
        · intro w'
          go_simp
          with_reducible rfl
        rotate_left
        · simp only [Act.put, List.setIfInBounds_toArray, List.set_cons_zero, List.set_cons_succ, i64_w, i32_w]
          rfl
        refine pure_ (i := 2) (N := some 16) (v := ?_) (a' := ?_) #[true, true, true, false, false, false, false, false, false, false, false, false, false, false, false, false, false, false, false, false, false, false, false, false, false] rfl rfl (any_of HT_.out (by kernel_rfl)) (fun _ _ _ h => h) (Or.inl ⟨by rfl, ?_⟩) ?_ ?_
        rotate_left
        · intro w'
          go_simp
          with_reducible rfl
        rotate_left
        · simp only [Act.put, List.setIfInBounds_toArray, List.set_cons_zero, List.set_cons_succ, i64_w, i32_w]
          rfl
        refine pure_ (i := 3) (N := some 17) (v := undef) (a' := ?_) #[true, true, true, true, false, false, false, false, false, false, false, false, false, false, false, false, false, false, false, false, false, false, false, false, false] rfl rfl (any_of HT_.out (by kernel_rfl)) (fun _ _ _ h => h) (Or.inr ⟨by rfl, rfl⟩) ?_ ?_
        rotate_left
        · simp only [Act.put, List.setIfInBounds_toArray, List.set_cons_zero, List.set_cons_succ, i64_w, i32_w]
          rfl
        refine pure_ (i := 4) (N := some 18) (v := undef) (a' := ?_) #[true, true, true, true, true, false, false, false, false, false, false, false, false, false, false, false, false, false, false, false, false, false, false, false, false] rfl rfl (any_of HT_.out (by kernel_rfl)) (fun _ _ _ h => h) (Or.inr ⟨by rfl, rfl⟩) ?_ ?_
        rotate_left
        · simp only [Act.put, List.setIfInBounds_toArray, List.set_cons_zero, List.set_cons_succ, i64_w, i32_w]
          rfl
        refine pure_ (i := 5) (N := some 19) (v := undef) (a' := ?_) #[true, true, true, true, true, true, false, false, false, false, false, false, false, false, false, false, false, false, false, false, false, false, false, false, false] rfl rfl (any_of HT_.out (by kernel_rfl)) (fun _ _ _ h => h) (Or.inr ⟨by rfl, rfl⟩) ?_ ?_
        rotate_left
        · simp only [Act.put, List.setIfInBounds_toArray, List.set_cons_zero, List.set_cons_succ, i64_w, i32_w]
          rfl
        refine pure_ (i := 6) (N := some 20) (v := undef) (a' := ?_) #[true, true, true, true, true, true, true, false, false, false, false, false, false, false, false, false, false, false, false, false, false, false, false, false, false] rfl rfl (any_of HT_.out (by kernel_rfl)) (fun _ _ _ h => h) (Or.inr ⟨by rfl, rfl⟩) ?_ ?_
        rotate_left
        · simp only [Act.put, List.setIfInBounds_toArray, List.set_cons_zero, List.set_cons_succ, i64_w, i32_w]
          rfl
        refine pure_ (i := 7) (N := some 21) (v := undef) (a' := ?_) #[true, true, true, true, true, true, true, true, false, false, false, false, false, false, false, false, false, false, false, false, false, false, false, false, false] rfl rfl (any_of HT_.out (by kernel_rfl)) (fun _ _ _ h => h) (Or.inr ⟨by rfl, rfl⟩) ?_ ?_
        rotate_left
        · simp only [Act.put, List.setIfInBounds_toArray, List.set_cons_zero, List.set_cons_succ, i64_w, i32_w]
          rfl
        refine pure_ (i := 8) (N := some 22) (v := undef) (a' := ?_) #[true, true, true, true, true, true, true, true, true, false, false, false, false, false, false, false, false, false, false, false, false, false, false, false, false] rfl rfl (any_of HT_.out (by kernel_rfl)) (fun _ _ _ h => h) (Or.inr ⟨by rfl, rfl⟩) ?_ ?_
        rotate_left
        · simp only [Act.put, List.setIfInBounds_toArray, List.set_cons_zero, List.set_cons_succ, i64_w, i32_w]
          rfl
        refine pure_ (i := 9) (N := some 23) (v := undef) (a' := ?_) #[true, true, true, true, true, true, true, true, true, true, false, false, false, false, false, false, false, false, false, false, false, false, false, false, false] rfl rfl (any_of HT_.out (by kernel_rfl)) (fun _ _ _ h => h) (Or.inr ⟨by rfl, rfl⟩) ?_ ?_
        rotate_left
        · simp only [Act.put, List.setIfInBounds_toArray, List.set_cons_zero, List.set_cons_succ, i64_w, i32_w]
          rfl
        refine pure_ (i := 10) (N := some 24) (v := undef) (a' := ?_) #[true, true, true, true, true, true, true, true, true, true, true, false, false, false, false, false, false, false, false, false, false, false, false, false, false] rfl rfl (any_of HT_.out (by kernel_rfl)) (fun _ _ _ h => h) (Or.inr ⟨by rfl, rfl⟩) ?_ ?_
        rotate_left
        · simp only [Act.put, List.setIfInBounds_toArray, List.set_cons_zero, List.set_cons_succ, i64_w, i32_w]
          rfl
        refine pure_ (i := 11) (N := some 25) (v := undef) (a' := ?_) #[true, true, true, true, true, true, true, true, true, true, true, true, false, false, false, false, false, false, false, false, false, false, false, false, false] rfl rfl (any_of HT_.out (by kernel_rfl)) (fun _ _ _ h => h) (Or.inr ⟨by rfl, rfl⟩) ?_ ?_
        rotate_left
        · simp only [Act.put, List.setIfInBounds_toArray, List.set_cons_zero, List.set_cons_succ, i64_w, i32_w]
          rfl
        refine pure_ (i := 12) (N := some 26) (v := undef) (a' := ?_) #[true, true, true, true, true, true, true, true, true, true, true, true, true, false, false, false, false, false, false, false, false, false, false, false, false] rfl rfl (any_of HT_.out (by kernel_rfl)) (fun _ _ _ h => h) (Or.inr ⟨by rfl, rfl⟩) ?_ ?_
        rotate_left
        · simp only [Act.put, List.setIfInBounds_toArray, List.set_cons_zero, List.set_cons_succ, i64_w, i32_w]
          rfl
        refine pure_ (i := 13) (N := some 27) (v := undef) (a' := ?_) #[true, true, true, true, true, true, true, true, true, true, true, true, true, true, false, false, false, false, false, false, false, false, false, false, false] rfl rfl (any_of HT_.out (by kernel_rfl)) (fun _ _ _ h => h) (Or.inr ⟨by rfl, rfl⟩) ?_ ?_
        rotate_left
        · simp only [Act.put, List.setIfInBounds_toArray, List.set_cons_zero, List.set_cons_succ, i64_w, i32_w]
          rfl
        refine pure_ (i := 14) (N := some 28) (v := undef) (a' := ?_) #[true, true, true, true, true, true, true, true, true, true, true, true, true, true, true, false, false, false, false, false, false, false, false, false, false] rfl rfl (any_of HT_.out (by kernel_rfl)) (fun _ _ _ h => h) (Or.inr ⟨by rfl, rfl⟩) ?_ ?_
        rotate_left
        · simp only [Act.put, List.setIfInBounds_toArray, List.set_cons_zero, List.set_cons_succ, i64_w, i32_w]
          rfl
        refine pure_ (i := 15) (N := some 29) (v := undef) (a' := ?_) #[true, true, true, true, true, true, true, true, true, true, true, true, true, true, true, true, false, false, false, false, false, false, false, false, false] rfl rfl (any_of HT_.out (by kernel_rfl)) (fun _ _ _ h => h) (Or.inr ⟨by rfl, rfl⟩) ?_ ?_
        rotate_left
        · simp only [Act.put, List.setIfInBounds_toArray, List.set_cons_zero, List.set_cons_succ, i64_w, i32_w]
          rfl
        refine pure_ (i := 16) (N := some 30) (v := undef) (a' := ?_) #[true, true, true, true, true, true, true, true, true, true, true, true, true, true, true, true, true, false, false, false, false, false, false, false, false] rfl rfl (any_of HT_.out (by kernel_rfl)) (fun _ _ _ h => h) (Or.inr ⟨by rfl, rfl⟩) ?_ ?_
        rotate_left
        · simp only [Act.put, List.setIfInBounds_toArray, List.set_cons_zero, List.set_cons_succ, i64_w, i32_w]
          rfl
        refine pure_ (i := 17) (N := some 31) (v := undef) (a' := ?_) #[true, true, true, true, true, true, true, true, true, true, true, true, true, true, true, true, true, true, false, false, false, false, false, false, false] rfl rfl (any_of HT_.out (by kernel_rfl)) (fun _ _ _ h => h) (Or.inr ⟨by rfl, rfl⟩) ?_ ?_
        rotate_left
        · simp only [Act.put, List.setIfInBounds_toArray, List.set_cons_zero, List.set_cons_succ, i64_w, i32_w]
          rfl
        refine pure_ (i := 18) (N := some 32) (v := undef) (a' := ?_) #[true, true, true, true, true, true, true, true, true, true, true, true, true, true, true, true, true, true, true, false, false, false, false, false, false] rfl rfl (any_of HT_.out (by kernel_rfl)) (fun _ _ _ h => h) (Or.inr ⟨by rfl, rfl⟩) ?_ ?_
        rotate_left
        · simp only [Act.put, List.setIfInBounds_toArray, List.set_cons_zero, List.set_cons_succ, i64_w, i32_w]
          rfl
        refine pure_ (i := 19) (N := some 33) (v := undef) (a' := ?_) #[true, true, true, true, true, true, true, true, true, true, true, true, true, true, true, true, true, true, true, true, false, false, false, false, false] rfl rfl (any_of HT_.out (by kernel_rfl)) (fun _ _ _ h => h) (Or.inr ⟨by rfl, rfl⟩) ?_ ?_
        rotate_left
        · simp only [Act.put, List.setIfInBounds_toArray, List.set_cons_zero, List.set_cons_succ, i64_w, i32_w]
          rfl
        refine pure_ (i := 20) (N := some 34) (v := undef) (a' := ?_) #[true, true, true, true, true, true, true, true, true, true, true, true, true, true, true, true, true, true, true, true, true, false, false, false, false] rfl rfl (any_of HT_.out (by kernel_rfl)) (fun _ _ _ h => h) (Or.inr ⟨by rfl, rfl⟩) ?_ ?_
        rotate_left
        · simp only [Act.put, List.setIfInBounds_toArray, List.set_cons_zero, List.set_cons_succ, i64_w, i32_w]
          rfl
        refine pure_ (i := 21) (N := some 35) (v := undef) (a' := ?_) #[true, true, true, true, true, true, true, true, true, true, true, true, true, true, true, true, true, true, true, true, true, true, false, false, false] rfl rfl (any_of HT_.out (by kernel_rfl)) (fun _ _ _ h => h) (Or.inr ⟨by rfl, rfl⟩) ?_ ?_
        rotate_left
        · simp only [Act.put, List.setIfInBounds_toArray, List.set_cons_zero, List.set_cons_succ, i64_w, i32_w]
          rfl
        refine pure_ (i := 22) (N := some 36) (v := undef) (a' := ?_) #[true, true, true, true, true, true, true, true, true, true, true, true, true, true, true, true, true, true, true, true, true, true, true, false, false] rfl rfl (any_of HT_.out (by kernel_rfl)) (fun _ _ _ h => h) (Or.inr ⟨by rfl, rfl⟩) ?_ ?_
        rotate_left
        · simp only [Act.put, List.setIfInBounds_toArray, List.set_cons_zero, List.set_cons_succ, i64_w, i32_w]
          rfl
        refine pure_ (i := 23) (N := some 37) (v := undef) (a' := ?_) #[true, true, true, true, true, true, true, true, true, true, true, true, true, true, true, true, true, true, true, true, true, true, true, true, false] rfl rfl (any_of HT_.out (by kernel_rfl)) (fun _ _ _ h => h) (Or.inr ⟨by rfl, rfl⟩) ?_ ?_
        rotate_left
        · simp only [Act.put, List.setIfInBounds_toArray, List.set_cons_zero, List.set_cons_succ, i64_w, i32_w]
          rfl
        refine pure_ (i := 24) (N := some 38) (v := ?_) (a' := ?_) #[true, true, true, true, true, true, true, true, true, true, true, true, true, true, true, true, true, true, true, true, true, true, true, true, true] rfl rfl (any_of HT_.out (by kernel_rfl)) (fun _ _ _ h => h) (Or.inl ⟨by rfl, ?_⟩) ?_ ?_
        rotate_left
        · intro w'
          go_simp
          with_reducible rfl
        rotate_left
        · simp only [Act.put, List.setIfInBounds_toArray, List.set_cons_zero, List.set_cons_succ, i64_w, i32_w]
          rfl
        refine done_ (done_of HT_.out (by kernel_rfl)) ?_
        try clear hHeld
        go_wp2
        go_roundg gk
        case measure => omega
        case rel => exact ⟨i + 1, by rw [HLS.out]; rfl, by first | rfl | (rw [HWI.out]; rfl), ⟨by have := HI.out; omega⟩, HB4⟩
      | some b =>
        rw [hb] at HLS
        have hbl := leastF_lt hb
        have hm1 : idxI (some b) = (b : Int) := rfl
        rw [hm1]
        have hb0 : decide ((b : Int) < 0) = false := decide_eq_false (by omega)
        have hbb : (b : Int) < l.length := by omega
        have HC1 := Aside0.mk (rcells HR.out.row HIN.out)
        have HC2 := Aside0.mk (rcells HR.out.row (show b < l.length by omega))
        obtain ⟨r1, hr1⟩ : ∃ r1, r1 = (rat l i).2 := ⟨_, rfl⟩
        obtain ⟨r2, hr2⟩ : ∃ r2, r2 = (rat l b).2 := ⟨_, rfl⟩
        have hx1 := HC1.out.2.2.2.2.2.2.2.2
        have hx2 := HC2.out.2.2.2.2.2.2.2.2
        rw [← hr1] at hx1
        rw [← hr2] at hx2
        simp only [] at HLS
        rw [← hr1, ← hr2] at HLS
        have HX := Aside0.mk (And.intro hx1 hx2)
        clear hb hbl hm1 HC1 HC2 hr1 hr2 hx1 hx2
        go_wp2_with fail
        have HR4 : Aside0 (RefAt wr.drew base g ord (some ⟨gl, 0, none⟩) cap l) := ⟨HR.out.below (below_drew1 (Below.refl _ _))⟩
        have HB4 : Aside0 (Below w.heap.size w wr.drew) := ⟨below_drew HB.out⟩
        have HX4 : Aside0 (wr.drew.cell? ⟨gl, i * 9 + 8, none⟩ = some (.int .i64 r1) ∧ wr.drew.cell? ⟨gl, b * 9 + 8, none⟩ = some (.int .i64 r2)) := ⟨HX.out⟩
        clear HR HB hc1 HX
        refine start_ (n := 25) (S := fun w' => w'.cell? ⟨g, 0, none⟩ = some (.int .i64 ord) ∧ w'.cell? ⟨g, 1, none⟩ = some (.slice (some ⟨gl, 0, none⟩) l.length cap) ∧ w'.cell? ⟨gl, i * 9 + 8, none⟩ = some (.int .i64 r1) ∧ w'.cell? ⟨gl, b * 9 + 8, none⟩ = some (.int .i64 r2)) (ds := [23]) #[false, false, false, false, false, false, false, false, false, false, false, false, false, false, false, false, false, false, false, false, false, false, false, false, false] (by kernel_rfl) rfl rfl ⟨(blk_cell HR4.out.blk 0).trans rfl, (blk_cell HR4.out.blk 1).trans rfl, HX4.out.1, HX4.out.2⟩ (fun hHeld => ?_)
        refine with_tabW least.tab5 least.bits5 (fun HT_ HW_ => ?_)
        generalize wr.drew = w4 at HR4 HB4 HX4 hHeld ⊢
        refine pure_ (i := 0) (N := some 14) (v := ?_) (a' := ?_) #[true, false, false, false, false, false, false, false, false, false, false, false, false, false, false, false, false, false, false, false, false, false, false, false, false] rfl rfl (any_of HT_.out (by kernel_rfl)) (fun _ _ _ h => h) (Or.inl ⟨by rfl, ?_⟩) ?_ ?_
        rotate_left
        · intro w'
          go_simp
          with_reducible rfl
        rotate_left
        · simp only [Act.put, List.setIfInBounds_toArray, List.set_cons_zero, List.set_cons_succ, i64_w, i32_w]
          rfl
        refine pure_ (i := 1) (N := some 15) (v := ?_) (a' := ?_) #[true, true, false, false, false, false, false, false, false, false, false, false, false, false, false, false, false, false, false, false, false, false, false, false, false] rfl rfl (any_of HT_.out (by kernel_rfl)) (fun _ _ _ h => h) (Or.inl ⟨by rfl, ?_⟩) ?_ ?_
        rotate_left
        · intro w'
          go_simp
          with_reducible rfl
        rotate_left
        · simp only [Act.put, List.setIfInBounds_toArray, List.set_cons_zero, List.set_cons_succ, i64_w, i32_w]
          rfl
        refine pure_ (i := 2) (N := some 16) (v := ?_) (a' := ?_) #[true, true, true, false, false, false, false, false, false, false, false, false, false, false, false, false, false, false, false, false, false, false, false, false, false] rfl rfl (any_of HT_.out (by kernel_rfl)) (fun _ _ _ h => h) (Or.inl ⟨by rfl, ?_⟩) ?_ ?_
        rotate_left
        · intro w'
          go_simp
          with_reducible rfl
        rotate_left
        · simp only [Act.put, List.setIfInBounds_toArray, List.set_cons_zero, List.set_cons_succ, i64_w, i32_w]
          rfl
        refine pure_ (i := 3) (N := some 17) (v := ?_) (a' := ?_) #[true, true, true, true, false, false, false, false, false, false, false, false, false, false, false, false, false, false, false, false, false, false, false, false, false] rfl rfl (any_of HT_.out (by kernel_rfl)) (fun _ _ _ h => h) (Or.inl ⟨by rfl, ?_⟩) ?_ ?_
        rotate_left
        · intro w'
          go_simp
          with_reducible rfl
        rotate_left
        · simp only [Act.put, List.setIfInBounds_toArray, List.set_cons_zero, List.set_cons_succ, i64_w, i32_w]
          rfl
        refine pure_ (i := 4) (N := some 18) (v := ?_) (a' := ?_) #[true, true, true, true, true, false, false, false, false, false, false, false, false, false, false, false, false, false, false, false, false, false, false, false, false] rfl rfl (any_of HT_.out (by kernel_rfl)) (fun _ _ _ h => h) (Or.inl ⟨by rfl, ?_⟩) ?_ ?_
        rotate_left
        · intro w'
          go_simp
          with_reducible rfl
        rotate_left
        · simp only [Act.put, List.setIfInBounds_toArray, List.set_cons_zero, List.set_cons_succ, i64_w, i32_w]
          rfl
        refine pure_ (i := 5) (N := some 19) (v := ?_) (a' := ?_) #[true, true, true, true, true, true, false, false, false, false, false, false, false, false, false, false, false, false, false, false, false, false, false, false, false] rfl rfl (any_of HT_.out (by kernel_rfl)) (fun _ _ _ h => h) (Or.inl ⟨by rfl, ?_⟩) ?_ ?_
        rotate_left
        · intro w'
          go_simp
          with_reducible rfl
        rotate_left
        · simp only [Act.put, List.setIfInBounds_toArray, List.set_cons_zero, List.set_cons_succ, i64_w, i32_w]
          rfl
        refine pure_ (i := 7) (N := some 21) (v := ?_) (a' := ?_) #[true, true, true, true, true, true, false, true, false, false, false, false, false, false, false, false, false, false, false, false, false, false, false, false, false] rfl rfl (any_of HT_.out (by kernel_rfl)) (fun _ _ _ h => h) (Or.inl ⟨by rfl, ?_⟩) ?_ ?_
        rotate_left
        · intro w'
          go_simp
          with_reducible rfl
        rotate_left
        · simp only [Act.put, List.setIfInBounds_toArray, List.set_cons_zero, List.set_cons_succ, i64_w, i32_w]
          rfl
        refine pure_ (i := 8) (N := some 22) (v := ?_) (a' := ?_) #[true, true, true, true, true, true, false, true, true, false, false, false, false, false, false, false, false, false, false, false, false, false, false, false, false] rfl rfl (any_of HT_.out (by kernel_rfl)) (fun _ _ _ h => h) (Or.inl ⟨by rfl, ?_⟩) ?_ ?_
        rotate_left
        · intro w'
          go_simp
          with_reducible rfl
        rotate_left
        · simp only [Act.put, List.setIfInBounds_toArray, List.set_cons_zero, List.set_cons_succ, i64_w, i32_w]
          rfl
        refine pure_ (i := 9) (N := some 23) (v := ?_) (a' := ?_) #[true, true, true, true, true, true, false, true, true, true, false, false, false, false, false, false, false, false, false, false, false, false, false, false, false] rfl rfl (any_of HT_.out (by kernel_rfl)) (fun _ _ _ h => h) (Or.inl ⟨by rfl, ?_⟩) ?_ ?_
        rotate_left
        · intro w'
          go_simp
          with_reducible rfl
        rotate_left
        · simp only [Act.put, List.setIfInBounds_toArray, List.set_cons_zero, List.set_cons_succ, i64_w, i32_w]
          rfl
        refine pure_ (i := 11) (N := some 25) (v := ?_) (a' := ?_) #[true, true, true, true, true, true, false, true, true, true, false, true, false, false, false, false, false, false, false, false, false, false, false, false, false] rfl rfl (any_of HT_.out (by kernel_rfl)) (fun _ _ _ h => h) (Or.inl ⟨by rfl, ?_⟩) ?_ ?_
        rotate_left
        · intro w'
          go_simp
          with_reducible rfl
        rotate_left
        · simp only [Act.put, List.setIfInBounds_toArray, List.set_cons_zero, List.set_cons_succ, i64_w, i32_w]
          rfl
        refine pure_ (i := 15) (N := some 29) (v := ?_) (a' := ?_) #[true, true, true, true, true, true, false, true, true, true, false, true, false, false, false, true, false, false, false, false, false, false, false, false, false] rfl rfl (any_of HT_.out (by kernel_rfl)) (fun _ _ _ h => h) (Or.inl ⟨by rfl, ?_⟩) ?_ ?_
        rotate_left
        · intro w'
          go_simp
          with_reducible rfl
        rotate_left
        · simp only [Act.put, List.setIfInBounds_toArray, List.set_cons_zero, List.set_cons_succ, i64_w, i32_w]
          rfl
        refine pure_ (i := 16) (N := some 30) (v := ?_) (a' := ?_) #[true, true, true, true, true, true, false, true, true, true, false, true, false, false, false, true, true, false, false, false, false, false, false, false, false] rfl rfl (any_of HT_.out (by kernel_rfl)) (fun _ _ _ h => h) (Or.inl ⟨by rfl, ?_⟩) ?_ ?_
        rotate_left
        · intro w'
          go_simp
          with_reducible rfl
        rotate_left
        · simp only [Act.put, List.setIfInBounds_toArray, List.set_cons_zero, List.set_cons_succ, i64_w, i32_w]
          rfl
        refine pure_ (i := 17) (N := some 31) (v := ?_) (a' := ?_) #[true, true, true, true, true, true, false, true, true, true, false, true, false, false, false, true, true, true, false, false, false, false, false, false, false] rfl rfl (any_of HT_.out (by kernel_rfl)) (fun _ _ _ h => h) (Or.inl ⟨by rfl, ?_⟩) ?_ ?_
        rotate_left
        · intro w'
          go_simp
          with_reducible rfl
        rotate_left
        · simp only [Act.put, List.setIfInBounds_toArray, List.set_cons_zero, List.set_cons_succ, i64_w, i32_w]
          rfl
        refine pure_ (i := 19) (N := some 33) (v := ?_) (a' := ?_) #[true, true, true, true, true, true, false, true, true, true, false, true, false, false, false, true, true, true, false, true, false, false, false, false, false] rfl rfl (any_of HT_.out (by kernel_rfl)) (fun _ _ _ h => h) (Or.inl ⟨by rfl, ?_⟩) ?_ ?_
        rotate_left
        · intro w'
          go_simp
          with_reducible rfl
        rotate_left
        · simp only [Act.put, List.setIfInBounds_toArray, List.set_cons_zero, List.set_cons_succ, i64_w, i32_w]
          rfl
        refine take_ (i := 6) (N := some 20) (v := ?_) (a' := ?_) #[true, true, true, true, true, true, true, true, true, true, false, true, false, false, false, true, true, true, false, true, false, false, false, false, false] rfl rfl (take_ofW HT_.out HW_.out (by kernel_rfl)) (fun _ _ _ h => h) (Or.inl ⟨by rfl, ?_⟩) hHeld ?_ ?_
        rotate_left
        · rintro w' ⟨s0, s1, s2, s3⟩
          go_simp
          with_reducible rfl
        rotate_left
        · simp only [Act.put, List.setIfInBounds_toArray, List.set_cons_zero, List.set_cons_succ, i64_w, i32_w]
          rfl
        refine take_ (i := 10) (N := some 24) (v := ?_) (a' := ?_) #[true, true, true, true, true, true, true, true, true, true, true, true, false, false, false, true, true, true, false, true, false, false, false, false, false] rfl rfl (take_ofW HT_.out HW_.out (by kernel_rfl)) (fun _ _ _ h => h) (Or.inl ⟨by rfl, ?_⟩) hHeld ?_ ?_
        rotate_left
        · rintro w' ⟨s0, s1, s2, s3⟩
          go_simp
          with_reducible rfl
        rotate_left
        · simp only [Act.put, List.setIfInBounds_toArray, List.set_cons_zero, List.set_cons_succ, i64_w, i32_w]
          rfl
        refine pure_ (i := 12) (N := some 26) (v := ?_) (a' := ?_) #[true, true, true, true, true, true, true, true, true, true, true, true, true, false, false, true, true, true, false, true, false, false, false, false, false] rfl rfl (any_of HT_.out (by kernel_rfl)) (fun _ _ _ h => h) (Or.inl ⟨by rfl, ?_⟩) ?_ ?_
        rotate_left
        · intro w'
          go_simp
          with_reducible rfl
        rotate_left
        · simp only [Act.put, List.setIfInBounds_toArray, List.set_cons_zero, List.set_cons_succ, i64_w, i32_w]
          rfl
        refine pure_ (i := 13) (N := some 27) (v := ?_) (a' := ?_) #[true, true, true, true, true, true, true, true, true, true, true, true, true, true, false, true, true, true, false, true, false, false, false, false, false] rfl rfl (any_of HT_.out (by kernel_rfl)) (fun _ _ _ h => h) (Or.inl ⟨by rfl, ?_⟩) ?_ ?_
        rotate_left
        · intro w'
          go_simp
          with_reducible rfl
        rotate_left
        · simp only [Act.put, List.setIfInBounds_toArray, List.set_cons_zero, List.set_cons_succ, i64_w, i32_w]
          rfl
        refine take_ (i := 14) (N := some 28) (v := ?_) (a' := ?_) #[true, true, true, true, true, true, true, true, true, true, true, true, true, true, true, true, true, true, false, true, false, false, false, false, false] rfl rfl (take_ofW HT_.out HW_.out (by kernel_rfl)) (fun _ _ _ h => h) (Or.inl ⟨by rfl, ?_⟩) hHeld ?_ ?_
        rotate_left
        · rintro w' ⟨s0, s1, s2, s3⟩
          go_simp
          with_reducible rfl
        rotate_left
        · simp only [Act.put, List.setIfInBounds_toArray, List.set_cons_zero, List.set_cons_succ, i64_w, i32_w]
          rfl
        refine take_ (i := 18) (N := some 32) (v := ?_) (a' := ?_) #[true, true, true, true, true, true, true, true, true, true, true, true, true, true, true, true, true, true, true, true, false, false, false, false, false] rfl rfl (take_ofW HT_.out HW_.out (by kernel_rfl)) (fun _ _ _ h => h) (Or.inl ⟨by rfl, ?_⟩) hHeld ?_ ?_
        rotate_left
        · rintro w' ⟨s0, s1, s2, s3⟩
          go_simp
          with_reducible rfl
        rotate_left
        · simp only [Act.put, List.setIfInBounds_toArray, List.set_cons_zero, List.set_cons_succ, i64_w, i32_w]
          rfl
        refine pure_ (i := 20) (N := some 34) (v := ?_) (a' := ?_) #[true, true, true, true, true, true, true, true, true, true, true, true, true, true, true, true, true, true, true, true, true, false, false, false, false] rfl rfl (any_of HT_.out (by kernel_rfl)) (fun _ _ _ h => h) (Or.inl ⟨by rfl, ?_⟩) ?_ ?_
        rotate_left
        · intro w'
          go_simp
          with_reducible rfl
        rotate_left
        · simp only [Act.put, List.setIfInBounds_toArray, List.set_cons_zero, List.set_cons_succ, i64_w, i32_w]
          rfl
        refine pure_ (i := 21) (N := some 35) (v := ?_) (a' := ?_) #[true, true, true, true, true, true, true, true, true, true, true, true, true, true, true, true, true, true, true, true, true, true, false, false, false] rfl rfl (any_of HT_.out (by kernel_rfl)) (fun _ _ _ h => h) (Or.inl ⟨by rfl, ?_⟩) ?_ ?_
        rotate_left
        · intro w'
          go_simp
          with_reducible rfl
        rotate_left
        · simp only [Act.put, List.setIfInBounds_toArray, List.set_cons_zero, List.set_cons_succ, i64_w, i32_w]
          rfl
        refine take_ (i := 22) (N := some 36) (v := ?_) (a' := ?_) #[true, true, true, true, true, true, true, true, true, true, true, true, true, true, true, true, true, true, true, true, true, true, true, false, false] rfl rfl (take_ofW HT_.out HW_.out (by kernel_rfl)) (fun _ _ _ h => h) (Or.inl ⟨by rfl, ?_⟩) hHeld ?_ ?_
        rotate_left
        · rintro w' ⟨s0, s1, s2, s3⟩
          go_simp
          with_reducible rfl
        rotate_left
        · simp only [Act.put, List.setIfInBounds_toArray, List.set_cons_zero, List.set_cons_succ, i64_w, i32_w]
          rfl
        refine last_ (i := 23) (N := some 37) #[true, true, true, true, true, true, true, true, true, true, true, true, true, true, true, true, true, true, true, true, true, true, true, true, false] rfl rfl (one_of HT_.out (by kernel_rfl)) (by decide) (fun K hK => ?_)
        refine goes_ Try.func77 (by kernel_rfl) rfl #[.int .i64 ord, .int .i64 r1, .int .i64 r2] (by rfl) rfl rfl (by simp only [List.map_toArray, List.map_cons, List.map_nil]; rfl) ?_
        with_reducible refine (cabstandref07_Before.calls ord r1 r2 (HeapII.ordK ord r1 r2) w4 (before_ok _ _ _)).mono ?_
        rintro e w5 ⟨rfl, nq, rfl⟩
        refine ⟨_, rfl, ?_⟩
        have HB5 := Aside0.mk (below_step HB4.out (pw_below_drewN (Below.refl w4.heap.size w4) nq))
        clear HB4 HR4 HX4
        generalize w4.drewN nq = w5 at HB5 ⊢
        obtain ⟨bb, hbb2⟩ : ∃ bb, bb = HeapII.ordK ord r1 r2 := ⟨_, rfl⟩
        rw [← hbb2] at HLS ⊢
        clear hbb2
        refine hK.out _ _ ?_
        clear hK K
        refine norm_ (a' := ?_) ?_ ?_
        rotate_left
        · show Act.put _ (some 37) _ = _
          simp only [Act.put, List.setIfInBounds_toArray, List.set_cons_zero, List.set_cons_succ, i64_w, i32_w]
          rfl
        refine pure_ (i := 24) (N := some 38) (v := ?_) (a' := ?_) #[true, true, true, true, true, true, true, true, true, true, true, true, true, true, true, true, true, true, true, true, true, true, true, true, true] rfl rfl (any_of HT_.out (by kernel_rfl)) (fun _ _ _ h => h) (Or.inl ⟨by rfl, ?_⟩) ?_ ?_
        rotate_left
        · intro w'
          go_simp
          with_reducible rfl
        rotate_left
        · simp only [Act.put, List.setIfInBounds_toArray, List.set_cons_zero, List.set_cons_succ, i64_w, i32_w]
          rfl
        refine done_ (done_of HT_.out (by kernel_rfl)) ?_
        try clear hHeld
        cases bb with
        | true =>
          try clear hHeld
          go_wp2
          go_roundg gk
          case measure => omega
          case rel => exact ⟨i + 1, by rw [HLS.out]; rfl, by first | rfl | (rw [HWI.out]; rfl), ⟨by have := HI.out; omega⟩, HB5⟩
        | false =>
          try clear hHeld
          go_wp2
          go_roundg gk
          case measure => omega
          case rel => exact ⟨i + 1, by rw [HLS.out]; rfl, by first | rfl | (rw [HWI.out]; rfl), ⟨by have := HI.out; omega⟩, HB5⟩
set_option maxHeartbeats 8000000 in
set_option maxRecDepth 100000 in
theorem rfirst_none (base g : Nat) (ord : Int) (A : Option Addr) (cap : Nat) (l : List Rt) (w : World) (h : RefAt w base g ord A cap l) (hl : l.length ≤ 4000000000000) (hb : base ≤ w.heap.size) (hlf : leastF (HeapII.ordK ord) (fun j => (rat l j).2) l.length = none) :
    Calls Try.prog 36 #[.pointer (some ⟨g, 0, none⟩)] w fun e w' => e = .returned (.tuple #[.agg #[.int .u8 0, .int .u8 0, .int .u8 0, .int .u8 0, .int .u8 0, .int .u8 0, .int .u8 0, .int .u8 0, .int .i64 0], .bool false]) ∧ Below w.heap.size w w' := by
  have H := Aside0.mk h
  have HL := Aside0.mk hl
  have HBS := Aside0.mk hb
  have HLF := Aside0.mk hlf
  clear h hl hb hlf
  go_enter Try.func36, Try.ntmps36
  go_wp2_with fail
  have HXz : Aside0 ((w.alloc (.cells #[.int .u8 0, .int .u8 0, .int .u8 0, .int .u8 0, .int .u8 0, .int .u8 0, .int .u8 0, .int .u8 0, .int .i64 0] 87)).heap[w.heap.size]? = some (.cells #[.int .u8 0, .int .u8 0, .int .u8 0, .int .u8 0, .int .u8 0, .int .u8 0, .int .u8 0, .int .u8 0, .int .i64 0] 87 (0, 0))) := ⟨blk_new _ _⟩
  have HBB : Aside0 (Below w.heap.size w (w.alloc (.cells #[.int .u8 0, .int .u8 0, .int .u8 0, .int .u8 0, .int .u8 0, .int .u8 0, .int .u8 0, .int .u8 0, .int .i64 0] 87))) := ⟨below_alloc (Below.refl _ _) _⟩
  have HQ := Aside0.mk (H.out.below HBB.out)
  generalize w.alloc (.cells #[.int .u8 0, .int .u8 0, .int .u8 0, .int .u8 0, .int .u8 0, .int .u8 0, .int .u8 0, .int .u8 0, .int .i64 0] 87) = wB at HXz HBB HQ ⊢
  refine (least_calls base g ord A cap l wB HQ.out HL.out).mono ?_
  rintro e w1 ⟨rfl, hb⟩
  have HQ1 := Aside0.mk (HQ.out.below hb)
  have HX1 := Aside0.mk ((hb.block _ (blk_lt HXz.out)).trans HXz.out)
  have HB1 := Aside0.mk (below_step HBB.out hb)
  clear hb HQ HXz HBB
  rw [HLF.out]
  have hm1 : idxI none = -1 := rfl
  rw [hm1]
  clear hm1
  go_wp2_with ((with_reducible refine gate_store (t := 87) (p := 2) (v := .tmp 9) rfl ?_); refine wpList_store_row rfl 87 (.tmp 2) (.tmp 9) rfl w.heap.size #[.int .u8 0, .int .u8 0, .int .u8 0, .int .u8 0, .int .u8 0, .int .u8 0, .int .u8 0, .int .u8 0, .int .i64 0] rfl rfl _ _ HX1.out infoRI' rfl (by simp [Value.oneCell']) ?_; have hs := chg_row (cs := #[.int .u8 0, .int .u8 0, .int .u8 0, .int .u8 0, .int .u8 0, .int .u8 0, .int .u8 0, .int .u8 0, .int .i64 0]) HX1.out; have HX2 := Aside0.mk hs.1; have HB2 := Aside0.mk (HB1.out.trans (hs.2.below HB1.out.size (fun k hk => by have e : k = w.heap.size := hk; omega))); have HQ2 := Aside0.mk (HQ1.out.below0 (fun k hk => hs.2.block k (HQ1.out.fp_lt k hk) (fun e => by have e' : k = w.heap.size := e; have := H.out.fp_lt k hk; omega))); clear hs; generalize w1.setRow w.heap.size #[.int .u8 0, .int .u8 0, .int .u8 0, .int .u8 0, .int .u8 0, .int .u8 0, .int .u8 0, .int .u8 0, .int .i64 0] = w2 at HX2 HB2 HQ2 ⊢)
  refine bodyPost_ret (results_list (rs := [.cell 2 87, .tmp 3]) rfl (by simp) (.cell w.heap.size 87 _ (0, 0) _ rfl HX2.out Try.underlying87 rfl infoRI' (.tmp .nil))) rfl ?_
  exact ⟨rfl, HB2.out⟩
set_option maxHeartbeats 8000000 in
set_option maxRecDepth 100000 in
theorem rfirst_calls (base g : Nat) (ord : Int) (A : Option Addr) (cap : Nat) (l : List Rt) {b : Nat} (w : World) (h : RefAt w base g ord A cap l) (hl : l.length ≤ 4000000000000) (hb : base ≤ w.heap.size) (hlf : leastF (HeapII.ordK ord) (fun j => (rat l j).2) l.length = some b) :
    Calls Try.prog 36 #[.pointer (some ⟨g, 0, none⟩)] w fun e w' => e = .returned (.tuple #[.agg #[.int .u8 (rat l b).1.1, .int .u8 (rat l b).1.2.1, .int .u8 (rat l b).1.2.2.1, .int .u8 (rat l b).1.2.2.2.1, .int .u8 (rat l b).1.2.2.2.2.1, .int .u8 (rat l b).1.2.2.2.2.2.1, .int .u8 (rat l b).1.2.2.2.2.2.2.1, .int .u8 (rat l b).1.2.2.2.2.2.2.2, .int .i64 (rat l b).2], .bool true]) ∧ Below w.heap.size w w' := by
  have H := Aside0.mk h
  have HL := Aside0.mk hl
  have HBS := Aside0.mk hb
  have HLF := Aside0.mk hlf
  clear h hl hb hlf
  go_enter Try.func36, Try.ntmps36
  go_wp2_with fail
  have HXz : Aside0 ((w.alloc (.cells #[.int .u8 0, .int .u8 0, .int .u8 0, .int .u8 0, .int .u8 0, .int .u8 0, .int .u8 0, .int .u8 0, .int .i64 0] 87)).heap[w.heap.size]? = some (.cells #[.int .u8 0, .int .u8 0, .int .u8 0, .int .u8 0, .int .u8 0, .int .u8 0, .int .u8 0, .int .u8 0, .int .i64 0] 87 (0, 0))) := ⟨blk_new _ _⟩
  have HBB : Aside0 (Below w.heap.size w (w.alloc (.cells #[.int .u8 0, .int .u8 0, .int .u8 0, .int .u8 0, .int .u8 0, .int .u8 0, .int .u8 0, .int .u8 0, .int .i64 0] 87))) := ⟨below_alloc (Below.refl _ _) _⟩
  have HQ := Aside0.mk (H.out.below HBB.out)
  generalize w.alloc (.cells #[.int .u8 0, .int .u8 0, .int .u8 0, .int .u8 0, .int .u8 0, .int .u8 0, .int .u8 0, .int .u8 0, .int .i64 0] 87) = wB at HXz HBB HQ ⊢
  refine (least_calls base g ord A cap l wB HQ.out HL.out).mono ?_
  rintro e w1 ⟨rfl, hb⟩
  have HQ1 := Aside0.mk (HQ.out.below hb)
  have HX1 := Aside0.mk ((hb.block _ (blk_lt HXz.out)).trans HXz.out)
  have HB1 := Aside0.mk (below_step HBB.out hb)
  clear hb HQ HXz HBB
  rw [HLF.out]
  have hm1 : idxI (some b) = (b : Int) := rfl
  rw [hm1]
  have hbl := leastF_lt HLF.out
  have HBL := Aside0.mk hbl
  have hb0 : decide ((b : Int) < 0) = false := decide_eq_false (by omega)
  have hbb : (b : Int) < l.length := by omega
  obtain ⟨gl, hA⟩ := HQ1.out.gl (by omega)
  subst hA
  have hc1 : w1.cell? ⟨g, 1, none⟩ = some (.slice (some ⟨gl, 0, none⟩) l.length cap) := (blk_cell HQ1.out.blk 1).trans rfl
  have HC := Aside0.mk (rcells HQ1.out.row hbl)
  obtain ⟨y, hy⟩ : ∃ y, y = rat l b := ⟨_, rfl⟩
  rw [← hy] at HC
  have HY := Aside0.mk hy
  obtain ⟨hy0, hy1, hy2, hy3, hy4, hy5, hy6, hy7, hy8⟩ := HC.out
  clear hm1 hy hbl HC
  go_wp2_with ((with_reducible refine gate_store (t := 87) (p := 2) (v := .tmp 16) rfl ?_); refine wpList_store_row rfl 87 (.tmp 2) (.tmp 16) rfl w.heap.size #[.int .u8 y.1.1, .int .u8 y.1.2.1, .int .u8 y.1.2.2.1, .int .u8 y.1.2.2.2.1, .int .u8 y.1.2.2.2.2.1, .int .u8 y.1.2.2.2.2.2.1, .int .u8 y.1.2.2.2.2.2.2.1, .int .u8 y.1.2.2.2.2.2.2.2, .int .i64 y.2] rfl rfl _ _ HX1.out infoRI' rfl (by simp [Value.oneCell']) ?_; have hs := chg_row (cs := #[.int .u8 y.1.1, .int .u8 y.1.2.1, .int .u8 y.1.2.2.1, .int .u8 y.1.2.2.2.1, .int .u8 y.1.2.2.2.2.1, .int .u8 y.1.2.2.2.2.2.1, .int .u8 y.1.2.2.2.2.2.2.1, .int .u8 y.1.2.2.2.2.2.2.2, .int .i64 y.2]) HX1.out; have HX2 := Aside0.mk hs.1; have HB2 := Aside0.mk (HB1.out.trans (hs.2.below HB1.out.size (fun k hk => by have e : k = w.heap.size := hk; omega))); clear hs; generalize w1.setRow w.heap.size #[.int .u8 y.1.1, .int .u8 y.1.2.1, .int .u8 y.1.2.2.1, .int .u8 y.1.2.2.2.1, .int .u8 y.1.2.2.2.2.1, .int .u8 y.1.2.2.2.2.2.1, .int .u8 y.1.2.2.2.2.2.2.1, .int .u8 y.1.2.2.2.2.2.2.2, .int .i64 y.2] = w2 at HX2 HB2 ⊢)
  refine bodyPost_ret (results_list (rs := [.cell 2 87, .tmp 3]) rfl (by simp) (.cell w.heap.size 87 _ (0, 0) _ rfl HX2.out Try.underlying87 rfl infoRI' (.tmp .nil))) rfl ?_
  rw [← HY.out]
  exact ⟨rfl, HB2.out⟩
end Go.Proofs.Ytibipbfmhbkpiaa.HeapDI
/- The document's heap: pop,rank,drop,putlem,put. Conditions: those that stand in each theorem. Written by wip/gen/heaprf.py. -/
namespace Go.Proofs.Ytibipbfmhbkpiaa.HeapDI
open Go.RowKit Go.Proofs.YtibipbfmhbkpiaaW.PrintWords Go.Proofs.YtibipbfmhbkpiaaW.PrintLast Go.Proofs.YtibipbfmhbkpiaaW.PrintMore Go.Proofs.Ytibipbfmhbkpiaa.HeapW Go.Proofs.Ytibipbfmhbkpiaa.HeapP Go.Proofs.Ytibipbfmhbkpiaa.MapAt Go.Proofs.Ytibipbfmhbkpiaa.Q
set_option linter.unusedVariables false
set_option linter.unusedSimpArgs false
theorem pop_ne' {n g k : Nat} {A : Option Addr} (h1 : g < n) (h2 : ∀ a, A = some a → n < a.block) (e : k = n) (hk : rfp g A k) : False := by
  rcases hk with rfl | ⟨a, ha, rfl⟩
  · omega
  · have := h2 a ha
    omega
set_option maxHeartbeats 8000000 in
set_option maxRecDepth 100000 in
theorem rpop_none (base g : Nat) (ord : Int) (A : Option Addr) (cap : Nat) (l : List Rt) (w : World) (h : RefAt w base g ord A cap l) (hl : l.length ≤ 4000000000000) (hb : base ≤ w.heap.size) (hlf : leastF (HeapII.ordK ord) (fun j => (rat l j).2) l.length = none) :
    Calls Try.prog 33 #[.pointer (some ⟨g, 0, none⟩)] w fun e w' => e = .returned (.tuple #[.agg #[.int .u8 0, .int .u8 0, .int .u8 0, .int .u8 0, .int .u8 0, .int .u8 0, .int .u8 0, .int .u8 0, .int .i64 0], .bool false]) ∧ RefAt w' base g ord A cap l ∧ Below w.heap.size w w' := by
  have H := Aside0.mk h
  have HL := Aside0.mk hl
  have HBS := Aside0.mk hb
  have HLF := Aside0.mk hlf
  clear h hl hb hlf
  go_enter Try.func33, Try.ntmps33
  go_wp2_with fail
  have HXz : Aside0 ((w.alloc (.cells #[.int .u8 0, .int .u8 0, .int .u8 0, .int .u8 0, .int .u8 0, .int .u8 0, .int .u8 0, .int .u8 0, .int .i64 0] 87)).heap[w.heap.size]? = some (.cells #[.int .u8 0, .int .u8 0, .int .u8 0, .int .u8 0, .int .u8 0, .int .u8 0, .int .u8 0, .int .u8 0, .int .i64 0] 87 (0, 0))) := ⟨blk_new _ _⟩
  have HBB : Aside0 (Below w.heap.size w (w.alloc (.cells #[.int .u8 0, .int .u8 0, .int .u8 0, .int .u8 0, .int .u8 0, .int .u8 0, .int .u8 0, .int .u8 0, .int .i64 0] 87))) := ⟨below_alloc (Below.refl _ _) _⟩
  have HQ := Aside0.mk (H.out.below HBB.out)
  generalize w.alloc (.cells #[.int .u8 0, .int .u8 0, .int .u8 0, .int .u8 0, .int .u8 0, .int .u8 0, .int .u8 0, .int .u8 0, .int .i64 0] 87) = wB at HXz HBB HQ ⊢
  refine (least_calls base g ord A cap l wB HQ.out HL.out).mono ?_
  rintro e w1 ⟨rfl, hb⟩
  have HQ1 := Aside0.mk (HQ.out.below hb)
  have HX1 := Aside0.mk ((hb.block _ (blk_lt HXz.out)).trans HXz.out)
  have HB1 := Aside0.mk (below_step HBB.out hb)
  clear hb HQ HXz HBB
  rw [HLF.out]
  have hm1 : idxI none = -1 := rfl
  rw [hm1]
  clear hm1
  go_wp2_with ((with_reducible refine gate_store (t := 87) (p := 2) (v := .tmp 10) rfl ?_); refine wpList_store_row rfl 87 (.tmp 2) (.tmp 10) rfl w.heap.size #[.int .u8 0, .int .u8 0, .int .u8 0, .int .u8 0, .int .u8 0, .int .u8 0, .int .u8 0, .int .u8 0, .int .i64 0] rfl rfl _ _ HX1.out infoRI' rfl (by simp [Value.oneCell']) ?_; have hs := chg_row (cs := #[.int .u8 0, .int .u8 0, .int .u8 0, .int .u8 0, .int .u8 0, .int .u8 0, .int .u8 0, .int .u8 0, .int .i64 0]) HX1.out; have HX2 := Aside0.mk hs.1; have HB2 := Aside0.mk (HB1.out.trans (hs.2.below HB1.out.size (fun k hk => by have e : k = w.heap.size := hk; omega))); have HQ2 := Aside0.mk (HQ1.out.below0 (fun k hk => hs.2.block k (HQ1.out.fp_lt k hk) (fun e => by have e' : k = w.heap.size := e; have := H.out.fp_lt k hk; omega))); clear hs; generalize w1.setRow w.heap.size #[.int .u8 0, .int .u8 0, .int .u8 0, .int .u8 0, .int .u8 0, .int .u8 0, .int .u8 0, .int .u8 0, .int .i64 0] = w2 at HX2 HB2 HQ2 ⊢)
  refine bodyPost_ret (results_list (rs := [.cell 2 87, .tmp 3]) rfl (by simp) (.cell w.heap.size 87 _ (0, 0) _ rfl HX2.out Try.underlying87 rfl infoRI' (.tmp .nil))) rfl ?_
  exact ⟨rfl, HQ2.out, HB2.out⟩
set_option maxHeartbeats 8000000 in
set_option maxRecDepth 100000 in
theorem rpop_calls (base g : Nat) (ord : Int) (A : Option Addr) (cap : Nat) (l : List Rt) {b : Nat} (w : World) (h : RefAt w base g ord A cap l) (hl : l.length ≤ 4000000000000) (hb : base ≤ w.heap.size) (hlf : leastF (HeapII.ordK ord) (fun j => (rat l j).2) l.length = some b) :
    Calls Try.prog 33 #[.pointer (some ⟨g, 0, none⟩)] w fun e w' => e = .returned (.tuple #[.agg #[.int .u8 (rat l b).1.1, .int .u8 (rat l b).1.2.1, .int .u8 (rat l b).1.2.2.1, .int .u8 (rat l b).1.2.2.2.1, .int .u8 (rat l b).1.2.2.2.2.1, .int .u8 (rat l b).1.2.2.2.2.2.1, .int .u8 (rat l b).1.2.2.2.2.2.2.1, .int .u8 (rat l b).1.2.2.2.2.2.2.2, .int .i64 (rat l b).2], .bool true]) ∧ ∃ A' cap', RefAt w' base g ord A' cap' (l.eraseIdx b) ∧ Chg (· = g) w w' ∧ ∀ a, A' = some a → w.heap.size ≤ a.block := by
  have H := Aside0.mk h
  have HL := Aside0.mk hl
  have HBS := Aside0.mk hb
  have HLF := Aside0.mk hlf
  clear h hl hb hlf
  go_enter Try.func33, Try.ntmps33
  go_wp2_with fail
  have HXz : Aside0 ((w.alloc (.cells #[.int .u8 0, .int .u8 0, .int .u8 0, .int .u8 0, .int .u8 0, .int .u8 0, .int .u8 0, .int .u8 0, .int .i64 0] 87)).heap[w.heap.size]? = some (.cells #[.int .u8 0, .int .u8 0, .int .u8 0, .int .u8 0, .int .u8 0, .int .u8 0, .int .u8 0, .int .u8 0, .int .i64 0] 87 (0, 0))) := ⟨blk_new _ _⟩
  have HBB : Aside0 (Below w.heap.size w (w.alloc (.cells #[.int .u8 0, .int .u8 0, .int .u8 0, .int .u8 0, .int .u8 0, .int .u8 0, .int .u8 0, .int .u8 0, .int .i64 0] 87))) := ⟨below_alloc (Below.refl _ _) _⟩
  have HQ := Aside0.mk (H.out.below HBB.out)
  generalize w.alloc (.cells #[.int .u8 0, .int .u8 0, .int .u8 0, .int .u8 0, .int .u8 0, .int .u8 0, .int .u8 0, .int .u8 0, .int .i64 0] 87) = wB at HXz HBB HQ ⊢
  refine (least_calls base g ord A cap l wB HQ.out HL.out).mono ?_
  rintro e w1 ⟨rfl, hb⟩
  have HQ1 := Aside0.mk (HQ.out.below hb)
  have HX1 := Aside0.mk ((hb.block _ (blk_lt HXz.out)).trans HXz.out)
  have HB1 := Aside0.mk (below_step HBB.out hb)
  clear hb HQ HXz HBB
  rw [HLF.out]
  have hm1 : idxI (some b) = (b : Int) := rfl
  rw [hm1]
  have hbl := leastF_lt HLF.out
  have HBL := Aside0.mk hbl
  have hb0 : decide ((b : Int) < 0) = false := decide_eq_false (by omega)
  have hbb : (b : Int) < l.length := by omega
  obtain ⟨gl, hA⟩ := HQ1.out.gl (by omega)
  subst hA
  have hc1 : w1.cell? ⟨g, 1, none⟩ = some (.slice (some ⟨gl, 0, none⟩) l.length cap) := (blk_cell HQ1.out.blk 1).trans rfl
  have HC := Aside0.mk (rcells HQ1.out.row hbl)
  obtain ⟨y, hy⟩ : ∃ y, y = rat l b := ⟨_, rfl⟩
  rw [← hy] at HC
  have HY := Aside0.mk hy
  obtain ⟨hy0, hy1, hy2, hy3, hy4, hy5, hy6, hy7, hy8⟩ := HC.out
  clear hm1 hy hbl HC
  have HV : Aside0 ((w1.alloc (.cells #[.int .u8 0, .int .u8 0, .int .u8 0, .int .u8 0, .int .u8 0, .int .u8 0, .int .u8 0, .int .u8 0, .int .i64 0] 87)).heap[w1.heap.size]? = some (.cells #[.int .u8 0, .int .u8 0, .int .u8 0, .int .u8 0, .int .u8 0, .int .u8 0, .int .u8 0, .int .u8 0, .int .i64 0] 87 (0, 0))) := ⟨blk_new _ _⟩
  have HX1' := Aside0.mk (blk_alloc HX1.out (.cells #[.int .u8 0, .int .u8 0, .int .u8 0, .int .u8 0, .int .u8 0, .int .u8 0, .int .u8 0, .int .u8 0, .int .i64 0] 87))
  have HB1' := Aside0.mk (below_alloc HB1.out (.cells #[.int .u8 0, .int .u8 0, .int .u8 0, .int .u8 0, .int .u8 0, .int .u8 0, .int .u8 0, .int .u8 0, .int .i64 0] 87))
  have hbq := below_alloc (Below.refl w1.heap.size w1) (.cells #[.int .u8 0, .int .u8 0, .int .u8 0, .int .u8 0, .int .u8 0, .int .u8 0, .int .u8 0, .int .u8 0, .int .i64 0] 87)
  have HQ1' := Aside0.mk (HQ1.out.below hbq)
  have HW1 : Aside0 (w.heap.size < w1.heap.size) := ⟨blk_lt HX1.out⟩
  clear hbq HX1 HB1 HQ1
  go_wp2_with ((with_reducible refine gate_store (t := 87) (p := 5) (v := .tmp 17) rfl ?_); refine wpList_store_row rfl 87 (.tmp 5) (.tmp 17) rfl w1.heap.size #[.int .u8 y.1.1, .int .u8 y.1.2.1, .int .u8 y.1.2.2.1, .int .u8 y.1.2.2.2.1, .int .u8 y.1.2.2.2.2.1, .int .u8 y.1.2.2.2.2.2.1, .int .u8 y.1.2.2.2.2.2.2.1, .int .u8 y.1.2.2.2.2.2.2.2, .int .i64 y.2] rfl rfl _ _ HV.out infoRI' rfl (by simp [Value.oneCell']) ?_; have hs := chg_row (cs := #[.int .u8 y.1.1, .int .u8 y.1.2.1, .int .u8 y.1.2.2.1, .int .u8 y.1.2.2.2.1, .int .u8 y.1.2.2.2.2.1, .int .u8 y.1.2.2.2.2.2.1, .int .u8 y.1.2.2.2.2.2.2.1, .int .u8 y.1.2.2.2.2.2.2.2, .int .i64 y.2]) HV.out; have HV2 := Aside0.mk hs.1; have HX2 := Aside0.mk (hs.2.heap HX1'.out (fun e => by have e' : w.heap.size = w1.heap.size := e; have := HW1.out; omega)); have HB2 := Aside0.mk (HB1'.out.trans (hs.2.below HB1'.out.size (fun k hk => by have e : k = w1.heap.size := hk; have := HW1.out; omega))); have HQ2 := Aside0.mk (HQ1'.out.below0 (fun k hk => hs.2.block k (HQ1'.out.fp_lt k hk) (fun e => by have e' : k = w1.heap.size := e; have := H.out.fp_lt k hk; have := HW1.out; omega))); clear HV HX1' HB1' HQ1'; clear hs; generalize (w1.alloc (.cells #[.int .u8 0, .int .u8 0, .int .u8 0, .int .u8 0, .int .u8 0, .int .u8 0, .int .u8 0, .int .u8 0, .int .i64 0] 87)).setRow w1.heap.size #[.int .u8 y.1.1, .int .u8 y.1.2.1, .int .u8 y.1.2.2.1, .int .u8 y.1.2.2.2.1, .int .u8 y.1.2.2.2.2.1, .int .u8 y.1.2.2.2.2.2.1, .int .u8 y.1.2.2.2.2.2.2.1, .int .u8 y.1.2.2.2.2.2.2.2, .int .i64 y.2] = w2 at HV2 HX2 HB2 HQ2 ⊢)
  refine (out_calls base g ord _ cap l b w2 HQ2.out HL.out HBL.out (Nat.le_trans HBS.out HB2.out.size)).mono ?_
  rintro e w3 ⟨rfl, A3, cap3, h3, hc, ha⟩
  have HQ3 := Aside0.mk h3
  have HC3 := Aside0.mk ((Chg.of_below HB2.out).trans hc)
  have HGL : Aside0 (g < w.heap.size) := ⟨blk_lt H.out.blk⟩
  have HX3 := Aside0.mk (hc.heap HX2.out (fun e => by have e' : w.heap.size = g := e; have := HGL.out; omega))
  have HV3 := Aside0.mk (hc.heap HV2.out (fun e => by have e' : w1.heap.size = g := e; have := HGL.out; have := HW1.out; omega))
  have HA3 : Aside0 (∀ a, A3 = some a → w.heap.size < a.block) := ⟨fun a h => Nat.lt_of_lt_of_le (blk_lt HX2.out) (ha a h)⟩
  clear h3 hc ha HQ2 HB2 HX2 HV2 hy0 hy1 hy2 hy3 hy4 hy5 hy6 hy7 hy8
  have hv0 : w3.cell? ⟨w1.heap.size, 0, none⟩ = some (.int .u8 y.1.1) := (blk_cell HV3.out 0).trans rfl
  have hv1 : w3.cell? ⟨w1.heap.size, 1, none⟩ = some (.int .u8 y.1.2.1) := (blk_cell HV3.out 1).trans rfl
  have hv2 : w3.cell? ⟨w1.heap.size, 2, none⟩ = some (.int .u8 y.1.2.2.1) := (blk_cell HV3.out 2).trans rfl
  have hv3 : w3.cell? ⟨w1.heap.size, 3, none⟩ = some (.int .u8 y.1.2.2.2.1) := (blk_cell HV3.out 3).trans rfl
  have hv4 : w3.cell? ⟨w1.heap.size, 4, none⟩ = some (.int .u8 y.1.2.2.2.2.1) := (blk_cell HV3.out 4).trans rfl
  have hv5 : w3.cell? ⟨w1.heap.size, 5, none⟩ = some (.int .u8 y.1.2.2.2.2.2.1) := (blk_cell HV3.out 5).trans rfl
  have hv6 : w3.cell? ⟨w1.heap.size, 6, none⟩ = some (.int .u8 y.1.2.2.2.2.2.2.1) := (blk_cell HV3.out 6).trans rfl
  have hv7 : w3.cell? ⟨w1.heap.size, 7, none⟩ = some (.int .u8 y.1.2.2.2.2.2.2.2) := (blk_cell HV3.out 7).trans rfl
  have hv8 : w3.cell? ⟨w1.heap.size, 8, none⟩ = some (.int .i64 y.2) := (blk_cell HV3.out 8).trans rfl
  go_wp2_with ((with_reducible refine gate_store (t := 87) (p := 2) (v := .tmp 21) rfl ?_); refine wpList_store_row rfl 87 (.tmp 2) (.tmp 21) rfl w.heap.size #[.int .u8 y.1.1, .int .u8 y.1.2.1, .int .u8 y.1.2.2.1, .int .u8 y.1.2.2.2.1, .int .u8 y.1.2.2.2.2.1, .int .u8 y.1.2.2.2.2.2.1, .int .u8 y.1.2.2.2.2.2.2.1, .int .u8 y.1.2.2.2.2.2.2.2, .int .i64 y.2] rfl rfl _ _ HX3.out infoRI' rfl (by simp [Value.oneCell']) ?_; have hs := chg_row (cs := #[.int .u8 y.1.1, .int .u8 y.1.2.1, .int .u8 y.1.2.2.1, .int .u8 y.1.2.2.2.1, .int .u8 y.1.2.2.2.2.1, .int .u8 y.1.2.2.2.2.2.1, .int .u8 y.1.2.2.2.2.2.2.1, .int .u8 y.1.2.2.2.2.2.2.2, .int .i64 y.2]) HX3.out; have HX4 := Aside0.mk hs.1; have HQ4 := Aside0.mk (HQ3.out.below0 (fun k hk => hs.2.block k (HQ3.out.fp_lt k hk) (fun e => pop_ne' HGL.out HA3.out e hk))); have HC4 := Aside0.mk (HC3.out.then hs.2 (fun k hk => Or.inr (by have e : k = w.heap.size := hk; omega))); clear hs; generalize w3.setRow w.heap.size #[.int .u8 y.1.1, .int .u8 y.1.2.1, .int .u8 y.1.2.2.1, .int .u8 y.1.2.2.2.1, .int .u8 y.1.2.2.2.2.1, .int .u8 y.1.2.2.2.2.2.1, .int .u8 y.1.2.2.2.2.2.2.1, .int .u8 y.1.2.2.2.2.2.2.2, .int .i64 y.2] = w4 at HX4 HQ4 HC4 ⊢)
  refine bodyPost_ret (results_list (rs := [.cell 2 87, .tmp 3]) rfl (by simp) (.cell w.heap.size 87 _ (0, 0) _ rfl HX4.out Try.underlying87 rfl infoRI' (.tmp .nil))) rfl ?_
  rw [← HY.out]
  first | exact ⟨rfl, A3, ⟨_, HQ4.out⟩, HC4.out, fun a h => Nat.le_of_lt (HA3.out a h)⟩ | exact ⟨rfl, A3, _, HQ4.out, HC4.out, fun a h => Nat.le_of_lt (HA3.out a h)⟩
set_option maxHeartbeats 8000000 in
set_option maxRecDepth 100000 in
theorem rrank_none (base g : Nat) (ord : Int) (A : Option Addr) (cap : Nat) (l : List Rt) (key : Kt) (w : World) (h : RefAt w base g ord A cap l) (hl : l.length ≤ 4000000000000) (hb : base ≤ w.heap.size) (hi : idxR l key = none) :
    Calls Try.prog 39 #[.pointer (some ⟨g, 0, none⟩), .agg #[.int .u8 key.1, .int .u8 key.2.1, .int .u8 key.2.2.1, .int .u8 key.2.2.2.1, .int .u8 key.2.2.2.2.1, .int .u8 key.2.2.2.2.2.1, .int .u8 key.2.2.2.2.2.2.1, .int .u8 key.2.2.2.2.2.2.2]] w fun e w' => e = .returned (.tuple #[.int .i64 0, .bool false]) ∧ Below w.heap.size w w' := by
  have H := Aside0.mk h
  have HL := Aside0.mk hl
  have HBS := Aside0.mk hb
  clear h hl hb
  go_enter Try.func39, Try.ntmps39
  go_upto_region 1 with (fail)
  have HXk : Aside0 ((w.alloc (.cells #[.int .u8 key.1, .int .u8 key.2.1, .int .u8 key.2.2.1, .int .u8 key.2.2.2.1, .int .u8 key.2.2.2.2.1, .int .u8 key.2.2.2.2.2.1, .int .u8 key.2.2.2.2.2.2.1, .int .u8 key.2.2.2.2.2.2.2] 33)).heap[w.heap.size]? = some (.cells #[.int .u8 key.1, .int .u8 key.2.1, .int .u8 key.2.2.1, .int .u8 key.2.2.2.1, .int .u8 key.2.2.2.2.1, .int .u8 key.2.2.2.2.2.1, .int .u8 key.2.2.2.2.2.2.1, .int .u8 key.2.2.2.2.2.2.2] 33 (0, 0))) := ⟨blk_new _ _⟩
  have HBB : Aside0 (Below w.heap.size w (w.alloc (.cells #[.int .u8 key.1, .int .u8 key.2.1, .int .u8 key.2.2.1, .int .u8 key.2.2.2.1, .int .u8 key.2.2.2.2.1, .int .u8 key.2.2.2.2.2.1, .int .u8 key.2.2.2.2.2.2.1, .int .u8 key.2.2.2.2.2.2.2] 33))) := ⟨below_alloc (Below.refl _ _) _⟩
  have HQ := Aside0.mk (H.out.below HBB.out)
  generalize w.alloc (.cells #[.int .u8 key.1, .int .u8 key.2.1, .int .u8 key.2.2.1, .int .u8 key.2.2.2.1, .int .u8 key.2.2.2.2.1, .int .u8 key.2.2.2.2.2.1, .int .u8 key.2.2.2.2.2.2.1, .int .u8 key.2.2.2.2.2.2.2] 33) = wB at HXk HBB HQ ⊢
  have hk0 : wB.cell? ⟨w.heap.size, 0, none⟩ = some (.int .u8 key.1) := (blk_cell HXk.out 0).trans rfl
  have hk1 : wB.cell? ⟨w.heap.size, 1, none⟩ = some (.int .u8 key.2.1) := (blk_cell HXk.out 1).trans rfl
  have hk2 : wB.cell? ⟨w.heap.size, 2, none⟩ = some (.int .u8 key.2.2.1) := (blk_cell HXk.out 2).trans rfl
  have hk3 : wB.cell? ⟨w.heap.size, 3, none⟩ = some (.int .u8 key.2.2.2.1) := (blk_cell HXk.out 3).trans rfl
  have hk4 : wB.cell? ⟨w.heap.size, 4, none⟩ = some (.int .u8 key.2.2.2.2.1) := (blk_cell HXk.out 4).trans rfl
  have hk5 : wB.cell? ⟨w.heap.size, 5, none⟩ = some (.int .u8 key.2.2.2.2.2.1) := (blk_cell HXk.out 5).trans rfl
  have hk6 : wB.cell? ⟨w.heap.size, 6, none⟩ = some (.int .u8 key.2.2.2.2.2.2.1) := (blk_cell HXk.out 6).trans rfl
  have hk7 : wB.cell? ⟨w.heap.size, 7, none⟩ = some (.int .u8 key.2.2.2.2.2.2.2) := (blk_cell HXk.out 7).trans rfl
  go_wp2_with fail
  refine (at_calls base g ord A cap l key wB HQ.out HL.out).mono ?_
  rintro e w1 ⟨rfl, hb⟩
  rw [hi]
  have HIX := Aside0.mk hi
  have HQ1 := Aside0.mk (HQ.out.below hb)
  have HX1 := Aside0.mk ((hb.block _ (blk_lt HXk.out)).trans HXk.out)
  have HB1 := Aside0.mk (below_step HBB.out hb)
  clear hb hi HQ HXk HBB hk0 hk1 hk2 hk3 hk4 hk5 hk6 hk7
  have hm1 : idxI none = -1 := rfl
  rw [hm1]
  clear hm1
  go_wp2
  go_ret2
  exact ⟨rfl, HB1.out⟩
set_option maxHeartbeats 8000000 in
set_option maxRecDepth 100000 in
theorem rrank_calls (base g : Nat) (ord : Int) (A : Option Addr) (cap : Nat) (l : List Rt) {i : Nat} (key : Kt) (w : World) (h : RefAt w base g ord A cap l) (hl : l.length ≤ 4000000000000) (hb : base ≤ w.heap.size) (hi : idxR l key = some i) :
    Calls Try.prog 39 #[.pointer (some ⟨g, 0, none⟩), .agg #[.int .u8 key.1, .int .u8 key.2.1, .int .u8 key.2.2.1, .int .u8 key.2.2.2.1, .int .u8 key.2.2.2.2.1, .int .u8 key.2.2.2.2.2.1, .int .u8 key.2.2.2.2.2.2.1, .int .u8 key.2.2.2.2.2.2.2]] w fun e w' => e = .returned (.tuple #[.int .i64 (rat l i).2, .bool true]) ∧ Below w.heap.size w w' := by
  have H := Aside0.mk h
  have HL := Aside0.mk hl
  have HBS := Aside0.mk hb
  clear h hl hb
  go_enter Try.func39, Try.ntmps39
  go_upto_region 1 with (fail)
  have HXk : Aside0 ((w.alloc (.cells #[.int .u8 key.1, .int .u8 key.2.1, .int .u8 key.2.2.1, .int .u8 key.2.2.2.1, .int .u8 key.2.2.2.2.1, .int .u8 key.2.2.2.2.2.1, .int .u8 key.2.2.2.2.2.2.1, .int .u8 key.2.2.2.2.2.2.2] 33)).heap[w.heap.size]? = some (.cells #[.int .u8 key.1, .int .u8 key.2.1, .int .u8 key.2.2.1, .int .u8 key.2.2.2.1, .int .u8 key.2.2.2.2.1, .int .u8 key.2.2.2.2.2.1, .int .u8 key.2.2.2.2.2.2.1, .int .u8 key.2.2.2.2.2.2.2] 33 (0, 0))) := ⟨blk_new _ _⟩
  have HBB : Aside0 (Below w.heap.size w (w.alloc (.cells #[.int .u8 key.1, .int .u8 key.2.1, .int .u8 key.2.2.1, .int .u8 key.2.2.2.1, .int .u8 key.2.2.2.2.1, .int .u8 key.2.2.2.2.2.1, .int .u8 key.2.2.2.2.2.2.1, .int .u8 key.2.2.2.2.2.2.2] 33))) := ⟨below_alloc (Below.refl _ _) _⟩
  have HQ := Aside0.mk (H.out.below HBB.out)
  generalize w.alloc (.cells #[.int .u8 key.1, .int .u8 key.2.1, .int .u8 key.2.2.1, .int .u8 key.2.2.2.1, .int .u8 key.2.2.2.2.1, .int .u8 key.2.2.2.2.2.1, .int .u8 key.2.2.2.2.2.2.1, .int .u8 key.2.2.2.2.2.2.2] 33) = wB at HXk HBB HQ ⊢
  have hk0 : wB.cell? ⟨w.heap.size, 0, none⟩ = some (.int .u8 key.1) := (blk_cell HXk.out 0).trans rfl
  have hk1 : wB.cell? ⟨w.heap.size, 1, none⟩ = some (.int .u8 key.2.1) := (blk_cell HXk.out 1).trans rfl
  have hk2 : wB.cell? ⟨w.heap.size, 2, none⟩ = some (.int .u8 key.2.2.1) := (blk_cell HXk.out 2).trans rfl
  have hk3 : wB.cell? ⟨w.heap.size, 3, none⟩ = some (.int .u8 key.2.2.2.1) := (blk_cell HXk.out 3).trans rfl
  have hk4 : wB.cell? ⟨w.heap.size, 4, none⟩ = some (.int .u8 key.2.2.2.2.1) := (blk_cell HXk.out 4).trans rfl
  have hk5 : wB.cell? ⟨w.heap.size, 5, none⟩ = some (.int .u8 key.2.2.2.2.2.1) := (blk_cell HXk.out 5).trans rfl
  have hk6 : wB.cell? ⟨w.heap.size, 6, none⟩ = some (.int .u8 key.2.2.2.2.2.2.1) := (blk_cell HXk.out 6).trans rfl
  have hk7 : wB.cell? ⟨w.heap.size, 7, none⟩ = some (.int .u8 key.2.2.2.2.2.2.2) := (blk_cell HXk.out 7).trans rfl
  go_wp2_with fail
  refine (at_calls base g ord A cap l key wB HQ.out HL.out).mono ?_
  rintro e w1 ⟨rfl, hb⟩
  rw [hi]
  have HIX := Aside0.mk hi
  have HQ1 := Aside0.mk (HQ.out.below hb)
  have HX1 := Aside0.mk ((hb.block _ (blk_lt HXk.out)).trans HXk.out)
  have HB1 := Aside0.mk (below_step HBB.out hb)
  clear hb hi HQ HXk HBB hk0 hk1 hk2 hk3 hk4 hk5 hk6 hk7
  have hm1 : idxI (some i) = (i : Int) := rfl
  rw [hm1]
  clear hm1
  have hil := (idxR_at HIX.out).1
  have HIL := Aside0.mk hil
  have hi0 : decide ((i : Int) < 0) = false := decide_eq_false (by omega)
  have hi1 : decide (0 ≤ (i : Int)) = true := decide_eq_true (by omega)
  have hill : (i : Int) < l.length := by omega
  clear hil
  obtain ⟨gl, hA⟩ := HQ1.out.gl (by omega)
  subst hA
  have hc1 : w1.cell? ⟨g, 1, none⟩ = some (.slice (some ⟨gl, 0, none⟩) l.length cap) := (blk_cell HQ1.out.blk 1).trans rfl
  have hr := (rcells HQ1.out.row HIL.out).2.2.2.2.2.2.2.2
  go_wp2
  go_ret2
  exact ⟨rfl, HB1.out⟩
set_option maxHeartbeats 8000000 in
set_option maxRecDepth 100000 in
theorem rdrop_none (base g : Nat) (ord : Int) (A : Option Addr) (cap : Nat) (l : List Rt) (key : Kt) (w : World) (h : RefAt w base g ord A cap l) (hl : l.length ≤ 4000000000000) (hb : base ≤ w.heap.size) (hi : idxR l key = none) :
    Calls Try.prog 35 #[.pointer (some ⟨g, 0, none⟩), .agg #[.int .u8 key.1, .int .u8 key.2.1, .int .u8 key.2.2.1, .int .u8 key.2.2.2.1, .int .u8 key.2.2.2.2.1, .int .u8 key.2.2.2.2.2.1, .int .u8 key.2.2.2.2.2.2.1, .int .u8 key.2.2.2.2.2.2.2]] w fun e w' => e = .returned (.bool false) ∧ Below w.heap.size w w' := by
  have H := Aside0.mk h
  have HL := Aside0.mk hl
  have HBS := Aside0.mk hb
  clear h hl hb
  go_enter Try.func35, Try.ntmps35
  go_upto_region 1 with (fail)
  have HXk : Aside0 ((w.alloc (.cells #[.int .u8 key.1, .int .u8 key.2.1, .int .u8 key.2.2.1, .int .u8 key.2.2.2.1, .int .u8 key.2.2.2.2.1, .int .u8 key.2.2.2.2.2.1, .int .u8 key.2.2.2.2.2.2.1, .int .u8 key.2.2.2.2.2.2.2] 33)).heap[w.heap.size]? = some (.cells #[.int .u8 key.1, .int .u8 key.2.1, .int .u8 key.2.2.1, .int .u8 key.2.2.2.1, .int .u8 key.2.2.2.2.1, .int .u8 key.2.2.2.2.2.1, .int .u8 key.2.2.2.2.2.2.1, .int .u8 key.2.2.2.2.2.2.2] 33 (0, 0))) := ⟨blk_new _ _⟩
  have HBB : Aside0 (Below w.heap.size w (w.alloc (.cells #[.int .u8 key.1, .int .u8 key.2.1, .int .u8 key.2.2.1, .int .u8 key.2.2.2.1, .int .u8 key.2.2.2.2.1, .int .u8 key.2.2.2.2.2.1, .int .u8 key.2.2.2.2.2.2.1, .int .u8 key.2.2.2.2.2.2.2] 33))) := ⟨below_alloc (Below.refl _ _) _⟩
  have HQ := Aside0.mk (H.out.below HBB.out)
  generalize w.alloc (.cells #[.int .u8 key.1, .int .u8 key.2.1, .int .u8 key.2.2.1, .int .u8 key.2.2.2.1, .int .u8 key.2.2.2.2.1, .int .u8 key.2.2.2.2.2.1, .int .u8 key.2.2.2.2.2.2.1, .int .u8 key.2.2.2.2.2.2.2] 33) = wB at HXk HBB HQ ⊢
  have hk0 : wB.cell? ⟨w.heap.size, 0, none⟩ = some (.int .u8 key.1) := (blk_cell HXk.out 0).trans rfl
  have hk1 : wB.cell? ⟨w.heap.size, 1, none⟩ = some (.int .u8 key.2.1) := (blk_cell HXk.out 1).trans rfl
  have hk2 : wB.cell? ⟨w.heap.size, 2, none⟩ = some (.int .u8 key.2.2.1) := (blk_cell HXk.out 2).trans rfl
  have hk3 : wB.cell? ⟨w.heap.size, 3, none⟩ = some (.int .u8 key.2.2.2.1) := (blk_cell HXk.out 3).trans rfl
  have hk4 : wB.cell? ⟨w.heap.size, 4, none⟩ = some (.int .u8 key.2.2.2.2.1) := (blk_cell HXk.out 4).trans rfl
  have hk5 : wB.cell? ⟨w.heap.size, 5, none⟩ = some (.int .u8 key.2.2.2.2.2.1) := (blk_cell HXk.out 5).trans rfl
  have hk6 : wB.cell? ⟨w.heap.size, 6, none⟩ = some (.int .u8 key.2.2.2.2.2.2.1) := (blk_cell HXk.out 6).trans rfl
  have hk7 : wB.cell? ⟨w.heap.size, 7, none⟩ = some (.int .u8 key.2.2.2.2.2.2.2) := (blk_cell HXk.out 7).trans rfl
  go_wp2_with fail
  refine (at_calls base g ord A cap l key wB HQ.out HL.out).mono ?_
  rintro e w1 ⟨rfl, hb⟩
  rw [hi]
  have HIX := Aside0.mk hi
  have HQ1 := Aside0.mk (HQ.out.below hb)
  have HX1 := Aside0.mk ((hb.block _ (blk_lt HXk.out)).trans HXk.out)
  have HB1 := Aside0.mk (below_step HBB.out hb)
  clear hb hi HQ HXk HBB hk0 hk1 hk2 hk3 hk4 hk5 hk6 hk7
  have hm1 : idxI none = -1 := rfl
  rw [hm1]
  clear hm1
  go_wp2
  go_ret
  exact ⟨rfl, HB1.out⟩
set_option maxHeartbeats 8000000 in
set_option maxRecDepth 100000 in
theorem rdrop_calls (base g : Nat) (ord : Int) (A : Option Addr) (cap : Nat) (l : List Rt) {i : Nat} (key : Kt) (w : World) (h : RefAt w base g ord A cap l) (hl : l.length ≤ 4000000000000) (hb : base ≤ w.heap.size) (hi : idxR l key = some i) :
    Calls Try.prog 35 #[.pointer (some ⟨g, 0, none⟩), .agg #[.int .u8 key.1, .int .u8 key.2.1, .int .u8 key.2.2.1, .int .u8 key.2.2.2.1, .int .u8 key.2.2.2.2.1, .int .u8 key.2.2.2.2.2.1, .int .u8 key.2.2.2.2.2.2.1, .int .u8 key.2.2.2.2.2.2.2]] w fun e w' => e = .returned (.bool true) ∧ ∃ A' cap', RefAt w' base g ord A' cap' (l.eraseIdx i) ∧ Chg (· = g) w w' ∧ ∀ a, A' = some a → w.heap.size ≤ a.block := by
  have H := Aside0.mk h
  have HL := Aside0.mk hl
  have HBS := Aside0.mk hb
  clear h hl hb
  go_enter Try.func35, Try.ntmps35
  go_upto_region 1 with (fail)
  have HXk : Aside0 ((w.alloc (.cells #[.int .u8 key.1, .int .u8 key.2.1, .int .u8 key.2.2.1, .int .u8 key.2.2.2.1, .int .u8 key.2.2.2.2.1, .int .u8 key.2.2.2.2.2.1, .int .u8 key.2.2.2.2.2.2.1, .int .u8 key.2.2.2.2.2.2.2] 33)).heap[w.heap.size]? = some (.cells #[.int .u8 key.1, .int .u8 key.2.1, .int .u8 key.2.2.1, .int .u8 key.2.2.2.1, .int .u8 key.2.2.2.2.1, .int .u8 key.2.2.2.2.2.1, .int .u8 key.2.2.2.2.2.2.1, .int .u8 key.2.2.2.2.2.2.2] 33 (0, 0))) := ⟨blk_new _ _⟩
  have HBB : Aside0 (Below w.heap.size w (w.alloc (.cells #[.int .u8 key.1, .int .u8 key.2.1, .int .u8 key.2.2.1, .int .u8 key.2.2.2.1, .int .u8 key.2.2.2.2.1, .int .u8 key.2.2.2.2.2.1, .int .u8 key.2.2.2.2.2.2.1, .int .u8 key.2.2.2.2.2.2.2] 33))) := ⟨below_alloc (Below.refl _ _) _⟩
  have HQ := Aside0.mk (H.out.below HBB.out)
  generalize w.alloc (.cells #[.int .u8 key.1, .int .u8 key.2.1, .int .u8 key.2.2.1, .int .u8 key.2.2.2.1, .int .u8 key.2.2.2.2.1, .int .u8 key.2.2.2.2.2.1, .int .u8 key.2.2.2.2.2.2.1, .int .u8 key.2.2.2.2.2.2.2] 33) = wB at HXk HBB HQ ⊢
  have hk0 : wB.cell? ⟨w.heap.size, 0, none⟩ = some (.int .u8 key.1) := (blk_cell HXk.out 0).trans rfl
  have hk1 : wB.cell? ⟨w.heap.size, 1, none⟩ = some (.int .u8 key.2.1) := (blk_cell HXk.out 1).trans rfl
  have hk2 : wB.cell? ⟨w.heap.size, 2, none⟩ = some (.int .u8 key.2.2.1) := (blk_cell HXk.out 2).trans rfl
  have hk3 : wB.cell? ⟨w.heap.size, 3, none⟩ = some (.int .u8 key.2.2.2.1) := (blk_cell HXk.out 3).trans rfl
  have hk4 : wB.cell? ⟨w.heap.size, 4, none⟩ = some (.int .u8 key.2.2.2.2.1) := (blk_cell HXk.out 4).trans rfl
  have hk5 : wB.cell? ⟨w.heap.size, 5, none⟩ = some (.int .u8 key.2.2.2.2.2.1) := (blk_cell HXk.out 5).trans rfl
  have hk6 : wB.cell? ⟨w.heap.size, 6, none⟩ = some (.int .u8 key.2.2.2.2.2.2.1) := (blk_cell HXk.out 6).trans rfl
  have hk7 : wB.cell? ⟨w.heap.size, 7, none⟩ = some (.int .u8 key.2.2.2.2.2.2.2) := (blk_cell HXk.out 7).trans rfl
  go_wp2_with fail
  refine (at_calls base g ord A cap l key wB HQ.out HL.out).mono ?_
  rintro e w1 ⟨rfl, hb⟩
  rw [hi]
  have HIX := Aside0.mk hi
  have HQ1 := Aside0.mk (HQ.out.below hb)
  have HX1 := Aside0.mk ((hb.block _ (blk_lt HXk.out)).trans HXk.out)
  have HB1 := Aside0.mk (below_step HBB.out hb)
  clear hb hi HQ HXk HBB hk0 hk1 hk2 hk3 hk4 hk5 hk6 hk7
  have hm1 : idxI (some i) = (i : Int) := rfl
  rw [hm1]
  clear hm1
  have hil := (idxR_at HIX.out).1
  have HIL := Aside0.mk hil
  have hi0 : decide ((i : Int) < 0) = false := decide_eq_false (by omega)
  have hi1 : decide (0 ≤ (i : Int)) = true := decide_eq_true (by omega)
  have hill : (i : Int) < l.length := by omega
  clear hil
  go_wp2_with fail
  refine (out_calls base g ord A cap l i w1 HQ1.out HL.out HIL.out (Nat.le_trans HBS.out HB1.out.size)).mono ?_
  rintro e w2 ⟨rfl, A2, cap2, h2, hc, ha⟩
  have HQ2 := Aside0.mk h2
  have HC2 := Aside0.mk ((Chg.of_below HB1.out).trans hc)
  have HA2 : Aside0 (∀ a, A2 = some a → w.heap.size ≤ a.block) := ⟨fun a h => Nat.le_trans HB1.out.size (ha a h)⟩
  clear h2 hc ha HQ1 HX1 HB1
  go_wp2
  go_ret
  first | exact ⟨rfl, A2, ⟨_, HQ2.out⟩, HC2.out, HA2.out⟩ | exact ⟨rfl, A2, _, HQ2.out, HC2.out, HA2.out⟩
theorem rput_chg {w w4 w5 : World} {g : Nat} {A A2 : Option Addr} {n c : Nat} (h : Chg (rfp g A) w w4) (hg : w4.grownBy w5 (Value.slice A2 n c).ownBlock) (hA : ∀ a, A2 = some a → (∃ a0 : Addr, A = some a0 ∧ a.block = a0.block) ∨ w.heap.size ≤ a.block) : Chg (rfp g A) w w5 :=
  h.then (G := fun k => some k = (Value.slice A2 n c).ownBlock) (Chg.of_grown hg) (fun k hk => by
    cases A2 with
    | none => simp [Value.ownBlock] at hk
    | some a =>
      have e : k = a.block := by simpa [Value.ownBlock] using hk
      rcases hA a rfl with ⟨a0, h1, h2⟩ | h2
      · exact Or.inl (Or.inr ⟨a0, h1, e.trans h2⟩)
      · right; omega)
theorem rput_at {w w4 : World} {A A2 A9 : Option Addr} {n n' c c' : Nat} (hat : (Value.slice A9 n' c').ownBlock = (Value.slice A2 n c).ownBlock ∨ ∃ b, (Value.slice A9 n' c').ownBlock = some b ∧ w4.heap.size ≤ b) (hA : ∀ a, A2 = some a → (∃ a0 : Addr, A = some a0 ∧ a.block = a0.block) ∨ w.heap.size ≤ a.block) (hs : w.heap.size ≤ w4.heap.size) : ∀ a, A9 = some a → (∃ a0 : Addr, A = some a0 ∧ a.block = a0.block) ∨ w.heap.size ≤ a.block := by
  intro a ha
  subst ha
  rcases hat with h1 | ⟨b, h1, h2⟩
  · cases A2 with
    | none => simp [Value.ownBlock] at h1
    | some a2 =>
      have e : a.block = a2.block := by simpa [Value.ownBlock] using h1
      rcases hA a2 rfl with ⟨a0, h3, h4⟩ | h3
      · exact Or.inl ⟨a0, h3, e.trans h4⟩
      · right; omega
  · right
    have e : a.block = b := by simpa [Value.ownBlock] using h1
    omega
def rput.T6 : Bool × List (List Nat × List Nat) := (true, [([], []), ([], []), ([1], [1]), ([2], [2]), ([3], [3]), ([], []), ([], []), ([5, 6], [5, 6]), ([7], [7]), ([4, 8], [4, 8]), ([0, 0, 1, 2, 3, 4, 5, 6, 7, 8, 9], [0]), ([10, 0, 1, 2, 3, 4, 5, 6, 7, 8, 9], [10]), ([11, 9, 9, 0, 1, 2, 3, 4, 5, 6, 7, 8, 9], [9, 11])])
def rput.B6 : List Nat := [0, 0, 2, 6, 14, 0, 0, 96, 224, 510, 1023, 2047, 4095]
theorem rput.tab6 : rtab .any (opsOf Try.f31 6) = rput.T6 := by kernel_rfl
theorem rput.bits6 : waitsOk rput.T6.2 rput.B6 = true := by kernel_rfl
set_option maxHeartbeats 8000000 in
set_option maxRecDepth 100000 in
theorem rput_none (base g : Nat) (ord : Int) (A : Option Addr) (cap : Nat) (l : List Rt) (key : Kt) (rank : Int) (w : World) (h : RefAt w base g ord A cap l) (hl : l.length ≤ 4000000000000) (hb : base ≤ w.heap.size) (ho : ord = -1) :
    Calls Try.prog 31 #[.pointer (some ⟨g, 0, none⟩), .agg #[.int .u8 key.1, .int .u8 key.2.1, .int .u8 key.2.2.1, .int .u8 key.2.2.2.1, .int .u8 key.2.2.2.2.1, .int .u8 key.2.2.2.2.2.1, .int .u8 key.2.2.2.2.2.2.1, .int .u8 key.2.2.2.2.2.2.2], .int .i64 rank] w fun e w' => e = .returned (.int .i64 1) ∧ Below w.heap.size w w' := by
  have H := Aside0.mk h
  have HL := Aside0.mk hl
  have HBS := Aside0.mk hb
  clear h hl hb
  go_enter Try.func31, Try.ntmps31
  go_upto_region 1 with (fail)
  have HXk : Aside0 ((w.alloc (.cells #[.int .u8 key.1, .int .u8 key.2.1, .int .u8 key.2.2.1, .int .u8 key.2.2.2.1, .int .u8 key.2.2.2.2.1, .int .u8 key.2.2.2.2.2.1, .int .u8 key.2.2.2.2.2.2.1, .int .u8 key.2.2.2.2.2.2.2] 33)).heap[w.heap.size]? = some (.cells #[.int .u8 key.1, .int .u8 key.2.1, .int .u8 key.2.2.1, .int .u8 key.2.2.2.1, .int .u8 key.2.2.2.2.1, .int .u8 key.2.2.2.2.2.1, .int .u8 key.2.2.2.2.2.2.1, .int .u8 key.2.2.2.2.2.2.2] 33 (0, 0))) := ⟨blk_new _ _⟩
  have HBB : Aside0 (Below w.heap.size w (w.alloc (.cells #[.int .u8 key.1, .int .u8 key.2.1, .int .u8 key.2.2.1, .int .u8 key.2.2.2.1, .int .u8 key.2.2.2.2.1, .int .u8 key.2.2.2.2.2.1, .int .u8 key.2.2.2.2.2.2.1, .int .u8 key.2.2.2.2.2.2.2] 33))) := ⟨below_alloc (Below.refl _ _) _⟩
  have HQ := Aside0.mk (H.out.below HBB.out)
  generalize w.alloc (.cells #[.int .u8 key.1, .int .u8 key.2.1, .int .u8 key.2.2.1, .int .u8 key.2.2.2.1, .int .u8 key.2.2.2.2.1, .int .u8 key.2.2.2.2.2.1, .int .u8 key.2.2.2.2.2.2.1, .int .u8 key.2.2.2.2.2.2.2] 33) = wB at HXk HBB HQ ⊢
  subst ho
  have hc0 : wB.cell? ⟨g, 0, none⟩ = some (.int .i64 (-1)) := (blk_cell HQ.out.blk 0).trans rfl
  go_wp2
  go_ret
  exact ⟨rfl, HBB.out⟩
set_option maxHeartbeats 8000000 in
set_option maxRecDepth 100000 in
theorem rput_new (base g : Nat) (ord : Int) (A : Option Addr) (cap : Nat) (l : List Rt) (key : Kt) (rank : Int) (w : World) (h : RefAt w base g ord A cap l) (hl : l.length ≤ 4000000000000) (hb : base ≤ w.heap.size) (ho : ord ≠ -1) (hi : idxR l key = none) :
    Calls Try.prog 31 #[.pointer (some ⟨g, 0, none⟩), .agg #[.int .u8 key.1, .int .u8 key.2.1, .int .u8 key.2.2.1, .int .u8 key.2.2.2.1, .int .u8 key.2.2.2.2.1, .int .u8 key.2.2.2.2.2.1, .int .u8 key.2.2.2.2.2.2.1, .int .u8 key.2.2.2.2.2.2.2], .int .i64 rank] w fun e w' => e = .returned (.int .i64 0) ∧ ∃ A' cap', RefAt w' base g ord A' cap' (l ++ [(key, rank)]) ∧ Chg (rfp g A) w w' ∧ ∀ a, A' = some a → (∃ a0 : Addr, A = some a0 ∧ a.block = a0.block) ∨ w.heap.size ≤ a.block := by
  have H := Aside0.mk h
  have HL := Aside0.mk hl
  have HBS := Aside0.mk hb
  clear h hl hb
  go_enter Try.func31, Try.ntmps31
  go_upto_region 1 with (fail)
  have HXk : Aside0 ((w.alloc (.cells #[.int .u8 key.1, .int .u8 key.2.1, .int .u8 key.2.2.1, .int .u8 key.2.2.2.1, .int .u8 key.2.2.2.2.1, .int .u8 key.2.2.2.2.2.1, .int .u8 key.2.2.2.2.2.2.1, .int .u8 key.2.2.2.2.2.2.2] 33)).heap[w.heap.size]? = some (.cells #[.int .u8 key.1, .int .u8 key.2.1, .int .u8 key.2.2.1, .int .u8 key.2.2.2.1, .int .u8 key.2.2.2.2.1, .int .u8 key.2.2.2.2.2.1, .int .u8 key.2.2.2.2.2.2.1, .int .u8 key.2.2.2.2.2.2.2] 33 (0, 0))) := ⟨blk_new _ _⟩
  have HBB : Aside0 (Below w.heap.size w (w.alloc (.cells #[.int .u8 key.1, .int .u8 key.2.1, .int .u8 key.2.2.1, .int .u8 key.2.2.2.1, .int .u8 key.2.2.2.2.1, .int .u8 key.2.2.2.2.2.1, .int .u8 key.2.2.2.2.2.2.1, .int .u8 key.2.2.2.2.2.2.2] 33))) := ⟨below_alloc (Below.refl _ _) _⟩
  have HQ := Aside0.mk (H.out.below HBB.out)
  generalize w.alloc (.cells #[.int .u8 key.1, .int .u8 key.2.1, .int .u8 key.2.2.1, .int .u8 key.2.2.2.1, .int .u8 key.2.2.2.2.1, .int .u8 key.2.2.2.2.2.1, .int .u8 key.2.2.2.2.2.2.1, .int .u8 key.2.2.2.2.2.2.2] 33) = wB at HXk HBB HQ ⊢
  have hc0 : wB.cell? ⟨g, 0, none⟩ = some (.int .i64 ord) := (blk_cell HQ.out.blk 0).trans rfl
  have hon : (ord == -1) = false := beq_eq_false_iff_ne.mpr ho
  clear ho
  have hk0 : wB.cell? ⟨w.heap.size, 0, none⟩ = some (.int .u8 key.1) := (blk_cell HXk.out 0).trans rfl
  have hk1 : wB.cell? ⟨w.heap.size, 1, none⟩ = some (.int .u8 key.2.1) := (blk_cell HXk.out 1).trans rfl
  have hk2 : wB.cell? ⟨w.heap.size, 2, none⟩ = some (.int .u8 key.2.2.1) := (blk_cell HXk.out 2).trans rfl
  have hk3 : wB.cell? ⟨w.heap.size, 3, none⟩ = some (.int .u8 key.2.2.2.1) := (blk_cell HXk.out 3).trans rfl
  have hk4 : wB.cell? ⟨w.heap.size, 4, none⟩ = some (.int .u8 key.2.2.2.2.1) := (blk_cell HXk.out 4).trans rfl
  have hk5 : wB.cell? ⟨w.heap.size, 5, none⟩ = some (.int .u8 key.2.2.2.2.2.1) := (blk_cell HXk.out 5).trans rfl
  have hk6 : wB.cell? ⟨w.heap.size, 6, none⟩ = some (.int .u8 key.2.2.2.2.2.2.1) := (blk_cell HXk.out 6).trans rfl
  have hk7 : wB.cell? ⟨w.heap.size, 7, none⟩ = some (.int .u8 key.2.2.2.2.2.2.2) := (blk_cell HXk.out 7).trans rfl
  go_wp2_with fail
  refine (at_calls base g ord A cap l key wB HQ.out HL.out).mono ?_
  rintro e w1 ⟨rfl, hb⟩
  rw [hi]
  have HIX := Aside0.mk hi
  have HQ1 := Aside0.mk (HQ.out.below hb)
  have HX1 := Aside0.mk ((hb.block _ (blk_lt HXk.out)).trans HXk.out)
  have HB1 := Aside0.mk (below_step HBB.out hb)
  clear hb hi HQ HXk HBB hk0 hk1 hk2 hk3 hk4 hk5 hk6 hk7
  have hm1 : idxI none = -1 := rfl
  rw [hm1]
  clear hm1
  have HQ2 := HQ1
  have HC2 : Aside0 (Chg (rfp g A) w w1) := ⟨Chg.of_below HB1.out⟩
  have HA2 : Aside0 (∀ a, A = some a → (∃ a0 : Addr, A = some a0 ∧ a.block = a0.block) ∨ w.heap.size ≤ a.block) := ⟨fun a h => Or.inl ⟨a, h, rfl⟩⟩
  have HGL : Aside0 (g < w.heap.size) := ⟨blk_lt H.out.blk⟩
  have HX2 := HX1
  obtain ⟨L, hL⟩ : ∃ L, L = l := ⟨_, rfl⟩
  have HLE := Aside0.mk hL
  obtain ⟨A2, hA2⟩ : ∃ A2, A2 = A := ⟨_, rfl⟩
  obtain ⟨cap2, hcap2⟩ : ∃ c, c = cap := ⟨_, rfl⟩
  have HLL : Aside0 (L.length ≤ 4000000000000) := ⟨by rw [hL]; exact HL.out⟩
  have HQ2' : Aside0 (RefAt w1 base g ord A2 cap2 L) := ⟨by rw [hL, hA2, hcap2]; exact HQ2.out⟩
  have HA2' : Aside0 (∀ a, A2 = some a → (∃ a0 : Addr, A = some a0 ∧ a.block = a0.block) ∨ w.heap.size ≤ a.block) := ⟨by rw [hA2]; exact HA2.out⟩
  clear HQ1 HX1 HB1 HQ2 HA2 hL hA2 hcap2
  have HQ2 := HQ2'
  have HA2 := HA2'
  clear HQ2' HA2'
  generalize w1 = w2 at HQ2 HC2 HX2 ⊢
  go_wp2_with fail
  have HQ3 : Aside0 (RefAt w2.drew base g ord A2 cap2 L) := ⟨HQ2.out.below (below_drew1 (Below.refl _ _))⟩
  have HC3 : Aside0 (Chg (rfp g A) w w2.drew) := ⟨HC2.out.trans (Chg.of_below (below_drew1 (Below.refl _ _)))⟩
  have HX3 : Aside0 (w2.drew.heap[w.heap.size]? = _) := ⟨HX2.out⟩
  clear HQ2 HC2 HX2
  refine start_ (n := 13) (S := fun w' => w'.cell? ⟨g, 1, none⟩ = some (.slice A2 L.length cap2) ∧ w'.cell? ⟨w.heap.size, 0, none⟩ = some (.int .u8 key.1) ∧ w'.cell? ⟨w.heap.size, 1, none⟩ = some (.int .u8 key.2.1) ∧ w'.cell? ⟨w.heap.size, 2, none⟩ = some (.int .u8 key.2.2.1) ∧ w'.cell? ⟨w.heap.size, 3, none⟩ = some (.int .u8 key.2.2.2.1) ∧ w'.cell? ⟨w.heap.size, 4, none⟩ = some (.int .u8 key.2.2.2.2.1) ∧ w'.cell? ⟨w.heap.size, 5, none⟩ = some (.int .u8 key.2.2.2.2.2.1) ∧ w'.cell? ⟨w.heap.size, 6, none⟩ = some (.int .u8 key.2.2.2.2.2.2.1) ∧ w'.cell? ⟨w.heap.size, 7, none⟩ = some (.int .u8 key.2.2.2.2.2.2.2)) (ds := [9, 12]) #[false, false, false, false, false, false, false, false, false, false, false, false, false] (by kernel_rfl) rfl rfl ⟨(blk_cell HQ3.out.blk 1).trans rfl, (blk_cell HX3.out 0).trans rfl, (blk_cell HX3.out 1).trans rfl, (blk_cell HX3.out 2).trans rfl, (blk_cell HX3.out 3).trans rfl, (blk_cell HX3.out 4).trans rfl, (blk_cell HX3.out 5).trans rfl, (blk_cell HX3.out 6).trans rfl, (blk_cell HX3.out 7).trans rfl⟩ (fun hHeld => ?_)
  refine with_tabW rput.tab6 rput.bits6 (fun HT_ HW_ => ?_)
  generalize w2.drew = w3 at HQ3 HC3 HX3 hHeld ⊢
  have HBB3 : Aside0 (Below base w w3) := ⟨HC3.out.below HBS.out H.out.fp_ge⟩
  refine pure_ (i := 0) (N := some 21) (v := ?_) (a' := ?_) #[true, false, false, false, false, false, false, false, false, false, false, false, false] rfl rfl (any_of HT_.out (by kernel_rfl)) (fun _ _ _ h => h) (Or.inl ⟨by rfl, ?_⟩) ?_ ?_
  rotate_left
  · intro w'
    go_simp
    with_reducible rfl
  rotate_left
  · simp only [Act.put, List.setIfInBounds_toArray, List.set_cons_zero, List.set_cons_succ, i64_w, i32_w]
    rfl
  refine pure_ (i := 1) (N := some 22) (v := ?_) (a' := ?_) #[true, true, false, false, false, false, false, false, false, false, false, false, false] rfl rfl (any_of HT_.out (by kernel_rfl)) (fun _ _ _ h => h) (Or.inl ⟨by rfl, ?_⟩) ?_ ?_
  rotate_left
  · intro w'
    go_simp
    with_reducible rfl
  rotate_left
  · simp only [Act.put, List.setIfInBounds_toArray, List.set_cons_zero, List.set_cons_succ, i64_w, i32_w]
    rfl
  refine pure_ (i := 2) (N := some 23) (v := ?_) (a' := ?_) #[true, true, true, false, false, false, false, false, false, false, false, false, false] rfl rfl (any_of HT_.out (by kernel_rfl)) (fun _ _ _ h => h) (Or.inl ⟨by rfl, ?_⟩) ?_ ?_
  rotate_left
  · intro w'
    go_simp
    with_reducible rfl
  rotate_left
  · simp only [Act.put, List.setIfInBounds_toArray, List.set_cons_zero, List.set_cons_succ, i64_w, i32_w]
    rfl
  refine pure_ (i := 3) (N := some 24) (v := ?_) (a' := ?_) #[true, true, true, true, false, false, false, false, false, false, false, false, false] rfl rfl (any_of HT_.out (by kernel_rfl)) (fun _ _ _ h => h) (Or.inl ⟨by rfl, ?_⟩) ?_ ?_
  rotate_left
  · intro w'
    go_simp
    with_reducible rfl
  rotate_left
  · simp only [Act.put, List.setIfInBounds_toArray, List.set_cons_zero, List.set_cons_succ, i64_w, i32_w]
    rfl
  refine pure_ (i := 6) (N := some 27) (v := ?_) (a' := ?_) #[true, true, true, true, false, false, true, false, false, false, false, false, false] rfl rfl (any_of HT_.out (by kernel_rfl)) (fun _ _ _ h => h) (Or.inl ⟨by rfl, ?_⟩) ?_ ?_
  rotate_left
  · intro w'
    go_simp
    with_reducible rfl
  rotate_left
  · simp only [Act.put, List.setIfInBounds_toArray, List.set_cons_zero, List.set_cons_succ, i64_w, i32_w]
    rfl
  refine take_ (i := 4) (N := some 25) (v := ?_) (a' := ?_) #[true, true, true, true, true, false, true, false, false, false, false, false, false] rfl rfl (take_ofW HT_.out HW_.out (by kernel_rfl)) (fun _ _ _ h => h) (Or.inl ⟨by rfl, ?_⟩) hHeld ?_ ?_
  rotate_left
  · rintro w' ⟨s0, s1, s2, s3, s4, s5, s6, s7, s8⟩
    go_simp
    with_reducible rfl
  rotate_left
  · simp only [Act.put, List.setIfInBounds_toArray, List.set_cons_zero, List.set_cons_succ, i64_w, i32_w]
    rfl
  refine take_ (i := 5) (N := some 26) (v := ?_) (a' := ?_) #[true, true, true, true, true, true, true, false, false, false, false, false, false] rfl rfl (take_ofW HT_.out HW_.out (by kernel_rfl)) (fun _ _ _ h => h) (Or.inl ⟨by rfl, ?_⟩) hHeld ?_ ?_
  rotate_left
  · rintro w' ⟨s0, s1, s2, s3, s4, s5, s6, s7, s8⟩
    go_simp
    with_reducible rfl
  rotate_left
  · simp only [Act.put, List.setIfInBounds_toArray, List.set_cons_zero, List.set_cons_succ, i64_w, i32_w]
    rfl
  refine pure_ (i := 7) (N := some 28) (v := ?_) (a' := ?_) #[true, true, true, true, true, true, true, true, false, false, false, false, false] rfl rfl (any_of HT_.out (by kernel_rfl)) (fun _ _ _ h => h) (Or.inl ⟨by rfl, ?_⟩) ?_ ?_
  rotate_left
  · intro w'
    go_simp
    with_reducible rfl
  rotate_left
  · simp only [Act.put, List.setIfInBounds_toArray, List.set_cons_zero, List.set_cons_succ, i64_w, i32_w]
    rfl
  refine one_ (i := 8) (N := some 29) #[true, true, true, true, true, true, true, true, true, false, false, false, false] rfl rfl (one_of HT_.out (by kernel_rfl)) (by decide) (fun K hK => ?_)
  refine Kd.R_lit_step kRI (w0 := w) base 87 ?hw (N := 29) ?hd (xs := [(key, rank)]) (inner := [.int .u8 key.1, .int .u8 key.2.1, .int .u8 key.2.2.1, .int .u8 key.2.2.2.1, .int .u8 key.2.2.2.2.1, .int .u8 key.2.2.2.2.2.1, .int .u8 key.2.2.2.2.2.2.1, .int .u8 key.2.2.2.2.2.2.2, .int .i64 rank]) (ok := fun _ => True) (okp := fun _ => True) ?hr ?hp (fun _ hk => hk) trivial HBB3.out (Nat.le_trans HBS.out HC3.out.size) (by simp) ?_
  case hw => rfl
  case hd => rfl
  case hr => first | (go_simp; done) | (go_simp; rfl)
  case hp => exact reps_single (kRI_mk _ _ _ (key, rank)) rfl
  intro v66 w4 ho hb hg_ hnew
  have hbb : Below w3.heap.size w3 w4 := ⟨hg_.os, hg_.tape, hg_.output, hg_.size, fun k hk => hg_.block k hk (by simp)⟩
  have HQ4 := Aside0.mk (HQ3.out.below hbb)
  have HC4 := Aside0.mk (HC3.out.trans (Chg.of_below hbb))
  have HX4 := Aside0.mk ((hbb.block _ (blk_lt HX3.out)).trans HX3.out)
  have HBB4 := Aside0.mk hb
  obtain ⟨A8, c8, e8, hle8, hC8⟩ := Kd.R_reads ho
  subst e8
  have HC8 := Aside0.mk hC8
  clear ho hb hg_ hnew hbb HQ3 HC3 HX3 HBB3 hle8 hC8
  refine hK.out _ _ ⟨(blk_cell HQ4.out.blk 1).trans rfl, (blk_cell HX4.out 0).trans rfl, (blk_cell HX4.out 1).trans rfl, (blk_cell HX4.out 2).trans rfl, (blk_cell HX4.out 3).trans rfl, (blk_cell HX4.out 4).trans rfl, (blk_cell HX4.out 5).trans rfl, (blk_cell HX4.out 6).trans rfl, (blk_cell HX4.out 7).trans rfl⟩ (fun hHeld => ?_)
  clear hK K
  refine norm_ (a' := ?_) ?_ ?_
  rotate_left
  · show Act.put _ (some 29) _ = _
    simp only [Act.put, List.setIfInBounds_toArray, List.set_cons_zero, List.set_cons_succ, i64_w, i32_w]
    rfl
  refine last_ (i := 9) (N := some 30) #[true, true, true, true, true, true, true, true, true, true, false, false, false] rfl rfl (one_of HT_.out (by kernel_rfl)) (by decide) (fun K hK => ?_)
  refine Kd.R_append_rows_step kRI (w0 := w) base ?hw (.tmp 25) (.tmp 29) 37 87 (.agg #[.int .u8 0, .int .u8 0, .int .u8 0, .int .u8 0, .int .u8 0, .int .u8 0, .int .u8 0, .int .u8 0, .int .i64 0]) 16 rfl Try.underlying37 infoRI rfl (by decide) (by omega) (.slice A2 L.length cap2) L [(key, rank)] A8 1 c8 (fun _ => True) (fun _ => False) rfl rfl HQ4.out.row HC8.out (fun _ _ h => kRI_K h) (fun _ h => h.elim) (fun _ _ => trivial) HBB4.out (Nat.le_trans HBS.out HC4.out.size) (by have := HLL.out; omega) ?_
  case hw => rfl
  intro v67 w5 ho hb hg_ hat
  obtain ⟨A9, c9, e9⟩ := Kd.R_slice ho
  subst e9
  have HO5 := Aside0.mk ho
  have HG5 := Aside0.mk (blk_grown HQ4.out.blk hg_ (Kd.R_ne HQ4.out.row HQ4.out.blk (by decide)))
  have HX5 : Aside0 True := ⟨trivial⟩
  have HC5 := Aside0.mk (rput_chg HC4.out hg_ HA2.out)
  have HAT := Aside0.mk (rput_at hat HA2.out HC4.out.size)
  clear ho hb hg_ hat HQ4 HC4 HX4 HBB4 HC8 HX5
  refine hK.out _ _ ?_
  clear hK K
  refine norm_ (a' := ?_) ?_ ?_
  rotate_left
  · show Act.put _ (some 30) _ = _
    simp only [Act.put, List.setIfInBounds_toArray, List.set_cons_zero, List.set_cons_succ, i64_w, i32_w]
    rfl
  refine pure_ (i := 10) (N := some 31) (v := ?_) (a' := ?_) #[true, true, true, true, true, true, true, true, true, true, true, false, false] rfl rfl (any_of HT_.out (by kernel_rfl)) (fun _ _ _ h => h) (Or.inl ⟨by rfl, ?_⟩) ?_ ?_
  rotate_left
  · intro w'
    go_simp
    with_reducible rfl
  rotate_left
  · simp only [Act.put, List.setIfInBounds_toArray, List.set_cons_zero, List.set_cons_succ, i64_w, i32_w]
    rfl
  refine pure_ (i := 11) (N := some 32) (v := ?_) (a' := ?_) #[true, true, true, true, true, true, true, true, true, true, true, true, false] rfl rfl (any_of HT_.out (by kernel_rfl)) (fun _ _ _ h => h) (Or.inl ⟨by rfl, ?_⟩) ?_ ?_
  rotate_left
  · intro w'
    go_simp
    with_reducible rfl
  rotate_left
  · simp only [Act.put, List.setIfInBounds_toArray, List.set_cons_zero, List.set_cons_succ, i64_w, i32_w]
    rfl
  refine last_ (i := 12) (N := none) #[true, true, true, true, true, true, true, true, true, true, true, true, true] rfl rfl (one_of HT_.out (by kernel_rfl)) (by decide) (fun K hK => ?_)
  have hc1 : w5.cell? ⟨g, 1, none⟩ = some (.slice A2 L.length cap2) := (blk_cell HG5.out 1).trans rfl
  have hf1 := blk_frozen HG5.out 1
  refine skip_ (w1 := (w5.setCell ⟨g, 1, none⟩ (.slice A9 (L ++ [(key, rank)]).length c9))) (by rfl) rfl ?_ ?_
  · first | (go_simp; done) | (go_simp; rfl)
  clear hc1 hf1
  have HR6 : Aside0 (RefAt (w5.setCell ⟨g, 1, none⟩ (.slice A9 (L ++ [(key, rank)]).length c9)) base g ord A9 c9 (L ++ [(key, rank)])) := ⟨⟨blk_put HG5.out 1 _ rfl, Kd.R_set HO5.out HG5.out (by decide) 1 _, H.out.ge⟩⟩
  have HC6 : Aside0 (Chg (rfp g A) w (w5.setCell ⟨g, 1, none⟩ (.slice A9 (L ++ [(key, rank)]).length c9))) := ⟨HC5.out.setCell (Or.inl (Or.inl rfl)) _⟩
  clear HG5 HO5 HC5
  generalize (w5.setCell ⟨g, 1, none⟩ (.slice A9 (L ++ [(key, rank)]).length c9)) = w6 at HR6 HC6 ⊢
  refine hK.out _ _ ?_
  clear hK K
  refine done_ (done_of HT_.out (by kernel_rfl)) ?_
  try clear hHeld
  go_wp2
  go_ret
  rw [← HLE.out]
  first | exact ⟨rfl, A9, ⟨_, HR6.out⟩, HC6.out, HAT.out⟩ | exact ⟨rfl, A9, _, HR6.out, HC6.out, HAT.out⟩
set_option maxHeartbeats 8000000 in
set_option maxRecDepth 100000 in
theorem rput_old (base g : Nat) (ord : Int) (A : Option Addr) (cap : Nat) (l : List Rt) {i : Nat} (key : Kt) (rank : Int) (w : World) (h : RefAt w base g ord A cap l) (hl : l.length ≤ 4000000000000) (hb : base ≤ w.heap.size) (ho : ord ≠ -1) (hi : idxR l key = some i) :
    Calls Try.prog 31 #[.pointer (some ⟨g, 0, none⟩), .agg #[.int .u8 key.1, .int .u8 key.2.1, .int .u8 key.2.2.1, .int .u8 key.2.2.2.1, .int .u8 key.2.2.2.2.1, .int .u8 key.2.2.2.2.2.1, .int .u8 key.2.2.2.2.2.2.1, .int .u8 key.2.2.2.2.2.2.2], .int .i64 rank] w fun e w' => e = .returned (.int .i64 0) ∧ ∃ A' cap', RefAt w' base g ord A' cap' ((l.eraseIdx i) ++ [(key, rank)]) ∧ Chg (rfp g A) w w' ∧ ∀ a, A' = some a → (∃ a0 : Addr, A = some a0 ∧ a.block = a0.block) ∨ w.heap.size ≤ a.block := by
  have H := Aside0.mk h
  have HL := Aside0.mk hl
  have HBS := Aside0.mk hb
  clear h hl hb
  go_enter Try.func31, Try.ntmps31
  go_upto_region 1 with (fail)
  have HXk : Aside0 ((w.alloc (.cells #[.int .u8 key.1, .int .u8 key.2.1, .int .u8 key.2.2.1, .int .u8 key.2.2.2.1, .int .u8 key.2.2.2.2.1, .int .u8 key.2.2.2.2.2.1, .int .u8 key.2.2.2.2.2.2.1, .int .u8 key.2.2.2.2.2.2.2] 33)).heap[w.heap.size]? = some (.cells #[.int .u8 key.1, .int .u8 key.2.1, .int .u8 key.2.2.1, .int .u8 key.2.2.2.1, .int .u8 key.2.2.2.2.1, .int .u8 key.2.2.2.2.2.1, .int .u8 key.2.2.2.2.2.2.1, .int .u8 key.2.2.2.2.2.2.2] 33 (0, 0))) := ⟨blk_new _ _⟩
  have HBB : Aside0 (Below w.heap.size w (w.alloc (.cells #[.int .u8 key.1, .int .u8 key.2.1, .int .u8 key.2.2.1, .int .u8 key.2.2.2.1, .int .u8 key.2.2.2.2.1, .int .u8 key.2.2.2.2.2.1, .int .u8 key.2.2.2.2.2.2.1, .int .u8 key.2.2.2.2.2.2.2] 33))) := ⟨below_alloc (Below.refl _ _) _⟩
  have HQ := Aside0.mk (H.out.below HBB.out)
  generalize w.alloc (.cells #[.int .u8 key.1, .int .u8 key.2.1, .int .u8 key.2.2.1, .int .u8 key.2.2.2.1, .int .u8 key.2.2.2.2.1, .int .u8 key.2.2.2.2.2.1, .int .u8 key.2.2.2.2.2.2.1, .int .u8 key.2.2.2.2.2.2.2] 33) = wB at HXk HBB HQ ⊢
  have hc0 : wB.cell? ⟨g, 0, none⟩ = some (.int .i64 ord) := (blk_cell HQ.out.blk 0).trans rfl
  have hon : (ord == -1) = false := beq_eq_false_iff_ne.mpr ho
  clear ho
  have hk0 : wB.cell? ⟨w.heap.size, 0, none⟩ = some (.int .u8 key.1) := (blk_cell HXk.out 0).trans rfl
  have hk1 : wB.cell? ⟨w.heap.size, 1, none⟩ = some (.int .u8 key.2.1) := (blk_cell HXk.out 1).trans rfl
  have hk2 : wB.cell? ⟨w.heap.size, 2, none⟩ = some (.int .u8 key.2.2.1) := (blk_cell HXk.out 2).trans rfl
  have hk3 : wB.cell? ⟨w.heap.size, 3, none⟩ = some (.int .u8 key.2.2.2.1) := (blk_cell HXk.out 3).trans rfl
  have hk4 : wB.cell? ⟨w.heap.size, 4, none⟩ = some (.int .u8 key.2.2.2.2.1) := (blk_cell HXk.out 4).trans rfl
  have hk5 : wB.cell? ⟨w.heap.size, 5, none⟩ = some (.int .u8 key.2.2.2.2.2.1) := (blk_cell HXk.out 5).trans rfl
  have hk6 : wB.cell? ⟨w.heap.size, 6, none⟩ = some (.int .u8 key.2.2.2.2.2.2.1) := (blk_cell HXk.out 6).trans rfl
  have hk7 : wB.cell? ⟨w.heap.size, 7, none⟩ = some (.int .u8 key.2.2.2.2.2.2.2) := (blk_cell HXk.out 7).trans rfl
  go_wp2_with fail
  refine (at_calls base g ord A cap l key wB HQ.out HL.out).mono ?_
  rintro e w1 ⟨rfl, hb⟩
  rw [hi]
  have HIX := Aside0.mk hi
  have HQ1 := Aside0.mk (HQ.out.below hb)
  have HX1 := Aside0.mk ((hb.block _ (blk_lt HXk.out)).trans HXk.out)
  have HB1 := Aside0.mk (below_step HBB.out hb)
  clear hb hi HQ HXk HBB hk0 hk1 hk2 hk3 hk4 hk5 hk6 hk7
  have hm1 : idxI (some i) = (i : Int) := rfl
  rw [hm1]
  clear hm1
  have hil := (idxR_at HIX.out).1
  have HIL := Aside0.mk hil
  have hi0 : decide ((i : Int) < 0) = false := decide_eq_false (by omega)
  have hi1 : decide (0 ≤ (i : Int)) = true := decide_eq_true (by omega)
  have hill : (i : Int) < l.length := by omega
  clear hil
  go_wp2_with fail
  refine (out_calls base g ord A cap l i w1 HQ1.out HL.out HIL.out (Nat.le_trans HBS.out HB1.out.size)).mono ?_
  rintro e w2 ⟨rfl, A2, cap2, h2, hc, ha⟩
  have HQ2 := Aside0.mk h2
  have HC2 : Aside0 (Chg (rfp g A) w w2) := ⟨(Chg.of_below HB1.out).trans (hc.mono (fun k hk => Or.inl hk))⟩
  have HA2 : Aside0 (∀ a, A2 = some a → (∃ a0 : Addr, A = some a0 ∧ a.block = a0.block) ∨ w.heap.size ≤ a.block) := ⟨fun a h => Or.inr (Nat.le_trans HB1.out.size (ha a h))⟩
  have HGL : Aside0 (g < w.heap.size) := ⟨blk_lt H.out.blk⟩
  have HX2 := Aside0.mk (hc.heap HX1.out (fun e => by have e' : w.heap.size = g := e; have := HGL.out; omega))
  obtain ⟨L, hL⟩ : ∃ L, L = l.eraseIdx i := ⟨_, rfl⟩
  have HLE := Aside0.mk hL
  rw [← hL] at HQ2
  have hLl : L.length ≤ 4000000000000 := by rw [hL, List.length_eraseIdx]; have := HL.out; split <;> omega
  have HLL := Aside0.mk hLl
  clear h2 hc ha HQ1 HX1 HB1 hL hLl
  go_wp2_with fail
  have HQ3 : Aside0 (RefAt w2.drew base g ord A2 cap2 L) := ⟨HQ2.out.below (below_drew1 (Below.refl _ _))⟩
  have HC3 : Aside0 (Chg (rfp g A) w w2.drew) := ⟨HC2.out.trans (Chg.of_below (below_drew1 (Below.refl _ _)))⟩
  have HX3 : Aside0 (w2.drew.heap[w.heap.size]? = _) := ⟨HX2.out⟩
  clear HQ2 HC2 HX2
  refine start_ (n := 13) (S := fun w' => w'.cell? ⟨g, 1, none⟩ = some (.slice A2 L.length cap2) ∧ w'.cell? ⟨w.heap.size, 0, none⟩ = some (.int .u8 key.1) ∧ w'.cell? ⟨w.heap.size, 1, none⟩ = some (.int .u8 key.2.1) ∧ w'.cell? ⟨w.heap.size, 2, none⟩ = some (.int .u8 key.2.2.1) ∧ w'.cell? ⟨w.heap.size, 3, none⟩ = some (.int .u8 key.2.2.2.1) ∧ w'.cell? ⟨w.heap.size, 4, none⟩ = some (.int .u8 key.2.2.2.2.1) ∧ w'.cell? ⟨w.heap.size, 5, none⟩ = some (.int .u8 key.2.2.2.2.2.1) ∧ w'.cell? ⟨w.heap.size, 6, none⟩ = some (.int .u8 key.2.2.2.2.2.2.1) ∧ w'.cell? ⟨w.heap.size, 7, none⟩ = some (.int .u8 key.2.2.2.2.2.2.2)) (ds := [9, 12]) #[false, false, false, false, false, false, false, false, false, false, false, false, false] (by kernel_rfl) rfl rfl ⟨(blk_cell HQ3.out.blk 1).trans rfl, (blk_cell HX3.out 0).trans rfl, (blk_cell HX3.out 1).trans rfl, (blk_cell HX3.out 2).trans rfl, (blk_cell HX3.out 3).trans rfl, (blk_cell HX3.out 4).trans rfl, (blk_cell HX3.out 5).trans rfl, (blk_cell HX3.out 6).trans rfl, (blk_cell HX3.out 7).trans rfl⟩ (fun hHeld => ?_)
  refine with_tabW rput.tab6 rput.bits6 (fun HT_ HW_ => ?_)
  generalize w2.drew = w3 at HQ3 HC3 HX3 hHeld ⊢
  have HBB3 : Aside0 (Below base w w3) := ⟨HC3.out.below HBS.out H.out.fp_ge⟩
  refine pure_ (i := 0) (N := some 21) (v := ?_) (a' := ?_) #[true, false, false, false, false, false, false, false, false, false, false, false, false] rfl rfl (any_of HT_.out (by kernel_rfl)) (fun _ _ _ h => h) (Or.inl ⟨by rfl, ?_⟩) ?_ ?_
  rotate_left
  · intro w'
    go_simp
    with_reducible rfl
  rotate_left
  · simp only [Act.put, List.setIfInBounds_toArray, List.set_cons_zero, List.set_cons_succ, i64_w, i32_w]
    rfl
  refine pure_ (i := 1) (N := some 22) (v := ?_) (a' := ?_) #[true, true, false, false, false, false, false, false, false, false, false, false, false] rfl rfl (any_of HT_.out (by kernel_rfl)) (fun _ _ _ h => h) (Or.inl ⟨by rfl, ?_⟩) ?_ ?_
  rotate_left
  · intro w'
    go_simp
    with_reducible rfl
  rotate_left
  · simp only [Act.put, List.setIfInBounds_toArray, List.set_cons_zero, List.set_cons_succ, i64_w, i32_w]
    rfl
  refine pure_ (i := 2) (N := some 23) (v := ?_) (a' := ?_) #[true, true, true, false, false, false, false, false, false, false, false, false, false] rfl rfl (any_of HT_.out (by kernel_rfl)) (fun _ _ _ h => h) (Or.inl ⟨by rfl, ?_⟩) ?_ ?_
  rotate_left
  · intro w'
    go_simp
    with_reducible rfl
  rotate_left
  · simp only [Act.put, List.setIfInBounds_toArray, List.set_cons_zero, List.set_cons_succ, i64_w, i32_w]
    rfl
  refine pure_ (i := 3) (N := some 24) (v := ?_) (a' := ?_) #[true, true, true, true, false, false, false, false, false, false, false, false, false] rfl rfl (any_of HT_.out (by kernel_rfl)) (fun _ _ _ h => h) (Or.inl ⟨by rfl, ?_⟩) ?_ ?_
  rotate_left
  · intro w'
    go_simp
    with_reducible rfl
  rotate_left
  · simp only [Act.put, List.setIfInBounds_toArray, List.set_cons_zero, List.set_cons_succ, i64_w, i32_w]
    rfl
  refine pure_ (i := 6) (N := some 27) (v := ?_) (a' := ?_) #[true, true, true, true, false, false, true, false, false, false, false, false, false] rfl rfl (any_of HT_.out (by kernel_rfl)) (fun _ _ _ h => h) (Or.inl ⟨by rfl, ?_⟩) ?_ ?_
  rotate_left
  · intro w'
    go_simp
    with_reducible rfl
  rotate_left
  · simp only [Act.put, List.setIfInBounds_toArray, List.set_cons_zero, List.set_cons_succ, i64_w, i32_w]
    rfl
  refine take_ (i := 4) (N := some 25) (v := ?_) (a' := ?_) #[true, true, true, true, true, false, true, false, false, false, false, false, false] rfl rfl (take_ofW HT_.out HW_.out (by kernel_rfl)) (fun _ _ _ h => h) (Or.inl ⟨by rfl, ?_⟩) hHeld ?_ ?_
  rotate_left
  · rintro w' ⟨s0, s1, s2, s3, s4, s5, s6, s7, s8⟩
    go_simp
    with_reducible rfl
  rotate_left
  · simp only [Act.put, List.setIfInBounds_toArray, List.set_cons_zero, List.set_cons_succ, i64_w, i32_w]
    rfl
  refine take_ (i := 5) (N := some 26) (v := ?_) (a' := ?_) #[true, true, true, true, true, true, true, false, false, false, false, false, false] rfl rfl (take_ofW HT_.out HW_.out (by kernel_rfl)) (fun _ _ _ h => h) (Or.inl ⟨by rfl, ?_⟩) hHeld ?_ ?_
  rotate_left
  · rintro w' ⟨s0, s1, s2, s3, s4, s5, s6, s7, s8⟩
    go_simp
    with_reducible rfl
  rotate_left
  · simp only [Act.put, List.setIfInBounds_toArray, List.set_cons_zero, List.set_cons_succ, i64_w, i32_w]
    rfl
  refine pure_ (i := 7) (N := some 28) (v := ?_) (a' := ?_) #[true, true, true, true, true, true, true, true, false, false, false, false, false] rfl rfl (any_of HT_.out (by kernel_rfl)) (fun _ _ _ h => h) (Or.inl ⟨by rfl, ?_⟩) ?_ ?_
  rotate_left
  · intro w'
    go_simp
    with_reducible rfl
  rotate_left
  · simp only [Act.put, List.setIfInBounds_toArray, List.set_cons_zero, List.set_cons_succ, i64_w, i32_w]
    rfl
  refine one_ (i := 8) (N := some 29) #[true, true, true, true, true, true, true, true, true, false, false, false, false] rfl rfl (one_of HT_.out (by kernel_rfl)) (by decide) (fun K hK => ?_)
  refine Kd.R_lit_step kRI (w0 := w) base 87 ?hw (N := 29) ?hd (xs := [(key, rank)]) (inner := [.int .u8 key.1, .int .u8 key.2.1, .int .u8 key.2.2.1, .int .u8 key.2.2.2.1, .int .u8 key.2.2.2.2.1, .int .u8 key.2.2.2.2.2.1, .int .u8 key.2.2.2.2.2.2.1, .int .u8 key.2.2.2.2.2.2.2, .int .i64 rank]) (ok := fun _ => True) (okp := fun _ => True) ?hr ?hp (fun _ hk => hk) trivial HBB3.out (Nat.le_trans HBS.out HC3.out.size) (by simp) ?_
  case hw => rfl
  case hd => rfl
  case hr => first | (go_simp; done) | (go_simp; rfl)
  case hp => exact reps_single (kRI_mk _ _ _ (key, rank)) rfl
  intro v66 w4 ho hb hg_ hnew
  have hbb : Below w3.heap.size w3 w4 := ⟨hg_.os, hg_.tape, hg_.output, hg_.size, fun k hk => hg_.block k hk (by simp)⟩
  have HQ4 := Aside0.mk (HQ3.out.below hbb)
  have HC4 := Aside0.mk (HC3.out.trans (Chg.of_below hbb))
  have HX4 := Aside0.mk ((hbb.block _ (blk_lt HX3.out)).trans HX3.out)
  have HBB4 := Aside0.mk hb
  obtain ⟨A8, c8, e8, hle8, hC8⟩ := Kd.R_reads ho
  subst e8
  have HC8 := Aside0.mk hC8
  clear ho hb hg_ hnew hbb HQ3 HC3 HX3 HBB3 hle8 hC8
  refine hK.out _ _ ⟨(blk_cell HQ4.out.blk 1).trans rfl, (blk_cell HX4.out 0).trans rfl, (blk_cell HX4.out 1).trans rfl, (blk_cell HX4.out 2).trans rfl, (blk_cell HX4.out 3).trans rfl, (blk_cell HX4.out 4).trans rfl, (blk_cell HX4.out 5).trans rfl, (blk_cell HX4.out 6).trans rfl, (blk_cell HX4.out 7).trans rfl⟩ (fun hHeld => ?_)
  clear hK K
  refine norm_ (a' := ?_) ?_ ?_
  rotate_left
  · show Act.put _ (some 29) _ = _
    simp only [Act.put, List.setIfInBounds_toArray, List.set_cons_zero, List.set_cons_succ, i64_w, i32_w]
    rfl
  refine last_ (i := 9) (N := some 30) #[true, true, true, true, true, true, true, true, true, true, false, false, false] rfl rfl (one_of HT_.out (by kernel_rfl)) (by decide) (fun K hK => ?_)
  refine Kd.R_append_rows_step kRI (w0 := w) base ?hw (.tmp 25) (.tmp 29) 37 87 (.agg #[.int .u8 0, .int .u8 0, .int .u8 0, .int .u8 0, .int .u8 0, .int .u8 0, .int .u8 0, .int .u8 0, .int .i64 0]) 16 rfl Try.underlying37 infoRI rfl (by decide) (by omega) (.slice A2 L.length cap2) L [(key, rank)] A8 1 c8 (fun _ => True) (fun _ => False) rfl rfl HQ4.out.row HC8.out (fun _ _ h => kRI_K h) (fun _ h => h.elim) (fun _ _ => trivial) HBB4.out (Nat.le_trans HBS.out HC4.out.size) (by have := HLL.out; omega) ?_
  case hw => rfl
  intro v67 w5 ho hb hg_ hat
  obtain ⟨A9, c9, e9⟩ := Kd.R_slice ho
  subst e9
  have HO5 := Aside0.mk ho
  have HG5 := Aside0.mk (blk_grown HQ4.out.blk hg_ (Kd.R_ne HQ4.out.row HQ4.out.blk (by decide)))
  have HX5 : Aside0 True := ⟨trivial⟩
  have HC5 := Aside0.mk (rput_chg HC4.out hg_ HA2.out)
  have HAT := Aside0.mk (rput_at hat HA2.out HC4.out.size)
  clear ho hb hg_ hat HQ4 HC4 HX4 HBB4 HC8 HX5
  refine hK.out _ _ ?_
  clear hK K
  refine norm_ (a' := ?_) ?_ ?_
  rotate_left
  · show Act.put _ (some 30) _ = _
    simp only [Act.put, List.setIfInBounds_toArray, List.set_cons_zero, List.set_cons_succ, i64_w, i32_w]
    rfl
  refine pure_ (i := 10) (N := some 31) (v := ?_) (a' := ?_) #[true, true, true, true, true, true, true, true, true, true, true, false, false] rfl rfl (any_of HT_.out (by kernel_rfl)) (fun _ _ _ h => h) (Or.inl ⟨by rfl, ?_⟩) ?_ ?_
  rotate_left
  · intro w'
    go_simp
    with_reducible rfl
  rotate_left
  · simp only [Act.put, List.setIfInBounds_toArray, List.set_cons_zero, List.set_cons_succ, i64_w, i32_w]
    rfl
  refine pure_ (i := 11) (N := some 32) (v := ?_) (a' := ?_) #[true, true, true, true, true, true, true, true, true, true, true, true, false] rfl rfl (any_of HT_.out (by kernel_rfl)) (fun _ _ _ h => h) (Or.inl ⟨by rfl, ?_⟩) ?_ ?_
  rotate_left
  · intro w'
    go_simp
    with_reducible rfl
  rotate_left
  · simp only [Act.put, List.setIfInBounds_toArray, List.set_cons_zero, List.set_cons_succ, i64_w, i32_w]
    rfl
  refine last_ (i := 12) (N := none) #[true, true, true, true, true, true, true, true, true, true, true, true, true] rfl rfl (one_of HT_.out (by kernel_rfl)) (by decide) (fun K hK => ?_)
  have hc1 : w5.cell? ⟨g, 1, none⟩ = some (.slice A2 L.length cap2) := (blk_cell HG5.out 1).trans rfl
  have hf1 := blk_frozen HG5.out 1
  refine skip_ (w1 := (w5.setCell ⟨g, 1, none⟩ (.slice A9 (L ++ [(key, rank)]).length c9))) (by rfl) rfl ?_ ?_
  · first | (go_simp; done) | (go_simp; rfl)
  clear hc1 hf1
  have HR6 : Aside0 (RefAt (w5.setCell ⟨g, 1, none⟩ (.slice A9 (L ++ [(key, rank)]).length c9)) base g ord A9 c9 (L ++ [(key, rank)])) := ⟨⟨blk_put HG5.out 1 _ rfl, Kd.R_set HO5.out HG5.out (by decide) 1 _, H.out.ge⟩⟩
  have HC6 : Aside0 (Chg (rfp g A) w (w5.setCell ⟨g, 1, none⟩ (.slice A9 (L ++ [(key, rank)]).length c9))) := ⟨HC5.out.setCell (Or.inl (Or.inl rfl)) _⟩
  clear HG5 HO5 HC5
  generalize (w5.setCell ⟨g, 1, none⟩ (.slice A9 (L ++ [(key, rank)]).length c9)) = w6 at HR6 HC6 ⊢
  refine hK.out _ _ ?_
  clear hK K
  refine done_ (done_of HT_.out (by kernel_rfl)) ?_
  try clear hHeld
  go_wp2
  go_ret
  rw [← HLE.out]
  first | exact ⟨rfl, A9, ⟨_, HR6.out⟩, HC6.out, HAT.out⟩ | exact ⟨rfl, A9, _, HR6.out, HC6.out, HAT.out⟩
end Go.Proofs.Ytibipbfmhbkpiaa.HeapDI
