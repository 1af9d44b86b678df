/- Two things that are alike. -/
import Derived.Test.YtjijmikpoenbcaaThing
import Derived.Test.YtjijmikpoenbcaaQ8
import Derived.Test.YtjijmikpoenbcaaQ9
import Derived.DeepKeys
namespace Go.Proofs.Ytjijmikpoenbcaa.Codec
open Go.RowKit Go.Proofs.YtjijmikpoenbcaaW.PrintWords Go.Proofs.YtjijmikpoenbcaaW.PrintLast Go.Proofs.YtjijmikpoenbcaaW.PrintMore Go.Proofs.Ytjijmikpoenbcaa.Open Go.Proofs.Ytjijmikpoenbcaa.Q
set_option linter.unusedVariables false
theorem info5' : ∃ i, Try.prog.info? 5 = some i := Option.isSome_iff_exists.1 (by kernel_rfl)
theorem eq_id (b0 b1 b2 b3 b4 b5 b6 b7 : Int) (W : World) : (Op.equalIn 10000 41 (.agg #[.int .u8 b0, .int .u8 b1, .int .u8 b2, .int .u8 b3, .int .u8 b4, .int .u8 b5, .int .u8 b6, .int .u8 b7]) (.agg #[.int .u8 b0, .int .u8 b1, .int .u8 b2, .int .u8 b3, .int .u8 b4, .int .u8 b5, .int .u8 b6, .int .u8 b7])).run Try.prog W = .ok true W := by
  have e : ∀ (d : Nat) (b : Int), (Op.equalIn (d + 1) 5 (.int .u8 b) (.int .u8 b)).run Try.prog W = .ok true W := fun d b => by
    rw [run_equalIn_int (P := Try.prog) W d 5 .u8 .u8 b b Try.underlying5]; simp
  have hp : ∀ (xs : Array Value) (i : Nat) (u : Value), xs[i]? = some u → (part 5 xs i).run Try.prog W = .ok u W := fun xs i u h => by
    have : (isAgg 5).run Try.prog W = .ok false W := by kernel_rfl
    simp [part, Sem.run_bind, this, h]
  obtain ⟨i5, hi5⟩ := info5'
  rw [show (10000 : Nat) = 9999 + 1 from rfl, run_equalIn_array (P := Try.prog) W 9999 _ _ Try.underlying41 hi5, show Try.prog.cellsOf 5 = 1 by kernel_rfl, show List.range 8 = [0, 1, 2, 3, 4, 5, 6, 7] by decide]
  have step : ∀ (xs : Array Value) (k : Nat) (b : Int) (is : List Nat), xs[k]? = some (.int .u8 b) → (Op.eqItems 9999 5 1 xs xs is).run Try.prog W = .ok true W → (Op.eqItems 9999 5 1 xs xs (k :: is)).run Try.prog W = .ok true W := fun xs k b is h hr => by
    have h1 := hp xs (k * 1) _ (by rw [Nat.mul_one]; exact h)
    rw [Op.eqItems]
    simp only [Sem.run_bind, h1, e 9998 b, Result.andThen_ok]
    simpa using hr
  refine step _ 0 b0 _ rfl (step _ 1 b1 _ rfl (step _ 2 b2 _ rfl (step _ 3 b3 _ rfl (step _ 4 b4 _ rfl (step _ 5 b5 _ rfl (step _ 6 b6 _ rfl (step _ 7 b7 _ rfl ?_)))))))
  simp [Op.eqItems]
set_option maxHeartbeats 8000000 in
set_option maxRecDepth 100000 in
theorem alike_walk (who who' kind n i wd b0 b1 b2 b3 b4 b5 b6 b7 x y : Int) (A A' : Option Addr) (m c c' : Nat) (tx : List Int) (hm : m = tx.length) (w : World) (h1 : Kd.C (Kd.int .u8) w A tx.length tx) (hc1 : tx.length ≤ c) (h2 : Kd.C (Kd.int .u8) w A' tx.length tx) (hc2 : tx.length ≤ c') :
    Calls Try.prog 37 #[.agg (thing who kind n i wd b0 b1 b2 b3 b4 b5 b6 b7 x y (.slice A m c)), .agg (thing who' kind n i wd b0 b1 b2 b3 b4 b5 b6 b7 x y (.slice A' m c'))] w fun e w' => e = .returned (.bool true) ∧ Below w.heap.size w w' := by
  subst hm
  have H1 := Aside0.mk h1
  have H2 := Aside0.mk h2
  have HC1 := Aside0.mk hc1
  have HC2 := Aside0.mk hc2
  clear h1 h2 hc1 hc2
  unfold thing
  go_enter Try.func37, Try.ntmps37
  have hid := fun W => eq_id b0 b1 b2 b3 b4 b5 b6 b7 W
  go_wp2_with fail
  refine (same_calls A c tx A' c' tx _ (Kd.C_alloc (Kd.C_alloc H1.out _) _) HC1.out (Kd.C_alloc (Kd.C_alloc H2.out _) _) HC2.out).mono ?_
  rintro e w1 ⟨rfl, hb⟩
  rw [show decide (tx = tx) = true from decide_eq_true rfl]
  have HB := Aside0.mk (below_then (below_alloc (below_alloc (Below.refl w.heap.size w) _) _) (by rw [World.size_alloc, World.size_alloc]; omega) hb)
  clear hb
  go_wp2
  go_ret
  exact ⟨rfl, HB.out⟩
theorem Took.below {base g B : Nat} {v : Value} {l : List Int} {e : Int} {w w' : World} (h : Took base g v l e w w') (hs : B ≤ w.heap.size) (hg : B ≤ g) : Below B w w' := by
  obtain ⟨v', _, _, k⟩ := h
  exact k.below hs (fun i hi => by have q : i = g := hi; omega)
theorem suf_byte (l : List Int) (e : Int) : (byteR l e).2.1 <:+ l := by
  by_cases he : e = 0
  · subst he
    cases l with
    | nil => exact List.suffix_refl _
    | cons b t => exact List.suffix_cons b t
  · have e1 : byteR l e = (0, [], e) := by simp [byteR, he]
    rw [e1]
    exact List.nil_suffix
theorem suf_next (n : Nat) (l : List Int) (e : Int) : (nextR n l e).2.1 <:+ l := by
  unfold nextR
  by_cases he : e = 0
  · rw [if_pos he]
    by_cases hl : l.length < n
    · rw [if_pos hl]; exact List.nil_suffix
    · rw [if_neg hl]; exact List.drop_suffix n l
  · rw [if_neg he]; exact List.nil_suffix
theorem suf_fixed (wd : Int) (l : List Int) (e : Int) : (fixedR wd l e).2.1 <:+ l := by
  unfold fixedR
  split
  · exact List.nil_suffix
  · exact suf_next _ _ _
theorem suf_num (l : List Int) : ∀ i n, (numR i n l).2.2.1 <:+ l := by
  induction l with
  | nil => intro i n; rw [numR]; exact List.suffix_refl _
  | cons b t ih =>
    intro i n
    rw [numR]
    split
    · exact List.suffix_cons b t
    · split
      · exact List.suffix_cons b t
      · exact (ih _ _).trans (List.suffix_cons b t)
theorem suf_var (l : List Int) (e : Int) : (varR l e).2.1 <:+ l := by
  unfold varR
  split
  · split
    · exact suf_num l 0 0
    · exact List.nil_suffix
  · exact List.nil_suffix
theorem suf_id (l : List Int) (e : Int) : (idR l e).2.1 <:+ l := by
  unfold idR
  by_cases he : e = 0
  · rw [if_pos he]
    by_cases hl : l.length < 8
    · rw [if_pos hl]; exact List.nil_suffix
    · rw [if_neg hl]; exact List.drop_suffix 8 l
  · rw [if_neg he]; exact List.nil_suffix
theorem suf_point (l : List Int) (e : Int) : (pointR l e).2.1 <:+ l := by
  unfold pointR
  by_cases he : e = 0
  · rw [if_pos he]
    rcases l with _ | ⟨a, _ | ⟨b, _ | ⟨c, _ | ⟨d, t⟩⟩⟩⟩
    · exact List.nil_suffix
    · exact List.nil_suffix
    · exact List.nil_suffix
    · exact List.nil_suffix
    · exact ⟨[a, b, c, d], rfl⟩
  · rw [if_neg he]; exact List.nil_suffix
theorem suf_text (most : Int) (l : List Int) (e : Int) : (textR most l e).2.1 <:+ l := by
  unfold textR
  split
  · exact List.nil_suffix
  · split
    · exact List.nil_suffix
    · split
      · exact List.nil_suffix
      · exact (suf_next _ _ _).trans (suf_var l e)
theorem suf_took (t : Th) (l : List Int) (e : Int) : (tookR t l e).2.1 <:+ l := by
  unfold tookR
  split
  · exact suf_byte l e
  · split
    · exact suf_fixed _ l e
    · split
      · exact suf_var l e
      · split
        · exact suf_var l e
        · split
          · exact suf_id l e
          · split
            · exact suf_point l e
            · exact suf_text _ l e
theorem IsBytes.suf {l m : List Int} (h : IsBytes l) (hs : m <:+ l) : IsBytes m := fun x hx => h x (hs.subset hx)
theorem add_next (a : Addr) (n i : Nat) (hi : 0 < i) : a.add (n + i) = ⟨(a.add n).block, (a.add n).off + i, none⟩ := by
  unfold Addr.add
  rw [if_neg (by omega)]
  by_cases h : n = 0
  · subst h; simp
  · simp [h, Nat.add_assoc]
/-- the element j of a list of things -/
theorem th_at {w : World} {A : Option Addr} {ts : List Th} (h : Kd.C kTh w A ts.length ts) {j : Nat} (hj : j < ts.length) :
    ∃ t a A' c', ts[j]? = some t ∧ A = some a ∧ t.id.length = 8 ∧ t.t.length ≤ c' ∧ Kd.C (Kd.int .u8) w A' t.t.length t.t ∧ w.cell? (a.add (j * 16)) = some (.int .i64 t.1) ∧ w.cell? ⟨(a.add (j * 16)).block, (a.add (j * 16)).off + 1, none⟩ = some (.int .i64 t.kind) ∧ w.cell? ⟨(a.add (j * 16)).block, (a.add (j * 16)).off + 2, none⟩ = some (.int .u64 t.n) ∧ w.cell? ⟨(a.add (j * 16)).block, (a.add (j * 16)).off + 3, none⟩ = some (.int .i64 t.i) ∧ w.cell? ⟨(a.add (j * 16)).block, (a.add (j * 16)).off + 4, none⟩ = some (.int .i64 t.w) ∧ w.cell? ⟨(a.add (j * 16)).block, (a.add (j * 16)).off + 5, none⟩ = some (.int .u8 (rd t.id 0)) ∧ w.cell? ⟨(a.add (j * 16)).block, (a.add (j * 16)).off + 6, none⟩ = some (.int .u8 (rd t.id 1)) ∧ w.cell? ⟨(a.add (j * 16)).block, (a.add (j * 16)).off + 7, none⟩ = some (.int .u8 (rd t.id 2)) ∧ w.cell? ⟨(a.add (j * 16)).block, (a.add (j * 16)).off + 8, none⟩ = some (.int .u8 (rd t.id 3)) ∧ w.cell? ⟨(a.add (j * 16)).block, (a.add (j * 16)).off + 9, none⟩ = some (.int .u8 (rd t.id 4)) ∧ w.cell? ⟨(a.add (j * 16)).block, (a.add (j * 16)).off + 10, none⟩ = some (.int .u8 (rd t.id 5)) ∧ w.cell? ⟨(a.add (j * 16)).block, (a.add (j * 16)).off + 11, none⟩ = some (.int .u8 (rd t.id 6)) ∧ w.cell? ⟨(a.add (j * 16)).block, (a.add (j * 16)).off + 12, none⟩ = some (.int .u8 (rd t.id 7)) ∧ w.cell? ⟨(a.add (j * 16)).block, (a.add (j * 16)).off + 13, none⟩ = some (.int .i16 t.p.1) ∧ w.cell? ⟨(a.add (j * 16)).block, (a.add (j * 16)).off + 14, none⟩ = some (.int .i16 t.p.2) ∧ w.cell? ⟨(a.add (j * 16)).block, (a.add (j * 16)).off + 15, none⟩ = some (.slice A' t.t.length c') := by
  obtain ⟨a, ha, hk⟩ := h.2.2 (by omega)
  obtain ⟨us, k1, k2, k3⟩ := hk j ts[j] (List.getElem?_eq_getElem hj)
  obtain ⟨h8, A', c', rfl, k4, k5⟩ := thing_at k2
  have k6 : ∀ i u, (thingOf ts[j] A' c')[i]? = some u → w.cell? (a.add (j * 16 + i)) = some u := fun i u hu => k3 i u (by simpa using hu)
  have k7 : ∀ i u, 0 < i → (thingOf ts[j] A' c')[i]? = some u → w.cell? ⟨(a.add (j * 16)).block, (a.add (j * 16)).off + i, none⟩ = some u := fun i u hi hu => by rw [<- add_next a (j * 16) i hi]; exact k6 i u hu
  refine ⟨ts[j], a, A', c', List.getElem?_eq_getElem hj, ha, h8, k4, k5, k6 0 _ rfl, k7 1 _ (by decide) rfl, k7 2 _ (by decide) rfl, k7 3 _ (by decide) rfl, k7 4 _ (by decide) rfl, k7 5 _ (by decide) rfl, k7 6 _ (by decide) rfl, k7 7 _ (by decide) rfl, k7 8 _ (by decide) rfl, k7 9 _ (by decide) rfl, k7 10 _ (by decide) rfl, k7 11 _ (by decide) rfl, k7 12 _ (by decide) rfl, k7 13 _ (by decide) rfl, k7 14 _ (by decide) rfl, k7 15 _ (by decide) rfl⟩
theorem RAt.lower {w : World} {base base' g : Nat} {v : Value} {l : List Int} {e : Int} (h : RAt w base g v l e) (hb : base' ≤ base) : RAt w base' g v l e := by
  refine ⟨h.blk, Nat.le_trans hb h.ge, ?_⟩
  rcases h.val with ⟨h0, gb, off, c, hv, h1, h2, h3, h4, h5⟩ | h0
  · exact Or.inl ⟨h0, gb, off, c, hv, h1, h2, h3, Nat.le_trans hb h4, h5⟩
  · exact Or.inr h0
/-- what a read of a reader with a fault answers -/
def dead (t : Th) : Th := (0, kindOf t.kind, 0, 0, if kindOf t.kind = 1 then t.w else 0, zero8, (0, 0), [])
theorem tookR_dead (t : Th) (e : Int) (he : e ≠ 0) : tookR t [] e = (dead t, [], e) := by
  have hf : ∀ x, failE x e = e := fun x => by simp [failE, he]
  have hn : ∀ n, nextR n [] e = ([], [], e) := fun n => by simp [nextR, he]
  have hv : varR [] e = (0, [], e) := by simp [varR, he]
  unfold tookR dead
  rcases kind_cases t.kind with h | h | h | h | h | h | h
  · simp [h, byteR, he]
  · by_cases hw : t.w < 1 ∨ 8 < t.w
    · simp [h, fixedR, hw, hf]
    · simp [h, fixedR, hw, hn, fixN]
  · simp [h, hv]
  · simp [h, hv, backI]
  · simp [h, idR, he, zero8]
  · simp [h, pointR, he]
  · have : textR t.w [] e = ([], [], e) := by
      unfold textR
      rw [hv, hf, hf, hf]
      split
      · rfl
      · split
        · rfl
        · split
          · rfl
          · exact hn _
    simp [h, this]
end Go.Proofs.Ytjijmikpoenbcaa.Codec
