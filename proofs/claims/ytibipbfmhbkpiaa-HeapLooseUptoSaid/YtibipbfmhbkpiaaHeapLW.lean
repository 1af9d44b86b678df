/- The walk of HeapLoose. Conditions: those that stand in each theorem. Written by wip/gen/heaplw.py. -/
import Derived.Test.YtibipbfmhbkpiaaHeapSL
import Derived.Test.YtibipbfmhbkpiaaHeapIIC
import Derived.Test.YtibipbfmhbkpiaaHeapLo
import Derived.Deep.Upon
namespace Go.Proofs.Ytibipbfmhbkpiaa.HeapII
open Go.RowKit Go.Proofs.YtibipbfmhbkpiaaW.PrintWords Go.Proofs.YtibipbfmhbkpiaaW.PrintLast Go.Proofs.YtibipbfmhbkpiaaW.PrintMore Go.Proofs.Ytibipbfmhbkpiaa.HeapW Go.Proofs.Ytibipbfmhbkpiaa.HeapP Go.Proofs.Ytibipbfmhbkpiaa.MapAt Go.Proofs.Ytibipbfmhbkpiaa.Q
set_option linter.unusedVariables false
set_option linter.unusedSimpArgs false
def loose.T8 : Bool × List (List Nat × List Nat) := (true, [([], []), ([], []), ([], []), ([1, 2], [1, 2]), ([3], [3]), ([4], [4]), ([], []), ([], []), ([6, 7], [6, 7]), ([8], [8]), ([9], [9]), ([0, 5, 10], [0, 5, 10]), ([11], [11])])
def loose.B8 : List Nat := [0, 0, 0, 6, 14, 30, 0, 0, 192, 448, 960, 2047, 4095]
theorem loose.tab8 : rtab .any (opsOf Try.f5 8) = loose.T8 := by kernel_rfl
theorem loose.bits8 : waitsOk loose.T8.2 loose.B8 = true := by kernel_rfl
def loose.T19 : Bool × List (List Nat × List Nat) := (true, [([], []), ([], []), ([], []), ([0, 1, 2], [0, 1, 2]), ([], []), ([], []), ([5], [5]), ([4, 6], [4, 6]), ([3, 7], [3, 7]), ([8, 8, 0, 1, 2, 3, 4, 5, 6, 7, 8], [0, 4, 8])])
def loose.B19 : List Nat := [0, 0, 0, 7, 0, 0, 32, 112, 255, 511]
theorem loose.tab19 : rtab .any (opsOf Try.f5 19) = loose.T19 := by kernel_rfl
theorem loose.bits19 : waitsOk loose.T19.2 loose.B19 = true := by kernel_rfl
def loose.T29 : Bool × List (List Nat × List Nat) := (true, [([], []), ([], []), ([], []), ([0, 1, 2], [0, 1, 2]), ([], []), ([], []), ([5], [5]), ([4, 6], [4, 6]), ([3, 7], [3, 7]), ([8, 8, 0, 1, 2, 3, 4, 5, 6, 7, 8], [0, 4, 8])])
def loose.B29 : List Nat := [0, 0, 0, 7, 0, 0, 32, 112, 255, 511]
theorem loose.tab29 : rtab .any (opsOf Try.f5 29) = loose.T29 := by kernel_rfl
theorem loose.bits29 : waitsOk loose.T29.2 loose.B29 = true := by kernel_rfl
structure Seen (w : World) (base : Nat) (v : Value) (xs : List S49) : Prop where
  out : ∃ (A : Option Addr) (c : Nat), v = .slice A xs.length c ∧ xs.length ≤ c ∧ Kd.C k49 w A xs.length xs ∧ ∀ a, A = some a → base ≤ a.block ∧ ∃ cells, w.heap[a.block]? = some (.cells cells 49 (0, 0))
theorem Seen.of_R {w : World} {base : Nat} {ok : Nat → Prop} {v : Value} {xs : List S49} (h : Kd.R k49 49 w base ok v xs) : Seen w base v xs := by
  obtain ⟨A, c, rfl, h1, h2⟩ := Kd.R_reads h
  exact ⟨A, c, rfl, h1, h2, fun a ha => by subst ha; exact ⟨Kd.R_base h _ rfl, Kd.R_typed h _ rfl⟩⟩
theorem c49_move {w w' : World} {A : Option Addr} {n : Nat} {xs : List S49} (h : Kd.C k49 w A n xs) (hm : ∀ a, A = some a → w'.heap[a.block]? = w.heap[a.block]?) : Kd.C k49 w' A n xs := by
  obtain ⟨h1, h2, h3⟩ := h
  refine ⟨h1, h2, fun hn => ?_⟩
  obtain ⟨a, ha, hj⟩ := h3 hn
  refine ⟨a, ha, fun j p hp => ?_⟩
  obtain ⟨c, c1, c2, c3⟩ := hj j p hp
  refine ⟨c, c1, ?_, fun i u hu => ?_⟩
  · rw [k49_open c2]
    exact k49_mk w' p
  · rw [← c3 i u hu]
    refine World.cell?_of_block ?_
    rw [add_block]
    exact hm a ha
theorem Seen.move {w w' : World} {base : Nat} {v : Value} {xs : List S49} (h : Seen w base v xs) (hm : ∀ k, k < w.heap.size → base ≤ k → (∃ cells, w.heap[k]? = some (.cells cells 49 (0, 0))) → w'.heap[k]? = w.heap[k]?) : Seen w' base v xs := by
  obtain ⟨A, c, rfl, h1, h2, h3⟩ := h.out
  have hm' : ∀ a, A = some a → w'.heap[a.block]? = w.heap[a.block]? := fun a ha => by
    obtain ⟨h4, cells, h5⟩ := h3 a ha
    exact hm _ (blk_lt h5) h4 ⟨cells, h5⟩
  exact ⟨A, c, rfl, h1, c49_move h2 hm', fun a ha => ⟨(h3 a ha).1, by rw [hm' a ha]; exact (h3 a ha).2⟩⟩
theorem Seen.below {w w' : World} {base : Nat} {v : Value} {xs : List S49} (h : Seen w base v xs) (hb : Below w.heap.size w w') : Seen w' base v xs := h.move (fun k hk _ _ => hb.block k hk)
theorem HAt.keepS {w w' : World} {base base' g : Nat} {fv : Value} {A : Option Addr} {cap b : Nat} {l : List It} {c : Int} {v : Value} {xs : List S49} (h : HAt w base g fv A cap b l c) (hr : Seen w base' v xs) (hc : Chg (hfp g A b) w w') : Seen w' base' v xs :=
  hr.move (fun k hk _ hcell => hc.block k hk (fun hf => by
    obtain ⟨cells, hcell⟩ := hcell
    rcases hf with rfl | rfl | ⟨a, rfl, rfl⟩
    · rw [h.blk] at hcell
      exact absurd hcell (by intro q; cases q)
    · exact h.map.ne hcell rfl
    · obtain ⟨inner, ho⟩ := Kd.R_own h.row
      obtain ⟨cs, hcs⟩ := own_typed ho a.block rfl
      rw [hcs] at hcell
      exact absurd hcell (by intro q; cases q)))
theorem infoSB : (Try.prog.info? 4).map (fun i => (i.zero, i.size, i.bytes)) = some (some (.bool false), 1, 1) := by kernel_rfl
theorem infoSS : (Try.prog.info? 49).map (fun i => (i.zero, i.size, i.bytes)) = some (some (.agg #[.int .i64 0, .int .i64 0]), 2, 16) := by kernel_rfl
theorem apprun_ {P : Program} {Q : Exit → Act → World → Prop} {ops : Array Oper} {oi : Oper} {N : Option Tmp} {a : Act} {w w1 : World} {K : Act → World → Prop} {s x : Operand} {t : TypeId} (hw : Region.wanted oi (yielded ops a.tmps) = true) (hN : oi.dst = N)
    (ho : oi.op = .call { callee := .builtin .append, args := #[s, x], argTypes := #[t, t] }) (vs vx v : Value) (hs : a.eval s = vs) (hx : a.eval x = vx) (hrun : (Builtin.append_ #[t, t] oi.type #[vs, vx]).run P w = .ok v w1) (h : K (a.put N v) w1) :
    if Region.wanted oi (yielded ops a.tmps) = true then Oper.wp P oi a w K Q else K (a.put N undef) w := by
  refine value_ (v := v) (w1 := w1) hw hN ?_ h
  unfold execOp
  simp [ho, resolve, invoke, builtin, hs, hx, hrun]
theorem erase_map (M : List It) (k : Nat) : (M.map toS).eraseIdx k = (M.eraseIdx k).map toS := by
  rw [List.eraseIdx_eq_take_drop_succ, List.eraseIdx_eq_take_drop_succ, List.map_append, List.map_take, List.map_drop]
theorem relM_top {lt : Int → Int → Bool} {hl M : List It} {c : Int} (h : RelM hl c M) (h0 : 0 < hl.length) : ∃ k, idxL M (at_ hl 0).1 = some k ∧ k < M.length ∧ at_ M k = at_ hl 0 ∧ RelM (dropL lt hl 0) c (M.eraseIdx k) ∧ idxL (dropL lt hl 0) (at_ hl 0).1 = none := by
  have hm : at_ hl 0 ∈ M := h.perm.mem_iff.1 (at_mem h0)
  obtain ⟨k, hk, e⟩ := List.getElem_of_mem hm
  have hat : at_ M k = at_ hl 0 := by rw [at_eq hk, e]
  have hi : idxL M (at_ hl 0).1 = some k := by rw [← hat]; exact idx_at h.keysM hk
  have hd := h.drop (lt := lt) (idx_at h.keys h0)
  refine ⟨k, hi, hk, hat, by rw [← filter_erase h.keysM hi]; exact hd, ?_⟩
  rw [hd.idx, idx_none]
  intro x hx
  have := (List.mem_filter.1 hx).2
  simpa using this
/-- append(l[:k:k], l[k+1:]...) -/
theorem cut_run (w : World) (base : Nat) (hb : base ≤ w.heap.size) (adw : Addr) (cw k k1 : Nat) (W : List S49) (hk1 : k1 = k + 1) (hS : Seen w base (.slice (some adw) W.length cw) W) (hk : k < W.length) (hl : W.length ≤ 1048576) :
    ∃ v' w', (Builtin.append_ #[41, 41] 41 #[.slice (some adw) k k, .slice (if cw = k1 then some adw else some (adw.add (k1 * 2))) (W.length - k1) (cw - k1)]).run Try.prog w = .ok v' w' ∧ Seen w' base v' (W.eraseIdx k) ∧ Below w.heap.size w w' := by
  obtain ⟨A, c, he, h1, h2, h3⟩ := hS.out
  cases he
  obtain ⟨i0, hi, hzz⟩ := Option.map_eq_some_iff.1 infoSS
  simp only [Prod.mk.injEq] at hzz
  obtain ⟨hz0, hz1, hz2⟩ := hzz
  have ht := Kd.C_take h2 (m := k) (by omega)
  have hd := Kd.C_drop h2 (m := k1) (c := cw) (by omega) h1
  have hlt : (W.take k).length = k := by rw [List.length_take]; omega
  have hld : (W.drop k1).length = W.length - k1 := by rw [List.length_drop]
  rw [hlt] at ht
  rw [hld] at hd
  have hif : (if cw = k1 then some adw else Option.map (fun x => x.add (k1 * k49.sz)) (some adw)) = some (if cw = k1 then adw else adw.add (k1 * 2)) := by split <;> rfl
  have hif2 : (if cw = k1 then some adw else some (adw.add (k1 * 2))) = some (if cw = k1 then adw else adw.add (k1 * 2)) := by split <;> rfl
  rw [hif2]
  have hd' : Kd.C k49 w (some (if cw = k1 then adw else adw.add (k1 * 2))) (W.length - k1) (W.drop k1) := by rw [← hif]; exact hd
  have herase : W.eraseIdx k = W.take k ++ W.drop k1 := by rw [List.eraseIdx_eq_take_drop_succ, hk1]
  generalize (if cw = k1 then adw else adw.add (k1 * 2)) = ad2 at hd' ⊢
  have hM : ∀ {W' : World} {x : S49} {cs : List Value}, k49.K w x cs → k49.M W' base (fun _ => False) x cs := fun {W' x cs} h => by rw [k49_open h]; exact k49_mkM W' base _ x
  obtain ⟨olds, o1, o2⟩ := ReadsRow.inner_ ht
  obtain ⟨news, n1, n2⟩ := ReadsRow.inner_ hd'
  have ho : olds.length = k * 2 := by rw [o1.1, hlt]; rfl
  have hn : news.length = (W.length - k1) * 2 := by rw [n1.1, hld]; rfl
  by_cases h0 : W.length = k1
  · have hz : W.length - k1 = 0 := by omega
    have hW0 : W.drop k1 = [] := List.drop_eq_nil_of_le (by omega)
    rw [hz] at hn ⊢
    have hnil : news = [] := List.eq_nil_of_length_eq_zero (by omega)
    refine ⟨_, w, Go.run_append_nothing w 41 41 41 49 i0 Try.underlying41 hi (some adw) k k (Nat.le_refl _) _ (Go.Src.ofSlice w Try.underlying41 ad2 0 _ [] (by simp) (fun j u hu => by simp at hu) (fun u hu => by cases hu)), ?_, Below.refl _ _⟩
    rw [herase, hW0, List.append_nil]
    exact ⟨some adw, k, by rw [hlt], by omega, by rw [hlt]; exact ht, h3⟩
  · obtain ⟨v', w', hr, hown, hg⟩ := Go.run_append_arg_grows (P := Try.prog) (w := w) 41 41 49 i0 (.agg #[.int .i64 0, .int .i64 0]) 2 16 Try.underlying41 hi hz0 hz1 hz2 rfl (by decide) adw k k olds ho o2 ad2 (W.length - k1) (cw - k1) news hn n2 (by omega) (by simp only [maxLen]; omega) (by omega)
    refine ⟨v', w', hr, ?_, ⟨hg.os, hg.tape, hg.output, hg.size, fun i hi' => hg.block i hi' (by simp)⟩⟩
    rw [herase]
    refine Seen.of_R (ok := fun _ => True) ⟨fun _ _ => trivial, olds ++ news, ?_, ?_⟩
    · rw [List.length_append, hlt, hld]
      exact own_weaken hown hb
    · exact Kd.reps_append (o1.imp_ (fun p c hp => k49.M_mono (fun k hk => hk.elim) (hM hp))) (n1.imp_ (fun p c hp => k49.M_mono (fun k hk => hk.elim) (hM hp)))
set_option maxHeartbeats 8000000 in
set_option maxRecDepth 100000 in
theorem loose_walk (A0 : Option Addr) (c0 : Nat) (l : List S49) (A1 : Option Addr) (c1 : Nat) (ds : List Int) (order : Int) (w : World) (hr : Kd.C k49 w A0 l.length l) (hc : l.length ≤ c0) (hl : l.length ≤ 1048576) (hk : ∀ x ∈ l, okK x.f0) (hr1 : Kd.C (Kd.int .i64) w A1 ds.length ds) (hc1 : ds.length ≤ c1) (hl1 : ds.length ≤ 1048576) (hk1 : ∀ x ∈ ds, okK x) :
    Calls Try.prog 5 #[.slice A0 l.length c0, .slice A1 ds.length c1, .int .i64 order] w fun e w' => e = .returned (.bool true) ∧ Below w.heap.size w w' := by
  have HR := Aside0.mk hr
  have HC := Aside0.mk hc
  have HL := Aside0.mk hl
  have HK := Aside0.mk hk
  have HR1 := Aside0.mk hr1
  have HC1 := Aside0.mk hc1
  have HL1 := Aside0.mk hl1
  have HK1 := Aside0.mk hk1
  clear hr hc hl hk hr1 hc1 hl1 hk1
  go_enter Try.func5, Try.ntmps5
  go_wp2_with fail
  refine (loose_calls order _).mono ?_
  rintro e w1 ⟨f, lt, rfl, hless, hb⟩
  have HB1 := Aside0.mk hb
  have HLS := Aside0.mk hless
  clear hb hless
  go_wp2_with fail
  refine (new_calls f w1).mono ?_
  rintro e w2 ⟨g, b, rfl, h, hb⟩
  have HB2 := Aside0.mk (below_then HB1.out HB1.out.size hb)
  have H2 := Aside0.mk (h.lower HB1.out.size)
  clear h hb HB1
  go_wp2_with fail
  refine (HeapSI.alive_calls w2).mono ?_
  rintro e w3 ⟨rfl, hb⟩
  have HB3 := Aside0.mk (below_then HB2.out HB2.out.size hb)
  have H3 := Aside0.mk (H2.out.below hb)
  clear hb HB2 H2
  go_wp2_with fail
  go_loopg [8, 9] l.length (fun kq v8 v9 w' => ∃ (i : Nat) (hl : List It) (A : Option Addr) (cap : Nat), v9 = .int .i64 i ∧ Aside0 (i + kq = l.length) ∧ Aside0 (HAt w' w.heap.size g (.func (.func f) #[] #[]) A cap b hl i) ∧ Aside0 (RelM hl i (cameL (l.map toP) i) ∧ True) ∧ Aside0 (k49.R 49 w' w.heap.size (fun _ => True) v8 (wantS l i)) ∧ Aside0 (Below w.heap.size w w'))
  case atStart => exact ⟨0, [], none, 0, rfl, ⟨by omega⟩, H3, ⟨RelM.empty, trivial⟩, ⟨Kd.R_nil _ _ _ _ _⟩, HB3⟩
  case round =>
    clear H3 HB3
    obtain ⟨i, hl, A, cap, rfl, HI, H, HM, HW, HB⟩ := hrel
    cases gk with
    | zero =>
      have hi : i = l.length := by have := HI.out; omega
      obtain ⟨M, hM⟩ : ∃ M, M = cameL (l.map toP) l.length := ⟨_, rfl⟩
      have hWl := wantS_came l
      rw [hi, ← hM] at HM
      rw [← hM] at hWl
      rw [hi] at HW H
      rw [hWl] at HW
      have hMl : M.length ≤ 1048576 := by rw [hM]; exact Nat.le_trans (came_len l _) HL.out
      have HML := Aside0.mk hMl
      have HS := Aside0.mk (Seen.of_R HW.out)
      have HM := Aside0.mk HM.out.1
      clear hWl hM hMl HW
      generalize hC : (l.length : Int) = C at H HM
      clear hC
      have hgt : decide (i < l.length) = false := decide_eq_false (by omega)
      clear hi
      go_wp2_with fail
      go_loopg [8, 10] ds.length (fun kq v8 v10 w' => ∃ (j : Nat) (hl M : List It), v10 = .int .i64 j ∧ Aside0 (j + kq = ds.length ∧ M.length ≤ 1048576) ∧ Aside0 (HAt w' w.heap.size g (.func (.func f) #[] #[]) A cap b hl C) ∧ Aside0 (RelM hl C M) ∧ Aside0 (Seen w' w.heap.size v8 (M.map toS)) ∧ Aside0 (Below w.heap.size w w'))
      case atStart => exact ⟨0, hl, M, rfl, ⟨by omega, HML.out⟩, H, HM, HS, HB⟩
      case round =>
        clear H HML HM HS HB hgt
        obtain ⟨j, hl, M, rfl, HJ, H, HM, HS, HB⟩ := hrel
        cases gk with
        | zero =>
          have hgt : decide (j < ds.length) = false := decide_eq_false (by have := HJ.out; omega)
          go_wp2_with fail
          go_loopg [8] M.length (fun kq v8 w' => ∃ (hl M : List It), Aside0 (M.length = kq ∧ M.length ≤ 1048576) ∧ Aside0 (HAt w' w.heap.size g (.func (.func f) #[] #[]) A cap b hl C) ∧ Aside0 (RelM hl C M) ∧ Aside0 (Seen w' w.heap.size v8 (M.map toS)) ∧ Aside0 (Below w.heap.size w w'))
          case atStart => exact ⟨hl, M, ⟨rfl, HJ.out.2⟩, H, HM, HS, HB⟩
          case round =>
            clear H HJ HM HS HB hgt
            obtain ⟨hl, M, HJ, H, HM, HS, HB⟩ := hrel
            obtain ⟨Aw, cw, rfl, hcw, hCw, htw⟩ := HS.out
            obtain ⟨W, hW⟩ : ∃ W, W = M.map toS := ⟨_, rfl⟩
            rw [← hW] at hcw hCw HS ⊢
            have HWE := Aside0.mk hW
            have HWL : Aside0 (W.length = M.length) := ⟨by rw [hW, List.length_map]⟩
            have HCW := Aside0.mk hcw
            have HCC := Aside0.mk hCw
            clear hW hcw hCw htw
            have hlp := HM.out.perm.length_eq
            have HLP := Aside0.mk hlp
            clear hlp
            cases gk with
            | zero =>
              have hgt : decide (0 < W.length) = false := decide_eq_false (by have := HJ.out; have := HWL.out; omega)
              have hl0 : hl = [] := List.eq_nil_of_length_eq_zero (by have := HJ.out; have := HLP.out; omega)
              subst hl0
              go_wp2_with fail
              refine (first_none w.heap.size g _ A cap b C _ H.out).mono ?_
              rintro e w20 ⟨rfl, hb⟩
              have HB20 := Aside0.mk (below_step HB.out hb)
              have H20 := Aside0.mk (H.out.below hb)
              clear hb
              go_wp2_with fail
              refine (len_calls w.heap.size g _ A cap b [] C _ H20.out).mono ?_
              rintro e w21 ⟨rfl, hw_⟩
              replace hw_ := hw_.symm
              subst hw_
              rw [show ([] : List It).length = 0 from rfl]
              go_wp2
              go_ret
              exact ⟨rfl, HB20.out⟩
            | succ gk =>
              have hgt : decide (0 < W.length) = true := decide_eq_true (by have := HJ.out; have := HWL.out; omega)
              have hlp : 0 < hl.length := by have := HJ.out; have := HLP.out; omega
              obtain ⟨k, hk1, hk2, hk3, hk4, hk5⟩ := relM_top (lt := lt) HM.out hlp
              have HLP0 := Aside0.mk hlp
              have HK1 := Aside0.mk hk1
              have HK2 := Aside0.mk hk2
              have HK3 := Aside0.mk hk3
              have HM4 := Aside0.mk hk4
              have HK5 := Aside0.mk hk5
              have HKX : Aside0 (okK (at_ hl 0).1) := ⟨H.out.okk _ (at_mem hlp)⟩
              clear hlp hk1 hk2 hk3 hk4 hk5
              go_wp2_with fail
              refine (first_calls w.heap.size g _ A cap b hl C _ H.out HLP0.out).mono ?_
              rintro e w20 ⟨rfl, hb⟩
              have HB20 := Aside0.mk (below_step HB.out hb)
              have H20 := Aside0.mk (H.out.below hb)
              have HS20 := Aside0.mk (HS.out.below hb)
              have HC20 := Aside0.mk (Kd.C_below HCC.out hb)
              clear hb HB H HS HCC
              have hp := pop_calls w.heap.size g f lt HLS.out A cap b hl C
              have HP := Aside0.mk hp
              clear hp
              obtain ⟨x, hx⟩ : ∃ x, x = at_ hl 0 := ⟨_, rfl⟩
              rw [← hx] at HP HK1 HK3 HK5 HKX ⊢
              clear hx
              go_wp2_with fail
              refine (cabstandlaw07_find.calls (W.length + 1) Aw cw W x.1 k _ HC20.out HCW.out (by rw [HWE.out]; exact find_some HM.out.keysM HK1.out (by have := HJ.out; omega))).mono ?_
              rintro e w21 ⟨rfl, nq, rfl⟩
              have hbq : Below w20.heap.size w20 (w20.drewN nq) := pw_below_drewN (Below.refl _ _) nq
              have HB21 := Aside0.mk (below_step HB20.out hbq)
              have H21 := Aside0.mk (H20.out.below hbq)
              have HS21 := Aside0.mk (HS20.out.below hbq)
              have HC21 := Aside0.mk (Kd.C_below HC20.out hbq)
              clear HB20 H20 HS20 HC20 hbq
              generalize w20.drewN nq = w21 at HB21 H21 HS21 HC21 ⊢
              have hkW : (k : Int) < W.length := by rw [HWL.out]; have := HK2.out; omega
              have hWk : (W.getD k z49).f1 = x.2.1 := by rw [HWE.out, getD_toS M HK2.out, HK3.out]; rfl
              obtain ⟨adw, ea, hxa, hxb⟩ := at_T49 HC21.out k (by omega) hkW
              rw [rd_nat, Int.toNat_natCast, hWk] at hxb
              cases ea
              clear hxa
              have hkk : 0 ≤ (k : Int) := by omega
              go_wp2_with fail
              refine (len_calls w.heap.size g _ A cap b hl C _ H21.out).mono ?_
              rintro e w22 ⟨rfl, hw_⟩
              replace hw_ := hw_.symm
              subst hw_
              rw [show hl.length = W.length from HLP.out.trans HWL.out.symm]
              go_wp2_with fail
              refine (HP.out _ H21.out HLP0.out (by have := HLP.out; have := HJ.out; omega)).mono ?_
              rintro e w22 ⟨rfl, h, hc⟩
              have HB22 := Aside0.mk (HeapSI.chg_below HB21.out hc H21.out.fp_ge)
              have H22 := Aside0.mk h
              have HS22 := Aside0.mk (H21.out.keepS HS21.out hc)
              clear h hc hxb HB21 H21 HS21 HC21 HP
              generalize dropL lt hl 0 = hl2 at H22 HM4 HK5
              obtain ⟨A_, c_, he_, hcw_, hCw_, _⟩ := HS22.out
              cases he_
              have HC22 := Aside0.mk hCw_
              clear hcw_ hCw_
              go_wp2_with fail
              refine (cabstandlaw07_find.calls (W.length + 1) (some adw) cw W x.1 k _ HC22.out HCW.out (by rw [HWE.out]; exact find_some HM.out.keysM HK1.out (by have := HJ.out; omega))).mono ?_
              rintro e w23 ⟨rfl, nq, rfl⟩
              have hbq : Below w22.heap.size w22 (w22.drewN nq) := pw_below_drewN (Below.refl _ _) nq
              have HB23 := Aside0.mk (below_step HB22.out hbq)
              have H23 := Aside0.mk (H22.out.below hbq)
              have HS23 := Aside0.mk (HS22.out.below hbq)
              have HC23 := Aside0.mk (Kd.C_below HC22.out hbq)
              clear HB22 H22 HS22 HC22 hbq
              generalize w22.drewN nq = w23 at HB23 H23 HS23 HC23 ⊢
              obtain ⟨ad_, ea, hxa, hxb⟩ := at_T49 HC23.out k (by omega) hkW
              rw [rd_nat, Int.toNat_natCast, hWk] at hxb
              cases ea
              clear hxa hWk
              have hkc : (k : Int) ≤ cw := by have := HK2.out; have := HWL.out; have := HCW.out; omega
              have hWc : (W.length : Int) ≤ cw := by have := HCW.out; omega
              obtain ⟨k1, hk1⟩ : ∃ k1, k1 = k + 1 := ⟨_, rfl⟩
              have hw1 : wrap64 ((k : Int) + 1) = (k1 : Int) := by unfold wrap64; have := HWL.out; have := HJ.out; omega
              have hk1W : k1 ≤ W.length := by omega
              have HKN := Aside0.mk hk1
              clear hk1
              go_wp2_with fail
              have HB13 : Aside0 (Below w.heap.size w w23.drew) := ⟨below_drew HB23.out⟩
              have H13 : Aside0 (HAt w23.drew w.heap.size g (.func (.func f) #[] #[]) A cap b hl2 C) := ⟨H23.out.below (below_drew1 (Below.refl _ _))⟩
              have HS13 : Aside0 (Seen w23.drew w.heap.size (.slice (some adw) W.length cw) W) := ⟨HS23.out.below (below_drew1 (Below.refl _ _))⟩
              clear HB23 H23 HS23 HC23 hxb

              refine start_ (n := 10) (S := fun w' => True) (ds := [8]) #[false, false, false, false, false, false, false, false, false, false] (by kernel_rfl) rfl rfl trivial (fun hHeld => ?_)
              refine with_tabW loose.tab29 loose.bits29 (fun HT_ HW_ => ?_)
              generalize w23.drew = w13 at HB13 H13 HS13 hHeld ⊢
              obtain ⟨v14, w14, hrun, hs, hb⟩ := cut_run w13 w.heap.size HB13.out.size adw cw k k1 W HKN.out HS13.out (by have := hk1W; have := HKN.out; omega) (by have := HWL.out; have := HJ.out; omega)
              refine pure_ (i := 0) (N := some 149) (v := ?_) (a' := ?_) #[true, false, false, false, false, false, false, false, false, false] rfl rfl (any_of HT_.out (by kernel_rfl)) (fun _ _ _ h => h) (Or.inl ⟨by rfl, ?_⟩) ?_ ?_
              rotate_left
              · intro w'
                go_simp
                with_reducible rfl
              rotate_left
              · simp only [Act.put, List.setIfInBounds_toArray, List.set_cons_zero, List.set_cons_succ, i64_w, i32_w]
                rfl
              refine pure_ (i := 1) (N := some 150) (v := ?_) (a' := ?_) #[true, true, false, false, false, false, false, false, false, false] rfl rfl (any_of HT_.out (by kernel_rfl)) (fun _ _ _ h => h) (Or.inl ⟨by rfl, ?_⟩) ?_ ?_
              rotate_left
              · intro w'
                go_simp
                with_reducible rfl
              rotate_left
              · simp only [Act.put, List.setIfInBounds_toArray, List.set_cons_zero, List.set_cons_succ, i64_w, i32_w]
                rfl
              refine pure_ (i := 2) (N := some 151) (v := ?_) (a' := ?_) #[true, true, true, false, false, false, false, false, false, false] rfl rfl (any_of HT_.out (by kernel_rfl)) (fun _ _ _ h => h) (Or.inl ⟨by rfl, ?_⟩) ?_ ?_
              rotate_left
              · intro w'
                go_simp
                with_reducible rfl
              rotate_left
              · simp only [Act.put, List.setIfInBounds_toArray, List.set_cons_zero, List.set_cons_succ, i64_w, i32_w]
                rfl
              refine pure_ (i := 3) (N := some 152) (v := ?_) (a' := ?_) #[true, true, true, true, false, false, false, false, false, false] rfl rfl (any_of HT_.out (by kernel_rfl)) (fun _ _ _ h => h) (Or.inl ⟨by rfl, ?_⟩) ?_ ?_
              rotate_left
              · intro w'
                go_simp
                with_reducible rfl
              rotate_left
              · simp only [Act.put, List.setIfInBounds_toArray, List.set_cons_zero, List.set_cons_succ, i64_w, i32_w]
                rfl
              refine pure_ (i := 4) (N := some 153) (v := ?_) (a' := ?_) #[true, true, true, true, true, false, false, false, false, false] rfl rfl (any_of HT_.out (by kernel_rfl)) (fun _ _ _ h => h) (Or.inl ⟨by rfl, ?_⟩) ?_ ?_
              rotate_left
              · intro w'
                go_simp
                with_reducible rfl
              rotate_left
              · simp only [Act.put, List.setIfInBounds_toArray, List.set_cons_zero, List.set_cons_succ, i64_w, i32_w]
                rfl
              refine pure_ (i := 5) (N := some 154) (v := ?_) (a' := ?_) #[true, true, true, true, true, true, false, false, false, false] rfl rfl (any_of HT_.out (by kernel_rfl)) (fun _ _ _ h => h) (Or.inl ⟨by rfl, ?_⟩) ?_ ?_
              rotate_left
              · intro w'
                go_simp
                with_reducible rfl
              rotate_left
              · simp only [Act.put, List.setIfInBounds_toArray, List.set_cons_zero, List.set_cons_succ, i64_w, i32_w]
                rfl
              refine pure_ (i := 6) (N := some 155) (v := ?_) (a' := ?_) #[true, true, true, true, true, true, true, false, false, false] rfl rfl (any_of HT_.out (by kernel_rfl)) (fun _ _ _ h => h) (Or.inl ⟨by rfl, ?_⟩) ?_ ?_
              rotate_left
              · intro w'
                go_simp
                with_reducible rfl
              rotate_left
              · simp only [Act.put, List.setIfInBounds_toArray, List.set_cons_zero, List.set_cons_succ, i64_w, i32_w]
                rfl
              refine pure_ (i := 7) (N := some 156) (v := ?_) (a' := ?_) #[true, true, true, true, true, true, true, true, false, false] rfl rfl (any_of HT_.out (by kernel_rfl)) (fun _ _ _ h => h) (Or.inl ⟨by rfl, ?_⟩) ?_ ?_
              rotate_left
              · intro w'
                go_simp
                with_reducible rfl
              rotate_left
              · simp only [Act.put, List.setIfInBounds_toArray, List.set_cons_zero, List.set_cons_succ, i64_w, i32_w]
                rfl
              refine last_ (i := 8) (N := some 157) #[true, true, true, true, true, true, true, true, true, false] rfl rfl (one_of HT_.out (by kernel_rfl)) (by decide) (fun K hK => ?_)
              generalize (if cw = k1 then some adw else some (adw.add (k1 * 2))) = aif at hrun ⊢
              refine apprun_ (by rfl) rfl rfl _ _ _ rfl rfl hrun ?_
              refine hK.out _ _ ?_
              clear hK K
              refine norm_ (a' := ?_) ?_ ?_
              rotate_left
              · show Act.put _ (some 157) _ = _
                simp only [Act.put, List.setIfInBounds_toArray, List.set_cons_zero, List.set_cons_succ, i64_w, i32_w]
                rfl
              refine pure_ (i := 9) (N := some 8) (v := ?_) (a' := ?_) #[true, true, true, true, true, true, true, true, true, true] rfl rfl (any_of HT_.out (by kernel_rfl)) (fun _ _ _ h => h) (Or.inl ⟨by rfl, ?_⟩) ?_ ?_
              rotate_left
              · intro w'
                go_simp
                with_reducible rfl
              rotate_left
              · simp only [Act.put, List.setIfInBounds_toArray, List.set_cons_zero, List.set_cons_succ, i64_w, i32_w]
                rfl
              refine done_ (done_of HT_.out (by kernel_rfl)) ?_
              have HB14 := Aside0.mk (below_step HB13.out hb)
              have H14 := Aside0.mk (H13.out.below hb)
              have HS14 : Aside0 (Seen w14 w.heap.size v14 ((M.eraseIdx k).map toS)) := ⟨by rw [← erase_map, ← HWE.out]; exact hs⟩
              have hel : (M.eraseIdx k).length = gk ∧ (M.eraseIdx k).length ≤ 1048576 := by rw [List.length_eraseIdx, if_pos HK2.out]; have := HJ.out; omega
              have HEL := Aside0.mk hel
              clear hel hs hb hrun HB13 H13 HS13
              go_wp2_with fail
              refine (rank_none w.heap.size g _ A cap b hl2 C x.1 _ H14.out HKX.out HK5.out).mono ?_
              rintro e w24 ⟨rfl, hw_⟩
              replace hw_ := hw_.symm
              subst hw_
              go_wp2
              go_roundg gk
              case measure => omega
              case rel => exact ⟨hl2, M.eraseIdx k, HEL, H14, HM4, HS14, HB14⟩
        | succ gk =>
          have hjl : (j : Int) < ds.length := by have := HJ.out; omega
          obtain ⟨ad1, e1, hx1⟩ := Kd.at_int HR1.out j (by omega) hjl
          rw [Int.toNat_natCast] at hx1
          replace hx1 := pw_cell_below HB.out hx1
          cases e1
          obtain ⟨d, hd⟩ : ∃ d, d = rd ds j := ⟨_, rfl⟩
          rw [← hd] at hx1
          have HD := Aside0.mk hd
          have HKD : Aside0 (okK d) := ⟨HK1.out d (by rw [hd]; unfold rd; rw [Int.toNat_natCast, List.getD_eq_getElem?_getD, List.getElem?_eq_getElem (show j < ds.length by omega)]; exact List.getElem_mem _)⟩
          clear hd
          obtain ⟨Aw, cw, rfl, hcw, hCw, htw⟩ := HS.out
          obtain ⟨W, hW⟩ : ∃ W, W = M.map toS := ⟨_, rfl⟩
          rw [← hW] at hcw hCw HS ⊢
          have HWE := Aside0.mk hW
          have HWL : Aside0 (W.length = M.length) := ⟨by rw [hW, List.length_map]⟩
          have HCW := Aside0.mk hcw
          have HCC := Aside0.mk hCw
          clear hW hcw hCw htw
          have hlp := HM.out.perm.length_eq
          have HLP := Aside0.mk hlp
          clear hlp
          cases hid : idxL M d with
          | none =>
            have hid' : idxL hl d = none := HM.out.idx.2 hid
            have HID := Aside0.mk hid
            have HID' := Aside0.mk hid'
            clear hid hid'
            go_wp2_with fail
            refine (cabstandlaw07_find.calls (W.length + 1) Aw cw W d (-1) _ HCC.out HCW.out (by rw [HWE.out]; exact find_none HID.out (by have := HJ.out; omega))).mono ?_
            rintro e w11 ⟨rfl, nq, rfl⟩
            have HB11 : Aside0 (Below w.heap.size w (wr.drewN nq)) := ⟨pw_below_drewN HB.out nq⟩
            have H11 : Aside0 (HAt (wr.drewN nq) w.heap.size g (.func (.func f) #[] #[]) A cap b hl C) := ⟨H.out.below (pw_below_drewN (Below.refl _ _) nq)⟩
            have HS11 : Aside0 (Seen (wr.drewN nq) w.heap.size (.slice Aw W.length cw) W) := ⟨HS.out.below (pw_below_drewN (Below.refl _ _) nq)⟩
            have hx1' := pw_cell_below (pw_below_drewN (Below.refl wr.heap.size wr) nq) hx1
            clear HB H HS hx1
            generalize wr.drewN nq = w11 at HB11 H11 HS11 hx1' ⊢
            go_wp2_with fail
            refine (drop_none w.heap.size g _ A cap b hl C d _ H11.out HKD.out HID'.out).mono ?_
            rintro e w12 ⟨rfl, hw_⟩
            replace hw_ := hw_.symm
            subst hw_
            go_wp2
            go_roundg gk
            case measure => omega
            case rel => exact ⟨j + 1, hl, M, by first | rfl | (simp; unfold wrap64; have := HL1.out; have := HJ.out; omega), ⟨by have := HJ.out; omega, HJ.out.2⟩, H11, HM, ⟨by rw [← HWE.out]; exact HS11.out⟩, HB11⟩
          | some k =>
            obtain ⟨i', hid'⟩ : ∃ i', idxL hl d = some i' := by
              cases h : idxL hl d with
              | none => rw [HM.out.idx.1 h] at hid; cases hid
              | some i' => exact ⟨i', rfl⟩
            have HID := Aside0.mk hid
            have HID' := Aside0.mk hid'
            clear hid hid'
            go_wp2_with fail
            refine (cabstandlaw07_find.calls (W.length + 1) Aw cw W d k _ HCC.out HCW.out (by rw [HWE.out]; exact find_some HM.out.keysM HID.out (by have := HJ.out; omega))).mono ?_
            rintro e w11 ⟨rfl, nq, rfl⟩
            have HB11 : Aside0 (Below w.heap.size w (wr.drewN nq)) := ⟨pw_below_drewN HB.out nq⟩
            have H11 : Aside0 (HAt (wr.drewN nq) w.heap.size g (.func (.func f) #[] #[]) A cap b hl C) := ⟨H.out.below (pw_below_drewN (Below.refl _ _) nq)⟩
            have HS11 : Aside0 (Seen (wr.drewN nq) w.heap.size (.slice Aw W.length cw) W) := ⟨HS.out.below (pw_below_drewN (Below.refl _ _) nq)⟩
            have hx1' := pw_cell_below (pw_below_drewN (Below.refl wr.heap.size wr) nq) hx1
            clear HB H HS hx1
            generalize wr.drewN nq = w11 at HB11 H11 HS11 hx1' ⊢
            go_wp2_with fail
            refine (drop_calls w.heap.size g f lt HLS.out A cap b hl C d _ H11.out HKD.out HID'.out (by have := HLP.out; have := HJ.out; omega)).mono ?_
            rintro e w12 ⟨rfl, h, hc⟩
            have HB12 := Aside0.mk (HeapSI.chg_below HB11.out hc H11.out.fp_ge)
            have H12 := Aside0.mk h
            have HS12 := Aside0.mk (H11.out.keepS HS11.out hc)
            have HM12 : Aside0 (RelM (dropL lt hl i') C (M.eraseIdx k)) := ⟨by rw [← filter_erase HM.out.keysM HID.out]; exact HM.out.drop HID'.out⟩
            have hkM := (idx_some HID.out).1
            have HKM := Aside0.mk hkM
            clear h hc HB11 H11 HS11 hkM hx1'
            have hkc : (k : Int) ≤ cw := by have := HKM.out; have := HWL.out; have := HCW.out; omega
            have hk1c : (k : Int) + 1 ≤ W.length := by have := HKM.out; have := HWL.out; omega
            have hWc : (W.length : Int) ≤ cw := by have := HCW.out; omega
            obtain ⟨adw, rfl⟩ : ∃ adw, Aw = some adw := by
              obtain ⟨a, ha, _⟩ := HCC.out.2.2 (by have := HKM.out; have := HWL.out; omega)
              exact ⟨a, ha⟩
            obtain ⟨k1, hk1⟩ : ∃ k1, k1 = k + 1 := ⟨_, rfl⟩
            have hw1 : wrap64 ((k : Int) + 1) = (k1 : Int) := by unfold wrap64; have := HWL.out; have := HJ.out; omega
            have hk1W : k1 ≤ W.length := by omega
            have HK1 := Aside0.mk hk1
            clear hk1 hk1c
            go_wp2_with fail
            have HB13 : Aside0 (Below w.heap.size w w12.drew) := ⟨below_drew HB12.out⟩
            have H13 : Aside0 (HAt w12.drew w.heap.size g (.func (.func f) #[] #[]) A cap b (dropL lt hl i') C) := ⟨H12.out.below (below_drew1 (Below.refl _ _))⟩
            have HS13 : Aside0 (Seen w12.drew w.heap.size (.slice (some adw) W.length cw) W) := ⟨HS12.out.below (below_drew1 (Below.refl _ _))⟩
            clear HB12 H12 HS12

            refine start_ (n := 10) (S := fun w' => True) (ds := [8]) #[false, false, false, false, false, false, false, false, false, false] (by kernel_rfl) rfl rfl trivial (fun hHeld => ?_)
            refine with_tabW loose.tab19 loose.bits19 (fun HT_ HW_ => ?_)
            generalize w12.drew = w13 at HB13 H13 HS13 hHeld ⊢
            obtain ⟨v14, w14, hrun, hs, hb⟩ := cut_run w13 w.heap.size HB13.out.size adw cw k k1 W HK1.out HS13.out (by have := hk1W; have := HK1.out; omega) (by have := HWL.out; have := HJ.out; omega)
            refine pure_ (i := 0) (N := some 82) (v := ?_) (a' := ?_) #[true, false, false, false, false, false, false, false, false, false] rfl rfl (any_of HT_.out (by kernel_rfl)) (fun _ _ _ h => h) (Or.inl ⟨by rfl, ?_⟩) ?_ ?_
            rotate_left
            · intro w'
              go_simp
              with_reducible rfl
            rotate_left
            · simp only [Act.put, List.setIfInBounds_toArray, List.set_cons_zero, List.set_cons_succ, i64_w, i32_w]
              rfl
            refine pure_ (i := 1) (N := some 83) (v := ?_) (a' := ?_) #[true, true, false, false, false, false, false, false, false, false] rfl rfl (any_of HT_.out (by kernel_rfl)) (fun _ _ _ h => h) (Or.inl ⟨by rfl, ?_⟩) ?_ ?_
            rotate_left
            · intro w'
              go_simp
              with_reducible rfl
            rotate_left
            · simp only [Act.put, List.setIfInBounds_toArray, List.set_cons_zero, List.set_cons_succ, i64_w, i32_w]
              rfl
            refine pure_ (i := 2) (N := some 84) (v := ?_) (a' := ?_) #[true, true, true, false, false, false, false, false, false, false] rfl rfl (any_of HT_.out (by kernel_rfl)) (fun _ _ _ h => h) (Or.inl ⟨by rfl, ?_⟩) ?_ ?_
            rotate_left
            · intro w'
              go_simp
              with_reducible rfl
            rotate_left
            · simp only [Act.put, List.setIfInBounds_toArray, List.set_cons_zero, List.set_cons_succ, i64_w, i32_w]
              rfl
            refine pure_ (i := 3) (N := some 85) (v := ?_) (a' := ?_) #[true, true, true, true, false, false, false, false, false, false] rfl rfl (any_of HT_.out (by kernel_rfl)) (fun _ _ _ h => h) (Or.inl ⟨by rfl, ?_⟩) ?_ ?_
            rotate_left
            · intro w'
              go_simp
              with_reducible rfl
            rotate_left
            · simp only [Act.put, List.setIfInBounds_toArray, List.set_cons_zero, List.set_cons_succ, i64_w, i32_w]
              rfl
            refine pure_ (i := 4) (N := some 86) (v := ?_) (a' := ?_) #[true, true, true, true, true, false, false, false, false, false] rfl rfl (any_of HT_.out (by kernel_rfl)) (fun _ _ _ h => h) (Or.inl ⟨by rfl, ?_⟩) ?_ ?_
            rotate_left
            · intro w'
              go_simp
              with_reducible rfl
            rotate_left
            · simp only [Act.put, List.setIfInBounds_toArray, List.set_cons_zero, List.set_cons_succ, i64_w, i32_w]
              rfl
            refine pure_ (i := 5) (N := some 87) (v := ?_) (a' := ?_) #[true, true, true, true, true, true, false, false, false, false] rfl rfl (any_of HT_.out (by kernel_rfl)) (fun _ _ _ h => h) (Or.inl ⟨by rfl, ?_⟩) ?_ ?_
            rotate_left
            · intro w'
              go_simp
              with_reducible rfl
            rotate_left
            · simp only [Act.put, List.setIfInBounds_toArray, List.set_cons_zero, List.set_cons_succ, i64_w, i32_w]
              rfl
            refine pure_ (i := 6) (N := some 88) (v := ?_) (a' := ?_) #[true, true, true, true, true, true, true, false, false, false] rfl rfl (any_of HT_.out (by kernel_rfl)) (fun _ _ _ h => h) (Or.inl ⟨by rfl, ?_⟩) ?_ ?_
            rotate_left
            · intro w'
              go_simp
              with_reducible rfl
            rotate_left
            · simp only [Act.put, List.setIfInBounds_toArray, List.set_cons_zero, List.set_cons_succ, i64_w, i32_w]
              rfl
            refine pure_ (i := 7) (N := some 89) (v := ?_) (a' := ?_) #[true, true, true, true, true, true, true, true, false, false] rfl rfl (any_of HT_.out (by kernel_rfl)) (fun _ _ _ h => h) (Or.inl ⟨by rfl, ?_⟩) ?_ ?_
            rotate_left
            · intro w'
              go_simp
              with_reducible rfl
            rotate_left
            · simp only [Act.put, List.setIfInBounds_toArray, List.set_cons_zero, List.set_cons_succ, i64_w, i32_w]
              rfl
            refine last_ (i := 8) (N := some 90) #[true, true, true, true, true, true, true, true, true, false] rfl rfl (one_of HT_.out (by kernel_rfl)) (by decide) (fun K hK => ?_)
            generalize (if cw = k1 then some adw else some (adw.add (k1 * 2))) = aif at hrun ⊢
            refine apprun_ (by rfl) rfl rfl _ _ _ rfl rfl hrun ?_
            refine hK.out _ _ ?_
            clear hK K
            refine norm_ (a' := ?_) ?_ ?_
            rotate_left
            · show Act.put _ (some 90) _ = _
              simp only [Act.put, List.setIfInBounds_toArray, List.set_cons_zero, List.set_cons_succ, i64_w, i32_w]
              rfl
            refine pure_ (i := 9) (N := some 8) (v := ?_) (a' := ?_) #[true, true, true, true, true, true, true, true, true, true] rfl rfl (any_of HT_.out (by kernel_rfl)) (fun _ _ _ h => h) (Or.inl ⟨by rfl, ?_⟩) ?_ ?_
            rotate_left
            · intro w'
              go_simp
              with_reducible rfl
            rotate_left
            · simp only [Act.put, List.setIfInBounds_toArray, List.set_cons_zero, List.set_cons_succ, i64_w, i32_w]
              rfl
            refine done_ (done_of HT_.out (by kernel_rfl)) ?_
            have HB14 := Aside0.mk (below_step HB13.out hb)
            have H14 := Aside0.mk (H13.out.below hb)
            have HS14 : Aside0 (Seen w14 w.heap.size v14 ((M.eraseIdx k).map toS)) := ⟨by rw [← erase_map, ← HWE.out]; exact hs⟩
            have hel : (M.eraseIdx k).length ≤ 1048576 := by rw [List.length_eraseIdx]; have := HJ.out; split <;> omega
            have HEL := Aside0.mk hel
            clear hel hs hb hrun HB13 H13 HS13
            go_wp2
            go_roundg gk
            case measure => omega
            case rel => exact ⟨j + 1, _, M.eraseIdx k, by first | rfl | (simp; unfold wrap64; have := HL1.out; have := HJ.out; omega), ⟨by have := HJ.out; omega, HEL.out⟩, H14, HM12, HS14, HB14⟩
    | succ gk =>
      have hil : (i : Int) < l.length := by have := HI.out; omega
      obtain ⟨ad, e0, hx0, hx1⟩ := at_T49 HR.out i (by omega) hil
      rw [rd_nat, Int.toNat_natCast] at hx0 hx1
      have HX : Aside0 (∀ w', Below w.heap.size w w' → w'.cell? (ad.add (i * 2)) = some (.int .i64 (l.getD i z49).f0) ∧ w'.cell? ⟨(ad.add (i * 2)).block, (ad.add (i * 2)).off + 1, none⟩ = some (.int .i64 (l.getD i z49).f1)) := ⟨fun w' hb => ⟨pw_cell_below hb hx0, pw_cell_below hb hx1⟩⟩
      have HA := Aside0.mk e0
      cases e0
      clear hx0 hx1
      obtain ⟨x, hx⟩ : ∃ x, x = l.getD i z49 := ⟨_, rfl⟩
      rw [← hx] at HX
      have hxm : okK x.f0 := HK.out x (by rw [hx, List.getD_eq_getElem?_getD, List.getElem?_eq_getElem (show i < l.length by omega)]; exact List.getElem_mem _)
      have HXM := Aside0.mk hxm
      have HXE := Aside0.mk hx
      clear hxm hx
      go_wp2_with fail
      have HB4 : Aside0 (Below w.heap.size w wr.drew) := ⟨below_drew HB.out⟩
      have H4 : Aside0 (HAt wr.drew w.heap.size g (.func (.func f) #[] #[]) A cap b hl i) := ⟨H.out.below (below_drew1 (Below.refl _ _))⟩
      have HW4 : Aside0 (k49.R 49 wr.drew w.heap.size (fun _ => True) u8 (wantS l i)) := ⟨Kd.R_drew HW.out⟩
      clear HB H HW
      refine start_ (n := 13) (S := fun w' => w'.cell? (ad.add (i * 2)) = some (.int .i64 x.f0) ∧ w'.cell? ⟨(ad.add (i * 2)).block, (ad.add (i * 2)).off + 1, none⟩ = some (.int .i64 x.f1)) (ds := [11]) #[false, false, false, false, false, false, false, false, false, false, false, false, false] (by kernel_rfl) rfl rfl ⟨(HX.out _ HB4.out).1, (HX.out _ HB4.out).2⟩ (fun hHeld => ?_)
      refine with_tabW loose.tab8 loose.bits8 (fun HT_ HW_ => ?_)
      generalize wr.drew = w4 at HB4 H4 HW4 hHeld ⊢
      refine pure_ (i := 0) (N := some 36) (v := ?_) (a' := ?_) #[true, false, false, false, false, false, false, false, false, false, false, false, false] rfl rfl (any_of HT_.out (by kernel_rfl)) (fun _ _ _ h => h) (Or.inl ⟨by rfl, ?_⟩) ?_ ?_
      rotate_left
      · intro w'
        go_simp
        with_reducible rfl
      rotate_left
      · simp only [Act.put, List.setIfInBounds_toArray, List.set_cons_zero, List.set_cons_succ, i64_w, i32_w]
        rfl
      refine pure_ (i := 1) (N := some 37) (v := ?_) (a' := ?_) #[true, true, false, false, false, false, false, false, false, false, false, false, false] rfl rfl (any_of HT_.out (by kernel_rfl)) (fun _ _ _ h => h) (Or.inl ⟨by rfl, ?_⟩) ?_ ?_
      rotate_left
      · intro w'
        go_simp
        with_reducible rfl
      rotate_left
      · simp only [Act.put, List.setIfInBounds_toArray, List.set_cons_zero, List.set_cons_succ, i64_w, i32_w]
        rfl
      refine pure_ (i := 2) (N := some 38) (v := ?_) (a' := ?_) #[true, true, true, false, false, false, false, false, false, false, false, false, false] rfl rfl (any_of HT_.out (by kernel_rfl)) (fun _ _ _ h => h) (Or.inl ⟨by rfl, ?_⟩) ?_ ?_
      rotate_left
      · intro w'
        go_simp
        with_reducible rfl
      rotate_left
      · simp only [Act.put, List.setIfInBounds_toArray, List.set_cons_zero, List.set_cons_succ, i64_w, i32_w]
        rfl
      refine pure_ (i := 3) (N := some 39) (v := ?_) (a' := ?_) #[true, true, true, true, false, false, false, false, false, false, false, false, false] rfl rfl (any_of HT_.out (by kernel_rfl)) (fun _ _ _ h => h) (Or.inl ⟨by rfl, ?_⟩) ?_ ?_
      rotate_left
      · intro w'
        go_simp
        with_reducible rfl
      rotate_left
      · simp only [Act.put, List.setIfInBounds_toArray, List.set_cons_zero, List.set_cons_succ, i64_w, i32_w]
        rfl
      refine pure_ (i := 4) (N := some 40) (v := ?_) (a' := ?_) #[true, true, true, true, true, false, false, false, false, false, false, false, false] rfl rfl (any_of HT_.out (by kernel_rfl)) (fun _ _ _ h => h) (Or.inl ⟨by rfl, ?_⟩) ?_ ?_
      rotate_left
      · intro w'
        go_simp
        with_reducible rfl
      rotate_left
      · simp only [Act.put, List.setIfInBounds_toArray, List.set_cons_zero, List.set_cons_succ, i64_w, i32_w]
        rfl
      refine pure_ (i := 6) (N := some 42) (v := ?_) (a' := ?_) #[true, true, true, true, true, false, true, false, false, false, false, false, false] rfl rfl (any_of HT_.out (by kernel_rfl)) (fun _ _ _ h => h) (Or.inl ⟨by rfl, ?_⟩) ?_ ?_
      rotate_left
      · intro w'
        go_simp
        with_reducible rfl
      rotate_left
      · simp only [Act.put, List.setIfInBounds_toArray, List.set_cons_zero, List.set_cons_succ, i64_w, i32_w]
        rfl
      refine pure_ (i := 7) (N := some 43) (v := ?_) (a' := ?_) #[true, true, true, true, true, false, true, true, false, false, false, false, false] rfl rfl (any_of HT_.out (by kernel_rfl)) (fun _ _ _ h => h) (Or.inl ⟨by rfl, ?_⟩) ?_ ?_
      rotate_left
      · intro w'
        go_simp
        with_reducible rfl
      rotate_left
      · simp only [Act.put, List.setIfInBounds_toArray, List.set_cons_zero, List.set_cons_succ, i64_w, i32_w]
        rfl
      refine pure_ (i := 8) (N := some 44) (v := ?_) (a' := ?_) #[true, true, true, true, true, false, true, true, true, false, false, false, false] rfl rfl (any_of HT_.out (by kernel_rfl)) (fun _ _ _ h => h) (Or.inl ⟨by rfl, ?_⟩) ?_ ?_
      rotate_left
      · intro w'
        go_simp
        with_reducible rfl
      rotate_left
      · simp only [Act.put, List.setIfInBounds_toArray, List.set_cons_zero, List.set_cons_succ, i64_w, i32_w]
        rfl
      refine pure_ (i := 9) (N := some 45) (v := ?_) (a' := ?_) #[true, true, true, true, true, false, true, true, true, true, false, false, false] rfl rfl (any_of HT_.out (by kernel_rfl)) (fun _ _ _ h => h) (Or.inl ⟨by rfl, ?_⟩) ?_ ?_
      rotate_left
      · intro w'
        go_simp
        with_reducible rfl
      rotate_left
      · simp only [Act.put, List.setIfInBounds_toArray, List.set_cons_zero, List.set_cons_succ, i64_w, i32_w]
        rfl
      refine take_ (i := 5) (N := some 41) (v := ?_) (a' := ?_) #[true, true, true, true, true, true, true, true, true, true, false, false, false] rfl rfl (take_ofW HT_.out HW_.out (by kernel_rfl)) (fun _ _ _ h => h) (Or.inl ⟨by rfl, ?_⟩) hHeld ?_ ?_
      rotate_left
      · rintro w' ⟨s0, s1⟩
        go_simp
        with_reducible rfl
      rotate_left
      · simp only [Act.put, List.setIfInBounds_toArray, List.set_cons_zero, List.set_cons_succ, i64_w, i32_w]
        rfl
      refine take_ (i := 10) (N := some 46) (v := ?_) (a' := ?_) #[true, true, true, true, true, true, true, true, true, true, true, false, false] rfl rfl (take_ofW HT_.out HW_.out (by kernel_rfl)) (fun _ _ _ h => h) (Or.inl ⟨by rfl, ?_⟩) hHeld ?_ ?_
      rotate_left
      · rintro w' ⟨s0, s1⟩
        go_simp
        with_reducible rfl
      rotate_left
      · simp only [Act.put, List.setIfInBounds_toArray, List.set_cons_zero, List.set_cons_succ, i64_w, i32_w]
        rfl
      refine last_ (i := 11) (N := some 47) #[true, true, true, true, true, true, true, true, true, true, true, true, false] rfl rfl (one_of HT_.out (by kernel_rfl)) (by decide) (fun K hK => ?_)
      refine goes_ Try.func14 (by kernel_rfl) rfl #[.pointer (some ⟨g, 0, none⟩), .int .i64 x.f0, .int .i64 x.f1] (by rfl) rfl rfl (by simp only [List.map_toArray, List.map_cons, List.map_nil]; rfl) ?_
      with_reducible refine (put_calls w.heap.size g f (lt) HLS.out A cap b hl i x.f0 x.f1 w4 H4.out HXM.out (by have := HM.out.1.perm.length_eq; have := came_len l i; have := HL.out; omega) (by have := HL.out; have := HI.out; omega) HB4.out.size).mono ?_
      rintro e w5 ⟨rfl, A5, cap5, h, hc, _⟩
      refine ⟨_, rfl, ?_⟩
      have HB5 := Aside0.mk (HeapSI.chg_below HB4.out hc H4.out.fp_ge)
      have H5 := Aside0.mk h
      have HW5 := Aside0.mk (H4.out.keepR HW4.out (by decide) hc)
      clear h hc HB4 H4 HW4
      refine hK.out _ _ ?_
      clear hK K
      refine norm_ (a' := ?_) ?_ ?_
      rotate_left
      · show Act.put _ (some 47) _ = _
        simp only [Act.put, List.setIfInBounds_toArray, List.set_cons_zero, List.set_cons_succ, i64_w, i32_w]
        rfl
      refine pure_ (i := 12) (N := some 48) (v := ?_) (a' := ?_) #[true, true, true, true, true, true, true, true, true, true, true, true, true] rfl rfl (any_of HT_.out (by kernel_rfl)) (fun _ _ _ h => h) (Or.inl ⟨by rfl, ?_⟩) ?_ ?_
      rotate_left
      · intro w'
        go_simp
        with_reducible rfl
      rotate_left
      · simp only [Act.put, List.setIfInBounds_toArray, List.set_cons_zero, List.set_cons_succ, i64_w, i32_w]
        rfl
      refine done_ (done_of HT_.out (by kernel_rfl)) ?_
      have HA' := HA
      clear HA
      have HM5 : Aside0 (RelM (putL (lt) hl ((i : Int) + 1) x.f0 x.f1) ((i : Int) + 1) (cameL (l.map toP) (i + 1)) ∧ True) := ⟨by rw [came_step, ← HXE.out]; exact HM.out.1.put x.f0 x.f1, trivial⟩
      clear HM
      generalize putL (lt) hl ((i : Int) + 1) x.f0 x.f1 = hl5 at HM5 H5
      go_wp2_with fail
      obtain ⟨lb, hlb⟩ : ∃ lb, lb = lastUp (l.map toP) l.length i := ⟨_, rfl⟩
      have HLB := Aside0.mk hlb
      clear hlb
      refine (cabstandlaw07_last.calls (l.length + 1) (some ad) c0 l i lb _ (Kd.C_below HR.out HB5.out) HC.out (by rw [HLB.out]; exact last_eq l i (by omega) (by have := HL.out; omega))).mono ?_
      rintro e w6 ⟨rfl, nq, rfl⟩
      have HB6 : Aside0 (Below w.heap.size w (w5.drewN nq)) := ⟨pw_below_drewN HB5.out nq⟩
      have H6 : Aside0 (HAt (w5.drewN nq) w.heap.size g (.func (.func f) #[] #[]) A5 cap5 b hl5 ((i : Int) + 1)) := ⟨H5.out.below (pw_below_drewN (Below.refl _ _) nq)⟩
      have HW6 : Aside0 (k49.R 49 (w5.drewN nq) w.heap.size (fun _ => True) u8 (wantS l i)) := ⟨Kd.R_drewN HW5.out nq⟩
      have hx := HX.out _ HB6.out
      have hx0 := hx.1
      have hx1 := hx.2
      clear hx HB5 H5 HW5
      generalize w5.drewN nq = w6 at HB6 H6 HW6 hx0 hx1 ⊢
      cases lb with
      | false =>
        go_wp2
        go_roundg gk
        case measure => omega
        case rel => exact ⟨i + 1, hl5, A5, cap5, by first | rfl | (simp; unfold wrap64; have := HL.out; have := HI.out; omega), ⟨by have := HI.out; omega⟩, H6, HM5, ⟨by rw [wantS_succ, if_neg (by rw [← HLB.out]; decide)]; exact HW6.out⟩, HB6⟩
      | true =>
        go_wp2_with ((with_reducible refine gate_builtin (b := .append) (xs := #[.tmp 52, .tmp 57]) rfl ?_); at_builtin; refine Kd.R_append k49 (w0 := w) w.heap.size rfl (.tmp 52) (.tmp 57) 41 49 (.agg #[.int .i64 0, .int .i64 0]) 16 rfl Try.underlying41 infoSS rfl (by decide) (by omega) u8 (wantS l i) x [.int .i64 x.f0, .int .i64 x.f1] (fun _ => True) (fun _ => False) rfl rfl (k49_mkM _ _ _ x) (fun _ hk => hk.elim) (fun _ _ => trivial) HW6.out HB6.out HB6.out.size (by have := wantS_len l i; have := HL.out; omega) ?_; intro u9n w7 h7 hb7 hg7 _)
        have HW7 : Aside0 (k49.R 49 w7 w.heap.size (fun _ => True) u9n (wantS l (i + 1))) := ⟨by rw [wantS_succ, if_pos HLB.out.symm, ← HXE.out]; exact h7⟩
        have H7 := Aside0.mk (H6.out.grown hg7 (Kd.R_typed HW6.out) (by decide) (by decide))
        have HB7 := Aside0.mk hb7
        clear h7 hb7 hg7 HW6 H6 HB6
        go_wp2
        go_roundg gk
        case measure => omega
        case rel => exact ⟨i + 1, hl5, A5, cap5, by first | rfl | (simp; unfold wrap64; have := HL.out; have := HI.out; omega), ⟨by have := HI.out; omega⟩, H7, HM5, HW7, HB7⟩
end Go.Proofs.Ytibipbfmhbkpiaa.HeapII
