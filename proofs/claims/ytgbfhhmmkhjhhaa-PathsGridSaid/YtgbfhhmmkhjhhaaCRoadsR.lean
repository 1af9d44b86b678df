/- Roads: Road. Conditions: those that stand in each theorem. Written by wip/gen/netroad.py. -/
import Derived.Test.YtgbfhhmmkhjhhaaCRoadsI
import Derived.Test.YtgbfhhmmkhjhhaaCSl
namespace Go.Proofs.Ytgbfhhmmkhjhhaa.Roads
open Go.RowKit Go.Proofs.YtgbfhhmmkhjhhaaW.PrintWords Go.Proofs.YtgbfhhmmkhjhhaaW.PrintLast Go.Proofs.YtgbfhhmmkhjhhaaW.PrintMore Go.Proofs.Ytgbfhhmmkhjhhaa.HeapW Go.Proofs.Ytgbfhhmmkhjhhaa.MapAt Go.Proofs.Ytgbfhhmmkhjhhaa.Copy
set_option linter.unusedVariables false
set_option linter.unusedSimpArgs false
set_option maxHeartbeats 1600000 in
theorem road_none (fr tv co : Int) (w : World) : Calls Try.prog 17 #[.pointer none, .int .i64 fr, .int .i64 tv, .int .i64 co] w fun e w' => e = .returned (.int .i64 2) ∧ w' = w := by
  go_enter Try.func17, Try.ntmps17
  go_wp2_with fail
  refine (there_none w).mono ?_
  rintro e w1 ⟨rfl, rfl⟩
  go_wp2
  go_ret
  exact ⟨rfl, rfl⟩
set_option maxHeartbeats 1600000 in
theorem road_dead (g : Nat) (v0 v1 : Value) (fr tv co : Int) (w : World) (h : w.heap[g]? = some (.cells #[v0, v1, .map none] 72 (0, 0))) : Calls Try.prog 17 #[.pointer (some ⟨g, 0, none⟩), .int .i64 fr, .int .i64 tv, .int .i64 co] w fun e w' => e = .returned (.int .i64 2) ∧ w' = w := by
  have H := Aside0.mk h
  clear h
  go_enter Try.func17, Try.ntmps17
  go_wp2_with fail
  refine (there_raw g v0 v1 none w H.out).mono ?_
  rintro e w1 ⟨rfl, rfl⟩
  go_wp2
  go_ret
  exact ⟨rfl, rfl⟩
/-- is it a node -/
def isN (n : Nat) (v : Int) : Bool := decide (0 ≤ v) && decide (v < n)
theorem isN_iff {n : Nat} {v : Int} : isN n v = true ↔ 0 ≤ v ∧ v < n := by
  unfold isN
  rw [Bool.and_eq_true, decide_eq_true_iff, decide_eq_true_iff]
theorem isN_no {n : Nat} {v : Int} : isN n v = false ↔ ¬ (0 ≤ v ∧ v < n) := by
  rw [← isN_iff]
  cases isN n v <;> simp
set_option maxHeartbeats 3200000 in
set_option maxRecDepth 100000 in
theorem NetAt.road_gone {w : World} {base g : Nat} {PA : Option Addr} {pc : Nat} {OA : Option Addr} {oc b : Nat} {ps : List Pt} {hs : List Hd} {out : List (List Rd)} (h : NetAt w base g PA pc OA oc b ps hs out) (fr tv co : Int) (hn : ¬ ((0 ≤ fr ∧ fr < ps.length) ∧ 0 ≤ tv ∧ tv < ps.length)) : Calls Try.prog 17 #[.pointer (some ⟨g, 0, none⟩), .int .i64 fr, .int .i64 tv, .int .i64 co] w fun e w' => e = .returned (.int .i64 131) ∧ w' = w := by
  have H := Aside0.mk h
  have HN := Aside0.mk hn
  clear h hn
  go_enter Try.func17, Try.ntmps17
  go_wp2_with fail
  refine H.out.there.mono ?_
  rintro e w1 ⟨rfl, rfl⟩
  go_wp2_with fail
  refine (H.out.has fr).mono ?_
  rintro e w2 ⟨rfl, rfl⟩
  have e1 : (decide (0 ≤ fr) && decide (fr < ps.length)) = isN ps.length fr := rfl
  rw [e1]
  cases hf : isN ps.length fr with
  | false =>
    go_wp2
    go_ret
    exact ⟨rfl, rfl⟩
  | true =>
    go_wp2_with fail
    refine (H.out.has tv).mono ?_
    rintro e w2 ⟨rfl, rfl⟩
    have e2 : (decide (0 ≤ tv) && decide (tv < ps.length)) = isN ps.length tv := rfl
    have ht : isN ps.length tv = false := isN_no.2 (fun q => HN.out ⟨isN_iff.1 hf, q⟩)
    rw [e2, ht]
    go_wp2
    go_ret
    exact ⟨rfl, rfl⟩
set_option maxHeartbeats 3200000 in
set_option maxRecDepth 100000 in
theorem NetAt.road_arg {w : World} {base g : Nat} {PA : Option Addr} {pc : Nat} {OA : Option Addr} {oc b : Nat} {ps : List Pt} {hs : List Hd} {out : List (List Rd)} (h : NetAt w base g PA pc OA oc b ps hs out) (fr tv co : Int) (hf : 0 ≤ fr ∧ fr < ps.length) (ht : 0 ≤ tv ∧ tv < ps.length) (hb : fr = tv ∨ co < 1 ∨ 1048576 < co) : Calls Try.prog 17 #[.pointer (some ⟨g, 0, none⟩), .int .i64 fr, .int .i64 tv, .int .i64 co] w fun e w' => e = .returned (.int .i64 1) ∧ w' = w := by
  have H := Aside0.mk h
  have HF : Aside0 (isN ps.length fr = true) := ⟨isN_iff.2 hf⟩
  have HT : Aside0 (isN ps.length tv = true) := ⟨isN_iff.2 ht⟩
  have HB := Aside0.mk hb
  clear h hf ht hb
  go_enter Try.func17, Try.ntmps17
  go_wp2_with fail
  refine H.out.there.mono ?_
  rintro e w1 ⟨rfl, hw1⟩
  have hw2 := hw1.symm
  clear hw1
  subst hw2
  go_wp2_with fail
  refine (H.out.has fr).mono ?_
  rintro e w2 ⟨rfl, hw1⟩
  have hw2 := hw1.symm
  clear hw1
  subst hw2
  rw [show (decide (0 ≤ fr) && decide (fr < ps.length)) = true from HF.out]
  go_wp2_with fail
  refine (H.out.has tv).mono ?_
  rintro e w3 ⟨rfl, hw1⟩
  have hw2 := hw1.symm
  clear hw1
  subst hw2
  rw [show (decide (0 ≤ tv) && decide (tv < ps.length)) = true from HT.out]
  by_cases h1 : fr = tv
  · have hd : (fr == tv) = true := by rw [beq_iff_eq]; exact h1
    subst h1
    go_wp2
    go_ret
    exact ⟨rfl, rfl⟩
  · have hd : (fr == tv) = false := by rw [beq_eq_false_iff_ne]; exact h1
    by_cases h2 : co < 1
    · have hd2 : decide (co < 1) = true := decide_eq_true h2
      go_wp2
      go_ret
      exact ⟨rfl, rfl⟩
    · have hd2 : decide (co < 1) = false := decide_eq_false h2
      have h3 : 1048576 < co := by rcases HB.out with q | q | q; exact absurd q h1; exact absurd q h2; exact q
      have hd3 : decide (1048576 < co) = true := decide_eq_true h3
      go_wp2
      go_ret
      exact ⟨rfl, rfl⟩
set_option maxHeartbeats 3200000 in
set_option maxRecDepth 100000 in
theorem NetAt.road_twice {w : World} {base g : Nat} {PA : Option Addr} {pc : Nat} {OA : Option Addr} {oc b : Nat} {ps : List Pt} {hs : List Hd} {out : List (List Rd)} (h : NetAt w base g PA pc OA oc b ps hs out) (i : Nat) (tv co : Int) (l : List Rd) (hl : out[i]? = some l) (ht : 0 ≤ tv ∧ tv < ps.length) (hne : (i : Int) ≠ tv) (hc1 : 1 ≤ co) (hc2 : co ≤ 1048576) (hso : ∀ (i j : Nat) (x y : Rd), i < j → l[i]? = some x → l[j]? = some y → x.2.1 < y.2.1) (hx : ∀ x ∈ l, 0 ≤ x.2.1 ∧ x.2.1 < ps.length) (hin : ∃ x ∈ l, x.2.1 = tv) : Calls Try.prog 17 #[.pointer (some ⟨g, 0, none⟩), .int .i64 i, .int .i64 tv, .int .i64 co] w fun e w' => e = .returned (.int .i64 130) ∧ Below w.heap.size w w' := by
  have H := Aside0.mk h
  have HIN := Aside0.mk hin
  clear hin
  have hil : i < out.length := (List.getElem?_eq_some_iff.1 hl).1
  have hip : i < ps.length := by have := h.len.2; omega
  have hih : i < hs.length := by have := h.len.1; omega
  have HF : Aside0 (isN ps.length (i : Int) = true) := ⟨isN_iff.2 (by omega)⟩
  have HT : Aside0 (isN ps.length tv = true) := ⟨isN_iff.2 ht⟩
  have hmm := h.most
  have HTT : Aside0 (0 ≤ tv ∧ tv < 4096) := ⟨by omega⟩
  have HTN := Aside0.mk ht
  have HS := Aside0.mk hso
  have HX : Aside0 (∀ x ∈ l, 0 ≤ x.2.1 ∧ x.2.1 < 4096) := ⟨fun x hm => by have := hx x hm; omega⟩
  have HXN := Aside0.mk hx
  have hsh : l.length ≤ 4096 := h.short l (List.mem_of_getElem? hl)
  have hhi : hs[i]? = some hs[i] := List.getElem?_eq_getElem hih
  obtain ⟨hd1, hr1⟩ := h.rows i hs[i] l hhi hl
  obtain ⟨hd, hhd⟩ : ∃ hd, hd = hs[i] := ⟨_, rfl⟩
  rw [← hhd] at hd1 hr1 hhi
  obtain ⟨go, gcap, hgo, hgo1, hgo2, _⟩ := Kd.R_form h.ows (by omega)
  obtain ⟨rfl, hg2⟩ : OA = some ⟨go, 0, none⟩ ∧ oc = gcap := by
    simp only [Value.slice.injEq] at hgo
    exact ⟨hgo.1, hgo.2.2⟩
  have hce0 := Kd.R_cell (d := hd) (by rw [h.len.1]; exact h.ows) (i : Int) (by omega) (by omega)
  rw [Int.toNat_natCast] at hce0
  have hrd : rdOf hd hs (i : Int) = hd := by
    unfold rdOf
    first | (rw [Int.toNat_natCast, hhd]; simp [List.getD_eq_getElem?_getD, List.getElem?_eq_getElem hih]; done) | (simp [hhd, List.getElem?_eq_getElem hih]; done)
  rw [hrd] at hce0
  obtain ⟨sA, sn, sc⟩ := hd
  have hsn : sn = l.length := hd1
  subst hsn
  obtain ⟨-, hsc, hC⟩ := Kd.R_reads' (show kRd.R 40 w base (fun _ => True) (.slice sA l.length sc) l from hr1)
  have HCC := Aside0.mk hC
  have HSH := Aside0.mk hsh
  have HSC := Aside0.mk hsc
  have HHI := Aside0.mk hhi
  have HLI := Aside0.mk (And.intro hl (And.intro hil (And.intro hip hih)))
  have HGO := Aside0.mk (And.intro hgo1 hgo2)
  have HR1 : Aside0 (kRd.R 40 w base (fun _ => True) (.slice sA l.length sc) l) := ⟨hr1⟩
  have hce : w.cell? ⟨go, i, none⟩ = some (.slice sA l.length sc) := hce0.1
  have HFZ : Aside0 (w.frozen? ⟨go, i, none⟩ = false) := ⟨hce0.2⟩
  have hlt : (i : Int) < ps.length := by omega
  have hlt2 : (i : Int) < (ps.length : Int) := by omega
  have hdne : ((i : Int) == tv) = false := by rw [beq_eq_false_iff_ne]; exact hne
  have hdc : decide (co < 1) = false := decide_eq_false (by omega)
  have hdc2 : decide (1048576 < co) = false := decide_eq_false (by omega)
  have HCO := Aside0.mk (And.intro hc1 (And.intro hc2 hne))
  clear hce0 h hC hsh hr1 hd1 hhd hrd hgo hg2 hsc hl hil hih hip hc1 hc2 hne ht hmm hso hx hhi hgo1 hgo2
  go_enter Try.func17, Try.ntmps17
  go_wp2_with fail
  refine H.out.there.mono ?_
  rintro e w1 ⟨rfl, hw1⟩
  have hw2 := hw1.symm
  clear hw1
  subst hw2
  go_wp2_with fail
  refine (H.out.has (i : Int)).mono ?_
  rintro e w2 ⟨rfl, hw1⟩
  have hw2 := hw1.symm
  clear hw1
  subst hw2
  rw [show (decide (0 ≤ (i : Int)) && decide ((i : Int) < ps.length)) = true from HF.out]
  go_wp2_with fail
  refine (H.out.has tv).mono ?_
  rintro e w3 ⟨rfl, hw1⟩
  have hw2 := hw1.symm
  clear hw1
  subst hw2
  rw [show (decide (0 ≤ tv) && decide (tv < ps.length)) = true from HT.out]
  have hc1 : w.cell? ⟨g, 1, none⟩ = some (.slice (some ⟨go, 0, none⟩) ps.length oc) := (blk_cell H.out.blk 1).trans rfl
  go_wp2_with fail
  refine (search_calls sA sc l tv w HCC.out HS.out HX.out HTT.out HSH.out HSC.out).mono ?_
  rintro e w4 ⟨i4, b4, rfl, hi4, hp4, hq4, hb4, hbel⟩
  have HB4 := Aside0.mk hbel
  have HI4 := Aside0.mk (And.intro hi4 (And.intro hp4 (And.intro hq4 hb4)))
  clear hi4 hp4 hq4 hb4 hbel hc1 hce
  have hb : b4 = true := by
    obtain ⟨x, hx, hxt⟩ := HIN.out
    obtain ⟨k, hk⟩ := List.getElem?_of_mem hx
    have hkl : k < l.length := (List.getElem?_eq_some_iff.1 hk).1
    have h1 : i4 ≤ k := Nat.le_of_not_lt fun q => by have := HI4.out.2.1 k x q hk; omega
    have h2 : l[i4]? = some l[i4] := List.getElem?_eq_getElem (by omega)
    have h3 := HI4.out.2.2.1 i4 _ (Nat.le_refl _) h2
    refine HI4.out.2.2.2.2 ⟨_, h2, ?_⟩
    rcases Nat.lt_or_ge i4 k with q | q
    · have := HS.out i4 k _ _ q h2 hk
      omega
    · have e : i4 = k := by omega
      subst e
      rw [h2] at hk
      rw [Option.some.inj hk]
      exact hxt
  subst hb
  go_wp2
  go_ret
  exact ⟨rfl, HB4.out⟩
theorem RawAt.rows' {w w1 : World} {base g : Nat} {u0 u1 v0 v1 : Value} {b : Nat} {ps : List Pt} {hs hs2 : List Hd} {out : List (List Rd)} {f : Pt → Option Nat} (h : RawAt w base g u0 u1 v0 v1 b ps hs hs2 out f) (hlen : hs.length = out.length) {i : Nat} {hd hd' : Hd} {l' : List Rd} (hi : hs[i]? = some hd) (hap : ∀ (i j : Nat) (h k : Hd), i ≠ j → hs[i]? = some h → hs[j]? = some k → ∀ x, (encH h).ownBlock = some x → (encH k).ownBlock ≠ some x)
    (hty : ∀ k, (encH hd).ownBlock = some k → ∃ cs, w.heap[k]? = some (.cells cs 40 (0, 0))) (hg : w.grownBy w1 (encH hd).ownBlock) (hr : kRd.R 40 w1 base (fun _ => True) (encH hd') l') (hl' : hd'.2.1 = l'.length) : RawAt w1 base g u0 u1 v0 v1 b ps (hs.set i hd') hs2 (out.set i l') f := by
  have hil : i < hs.length := (List.getElem?_eq_some_iff.1 hi).1
  refine ⟨keep_blk h.blk hg (t := 40) (by decide) hty, keep_row flatPt h.pts hg (t := 40) (by decide) hty, keep_row flatHd h.ows hg (t := 40) (by decide) hty, fun j k l h1 h2 => ?_, keep_map h.map hg hty⟩
  rw [List.getElem?_set] at h1 h2
  by_cases e : i = j
  · rw [if_pos e, if_pos (by omega)] at h1 h2
    cases h1
    cases h2
    exact ⟨hl', hr⟩
  · rw [if_neg e] at h1 h2
    obtain ⟨q1, q2⟩ := h.rows j k l h1 h2
    exact ⟨q1, flat_keep flatRd q2 (fun x hx => hg.block x (Kd.R_lt q2 x hx) (fun e2 => hap j i k hd (Ne.symm e) h1 hi x hx e2.symm)) (fun _ _ => trivial)⟩
theorem set_get {α : Type} {l : List α} {i j : Nat} {x y : α} (h : (l.set i x)[j]? = some y) : (j = i ∧ y = x) ∨ (j ≠ i ∧ l[j]? = some y) := by
  rw [List.getElem?_set] at h
  by_cases e : i = j
  · rw [if_pos e] at h
    split at h
    · cases h; exact Or.inl ⟨e.symm, rfl⟩
    · cases h
  · rw [if_neg e] at h
    exact Or.inr ⟨Ne.symm e, h⟩
theorem infoHdC : (Try.prog.info? 40).map (·.size) = some 3 := by kernel_rfl
def road.T10 : Bool × List (List Nat × List Nat) := (true, [([], []), ([0], [0]), ([1], [1]), ([2], [2]), ([], []), ([], []), ([5], [5]), ([6], [6]), ([7], [7]), ([], []), ([8, 9], [8, 9]), ([10], [10]), ([], []), ([], []), ([], []), ([], []), ([13, 14, 15], [13, 14, 15]), ([16], [16]), ([11, 12, 17], [11, 12, 17]), ([3, 4, 0, 1, 2, 3, 4, 5, 6, 7, 8, 9, 10, 11, 12, 13, 14, 15, 16, 17, 18], [3, 4]), ([19, 18, 18, 0, 1, 2, 3, 4, 5, 6, 7, 8, 9, 10, 11, 12, 13, 14, 15, 16, 17, 18], [18, 19])])
def road.B10 : List Nat := [0, 1, 3, 7, 0, 0, 32, 96, 224, 0, 992, 2016, 0, 0, 0, 0, 57344, 122880, 262112, 524287, 1048575]
theorem road.tab10 : rtab .any (opsOf Try.f17 10) = road.T10 := by kernel_rfl
theorem road.bits10 : waitsOk road.T10.2 road.B10 = true := by kernel_rfl
set_option maxHeartbeats 3200000 in
set_option maxRecDepth 100000 in
theorem NetAt.road_new {w : World} {base g : Nat} {PA : Option Addr} {pc : Nat} {OA : Option Addr} {oc b : Nat} {ps : List Pt} {hs : List Hd} {out : List (List Rd)} (h : NetAt w base g PA pc OA oc b ps hs out) (i : Nat) (tv co : Int) (l : List Rd) (hl : out[i]? = some l) (ht : 0 ≤ tv ∧ tv < ps.length) (hne : (i : Int) ≠ tv) (hc1 : 1 ≤ co) (hc2 : co ≤ 1048576) (hso : ∀ (i j : Nat) (x y : Rd), i < j → l[i]? = some x → l[j]? = some y → x.2.1 < y.2.1) (hx : ∀ x ∈ l, 0 ≤ x.2.1 ∧ x.2.1 < ps.length) (hin : ∀ x ∈ l, x.2.1 ≠ tv) (hlt' : l.length < 4096) (hbs : base ≤ w.heap.size) : Calls Try.prog 17 #[.pointer (some ⟨g, 0, none⟩), .int .i64 i, .int .i64 tv, .int .i64 co] w fun e w' => e = .returned (.int .i64 0) ∧ ∃ OA' oc' hs' i4, NetAt w' base g PA pc OA' oc' b ps hs' (out.set i (insL l i4 ((i : Int), tv, co))) ∧ i4 ≤ l.length ∧ (∀ (k : Nat) (x : Rd), k < i4 → l[k]? = some x → x.2.1 < tv) ∧ (∀ (k : Nat) (x : Rd), i4 ≤ k → l[k]? = some x → tv < x.2.1) ∧ Chg (nfp g b PA OA hs) w w' ∧ ∀ k, nfp g b PA OA' hs' k → nfp g b PA OA hs k ∨ w.heap.size ≤ k := by
  have H := Aside0.mk h
  have HIN := Aside0.mk hin
  have HLT := Aside0.mk hlt'
  have HBS := Aside0.mk hbs
  clear hin hlt' hbs
  have hil : i < out.length := (List.getElem?_eq_some_iff.1 hl).1
  have hip : i < ps.length := by have := h.len.2; omega
  have hih : i < hs.length := by have := h.len.1; omega
  have HF : Aside0 (isN ps.length (i : Int) = true) := ⟨isN_iff.2 (by omega)⟩
  have HT : Aside0 (isN ps.length tv = true) := ⟨isN_iff.2 ht⟩
  have hmm := h.most
  have HTT : Aside0 (0 ≤ tv ∧ tv < 4096) := ⟨by omega⟩
  have HTN := Aside0.mk ht
  have HS := Aside0.mk hso
  have HX : Aside0 (∀ x ∈ l, 0 ≤ x.2.1 ∧ x.2.1 < 4096) := ⟨fun x hm => by have := hx x hm; omega⟩
  have HXN := Aside0.mk hx
  have hsh : l.length ≤ 4096 := h.short l (List.mem_of_getElem? hl)
  have hhi : hs[i]? = some hs[i] := List.getElem?_eq_getElem hih
  obtain ⟨hd1, hr1⟩ := h.rows i hs[i] l hhi hl
  obtain ⟨hd, hhd⟩ : ∃ hd, hd = hs[i] := ⟨_, rfl⟩
  rw [← hhd] at hd1 hr1 hhi
  obtain ⟨go, gcap, hgo, hgo1, hgo2, _⟩ := Kd.R_form h.ows (by omega)
  obtain ⟨rfl, hg2⟩ : OA = some ⟨go, 0, none⟩ ∧ oc = gcap := by
    simp only [Value.slice.injEq] at hgo
    exact ⟨hgo.1, hgo.2.2⟩
  have hce0 := Kd.R_cell (d := hd) (by rw [h.len.1]; exact h.ows) (i : Int) (by omega) (by omega)
  rw [Int.toNat_natCast] at hce0
  have hrd : rdOf hd hs (i : Int) = hd := by
    unfold rdOf
    first | (rw [Int.toNat_natCast, hhd]; simp [List.getD_eq_getElem?_getD, List.getElem?_eq_getElem hih]; done) | (simp [hhd, List.getElem?_eq_getElem hih]; done)
  rw [hrd] at hce0
  obtain ⟨sA, sn, sc⟩ := hd
  have hsn : sn = l.length := hd1
  subst hsn
  obtain ⟨-, hsc, hC⟩ := Kd.R_reads' (show kRd.R 40 w base (fun _ => True) (.slice sA l.length sc) l from hr1)
  have HCC := Aside0.mk hC
  have HSH := Aside0.mk hsh
  have HSC := Aside0.mk hsc
  have HHI := Aside0.mk hhi
  have HLI := Aside0.mk (And.intro hl (And.intro hil (And.intro hip hih)))
  have HGO := Aside0.mk (And.intro hgo1 hgo2)
  have HR1 : Aside0 (kRd.R 40 w base (fun _ => True) (.slice sA l.length sc) l) := ⟨hr1⟩
  have hce : w.cell? ⟨go, i, none⟩ = some (.slice sA l.length sc) := hce0.1
  have HFZ : Aside0 (w.frozen? ⟨go, i, none⟩ = false) := ⟨hce0.2⟩
  have hlt : (i : Int) < ps.length := by omega
  have hlt2 : (i : Int) < (ps.length : Int) := by omega
  have hdne : ((i : Int) == tv) = false := by rw [beq_eq_false_iff_ne]; exact hne
  have hdc : decide (co < 1) = false := decide_eq_false (by omega)
  have hdc2 : decide (1048576 < co) = false := decide_eq_false (by omega)
  have HCO := Aside0.mk (And.intro hc1 (And.intro hc2 hne))
  clear hce0 h hC hsh hr1 hd1 hhd hrd hgo hg2 hsc hl hil hih hip hc1 hc2 hne ht hmm hso hx hhi hgo1 hgo2
  go_enter Try.func17, Try.ntmps17
  go_wp2_with fail
  refine H.out.there.mono ?_
  rintro e w1 ⟨rfl, hw1⟩
  have hw2 := hw1.symm
  clear hw1
  subst hw2
  go_wp2_with fail
  refine (H.out.has (i : Int)).mono ?_
  rintro e w2 ⟨rfl, hw1⟩
  have hw2 := hw1.symm
  clear hw1
  subst hw2
  rw [show (decide (0 ≤ (i : Int)) && decide ((i : Int) < ps.length)) = true from HF.out]
  go_wp2_with fail
  refine (H.out.has tv).mono ?_
  rintro e w3 ⟨rfl, hw1⟩
  have hw2 := hw1.symm
  clear hw1
  subst hw2
  rw [show (decide (0 ≤ tv) && decide (tv < ps.length)) = true from HT.out]
  have hc1 : w.cell? ⟨g, 1, none⟩ = some (.slice (some ⟨go, 0, none⟩) ps.length oc) := (blk_cell H.out.blk 1).trans rfl
  go_wp2_with fail
  refine (search_calls sA sc l tv w HCC.out HS.out HX.out HTT.out HSH.out HSC.out).mono ?_
  rintro e w4 ⟨i4, b4, rfl, hi4, hp4, hq4, hb4, hbel⟩
  have HB4 := Aside0.mk hbel
  have HI4 := Aside0.mk (And.intro hi4 (And.intro hp4 (And.intro hq4 hb4)))
  clear hi4 hp4 hq4 hb4 hbel hc1 hce
  have hb : b4 = false := by
    cases b4 with
    | false => rfl
    | true =>
      obtain ⟨x, hx, hxt⟩ := HI4.out.2.2.2.1 rfl
      exact absurd hxt (HIN.out x (List.mem_of_getElem? hx))
  subst hb
  go_wp2_with fail
  have HR4 := Aside0.mk (H.out.raw.below HB4.out)
  have HR4L : Aside0 (kRd.R 40 w4 base (fun _ => True) (.slice sA l.length sc) l) := ⟨Kd.R_below HR1.out HB4.out⟩
  have hce4 : w4.cell? ⟨go, i, none⟩ = some (.slice sA l.length sc) := pw_cell_below HB4.out (by
    have h0 := (Kd.R_cell (d := ((sA, l.length, sc) : Hd)) (by rw [H.out.len.1]; exact H.out.ows) (i : Int) (by omega) (by have := HLI.out.2.2.2; omega)).1
    rw [Int.toNat_natCast] at h0
    have hrd : rdOf ((sA, l.length, sc) : Hd) hs (i : Int) = (sA, l.length, sc) := by
      unfold rdOf
      rw [Int.toNat_natCast, List.getD_eq_getElem?_getD, HHI.out]
      rfl
    rw [hrd] at h0
    exact h0)
  have HCE4 := Aside0.mk hce4
  clear hce4
  refine start_ (n := 21) (S := fun w' => w'.cell? ⟨g, 1, none⟩ = some (.slice (some ⟨go, 0, none⟩) ps.length oc) ∧ w'.cell? ⟨go, i, none⟩ = some (.slice sA l.length sc)) (ds := [20]) #[ff,ff,ff,ff,ff,ff,ff,ff,ff,ff,ff,ff,ff,ff,ff,ff,ff,ff,ff,ff,ff] (by kernel_rfl) rfl rfl ⟨(blk_cell HR4.out.blk 1).trans rfl, HCE4.out⟩ (fun hHeld => ?_)
  refine with_tabW road.tab10 road.bits10 (fun HT_ HW_ => ?_)
  have HR5 : Aside0 (RawAt w4.drew base g (.slice PA ps.length pc) (.slice (some ⟨go, 0, none⟩) ps.length oc) (.slice PA ps.length pc) (.slice (some ⟨go, 0, none⟩) ps.length oc) b ps hs hs out (idxP ps)) := ⟨HR4.out.below (below_drew1 (Below.refl _ _))⟩
  have HR5L := Aside0.mk (Kd.R_below HR4L.out (below_drew1 (Below.refl w4.heap.size w4)))
  have HB5 : Aside0 (Below w.heap.size w w4.drew) := ⟨below_drew HB4.out⟩
  have HCE5 : Aside0 (w4.drew.cell? ⟨go, i, none⟩ = _) := ⟨HCE4.out⟩
  clear HR4 HR4L HB4 HCE4
  generalize w4.drew = w5 at HR5 HR5L HB5 HCE5 hHeld ⊢
  refine pure_ (i := 0) (N := some 48) (v := ?_) (a' := ?_) #[tt,ff,ff,ff,ff,ff,ff,ff,ff,ff,ff,ff,ff,ff,ff,ff,ff,ff,ff,ff,ff] rfl rfl (any_of HT_.out (by kernel_rfl)) (fun _ _ _ h => h) (Or.inl ⟨by rfl, ?_⟩) ?_ ?_
  rotate_left; exact slv; rotate_left; exact sla
  refine pure_ (i := 1) (N := some 49) (v := ?_) (a' := ?_) #[tt,tt,ff,ff,ff,ff,ff,ff,ff,ff,ff,ff,ff,ff,ff,ff,ff,ff,ff,ff,ff] rfl rfl (any_of HT_.out (by kernel_rfl)) (fun _ _ _ h => h) (Or.inl ⟨by rfl, ?_⟩) ?_ ?_
  rotate_left; exact slv; rotate_left; exact sla
  refine pure_ (i := 2) (N := some 50) (v := ?_) (a' := ?_) #[tt,tt,tt,ff,ff,ff,ff,ff,ff,ff,ff,ff,ff,ff,ff,ff,ff,ff,ff,ff,ff] rfl rfl (any_of HT_.out (by kernel_rfl)) (fun _ _ _ h => h) (Or.inl ⟨by rfl, ?_⟩) ?_ ?_
  rotate_left; exact slv; rotate_left; exact sla
  refine pure_ (i := 4) (N := some 52) (v := ?_) (a' := ?_) #[tt,tt,tt,ff,tt,ff,ff,ff,ff,ff,ff,ff,ff,ff,ff,ff,ff,ff,ff,ff,ff] rfl rfl (any_of HT_.out (by kernel_rfl)) (fun _ _ _ h => h) (Or.inl ⟨by rfl, ?_⟩) ?_ ?_
  rotate_left; exact slv; rotate_left; exact sla
  refine pure_ (i := 5) (N := some 53) (v := ?_) (a' := ?_) #[tt,tt,tt,ff,tt,tt,ff,ff,ff,ff,ff,ff,ff,ff,ff,ff,ff,ff,ff,ff,ff] rfl rfl (any_of HT_.out (by kernel_rfl)) (fun _ _ _ h => h) (Or.inl ⟨by rfl, ?_⟩) ?_ ?_
  rotate_left; exact slv; rotate_left; exact sla
  refine pure_ (i := 6) (N := some 54) (v := ?_) (a' := ?_) #[tt,tt,tt,ff,tt,tt,tt,ff,ff,ff,ff,ff,ff,ff,ff,ff,ff,ff,ff,ff,ff] rfl rfl (any_of HT_.out (by kernel_rfl)) (fun _ _ _ h => h) (Or.inl ⟨by rfl, ?_⟩) ?_ ?_
  rotate_left; exact slv; rotate_left; exact sla
  refine pure_ (i := 7) (N := some 55) (v := ?_) (a' := ?_) #[tt,tt,tt,ff,tt,tt,tt,tt,ff,ff,ff,ff,ff,ff,ff,ff,ff,ff,ff,ff,ff] rfl rfl (any_of HT_.out (by kernel_rfl)) (fun _ _ _ h => h) (Or.inl ⟨by rfl, ?_⟩) ?_ ?_
  rotate_left; exact slv; rotate_left; exact sla
  refine pure_ (i := 9) (N := some 57) (v := ?_) (a' := ?_) #[tt,tt,tt,ff,tt,tt,tt,tt,ff,tt,ff,ff,ff,ff,ff,ff,ff,ff,ff,ff,ff] rfl rfl (any_of HT_.out (by kernel_rfl)) (fun _ _ _ h => h) (Or.inl ⟨by rfl, ?_⟩) ?_ ?_
  rotate_left; exact slv; rotate_left; exact sla
  refine pure_ (i := 12) (N := some 60) (v := ?_) (a' := ?_) #[tt,tt,tt,ff,tt,tt,tt,tt,ff,tt,ff,ff,tt,ff,ff,ff,ff,ff,ff,ff,ff] rfl rfl (any_of HT_.out (by kernel_rfl)) (fun _ _ _ h => h) (Or.inl ⟨by rfl, ?_⟩) ?_ ?_
  rotate_left; exact slv; rotate_left; exact sla
  refine pure_ (i := 13) (N := some 61) (v := ?_) (a' := ?_) #[tt,tt,tt,ff,tt,tt,tt,tt,ff,tt,ff,ff,tt,tt,ff,ff,ff,ff,ff,ff,ff] rfl rfl (any_of HT_.out (by kernel_rfl)) (fun _ _ _ h => h) (Or.inl ⟨by rfl, ?_⟩) ?_ ?_
  rotate_left; exact slv; rotate_left; exact sla
  refine pure_ (i := 14) (N := some 62) (v := ?_) (a' := ?_) #[tt,tt,tt,ff,tt,tt,tt,tt,ff,tt,ff,ff,tt,tt,tt,ff,ff,ff,ff,ff,ff] rfl rfl (any_of HT_.out (by kernel_rfl)) (fun _ _ _ h => h) (Or.inl ⟨by rfl, ?_⟩) ?_ ?_
  rotate_left; exact slv; rotate_left; exact sla
  refine pure_ (i := 15) (N := some 63) (v := ?_) (a' := ?_) #[tt,tt,tt,ff,tt,tt,tt,tt,ff,tt,ff,ff,tt,tt,tt,tt,ff,ff,ff,ff,ff] rfl rfl (any_of HT_.out (by kernel_rfl)) (fun _ _ _ h => h) (Or.inl ⟨by rfl, ?_⟩) ?_ ?_
  rotate_left; exact slv; rotate_left; exact sla
  refine pure_ (i := 16) (N := some 64) (v := ?_) (a' := ?_) #[tt,tt,tt,ff,tt,tt,tt,tt,ff,tt,ff,ff,tt,tt,tt,tt,tt,ff,ff,ff,ff] rfl rfl (any_of HT_.out (by kernel_rfl)) (fun _ _ _ h => h) (Or.inl ⟨by rfl, ?_⟩) ?_ ?_
  rotate_left; exact slv; rotate_left; exact sla
  refine take_ (i := 3) (N := some 51) (v := ?_) (a' := ?_) #[tt,tt,tt,tt,tt,tt,tt,tt,ff,tt,ff,ff,tt,tt,tt,tt,tt,ff,ff,ff,ff] rfl rfl (take_ofW HT_.out HW_.out (by kernel_rfl)) (fun _ _ _ h => h) (Or.inl ⟨by rfl, ?_⟩) hHeld ?_ ?_
  rotate_left; exact slt2; rotate_left; exact sla
  refine take_ (i := 8) (N := some 56) (v := ?_) (a' := ?_) #[tt,tt,tt,tt,tt,tt,tt,tt,tt,tt,ff,ff,tt,tt,tt,tt,tt,ff,ff,ff,ff] rfl rfl (take_ofW HT_.out HW_.out (by kernel_rfl)) (fun _ _ _ h => h) (Or.inl ⟨by rfl, ?_⟩) hHeld ?_ ?_
  rotate_left; exact slt2; rotate_left; exact sla
  refine pure_ (i := 10) (N := some 58) (v := ?_) (a' := ?_) #[tt,tt,tt,tt,tt,tt,tt,tt,tt,tt,tt,ff,tt,tt,tt,tt,tt,ff,ff,ff,ff] rfl rfl (any_of HT_.out (by kernel_rfl)) (fun _ _ _ h => h) (Or.inl ⟨by rfl, ?_⟩) ?_ ?_
  rotate_left; exact slv; rotate_left; exact sla
  refine take_ (i := 11) (N := some 59) (v := ?_) (a' := ?_) #[tt,tt,tt,tt,tt,tt,tt,tt,tt,tt,tt,tt,tt,tt,tt,tt,tt,ff,ff,ff,ff] rfl rfl (take_ofW HT_.out HW_.out (by kernel_rfl)) (fun _ _ _ h => h) (Or.inl ⟨by rfl, ?_⟩) hHeld ?_ ?_
  rotate_left; exact slt2; rotate_left; exact sla
  refine one_ (i := 17) (N := some 65) #[tt,tt,tt,tt,tt,tt,tt,tt,tt,tt,tt,tt,tt,tt,tt,tt,tt,tt,ff,ff,ff] rfl rfl (one_of HT_.out (by kernel_rfl)) (by decide) (fun K hK => ?_)
  refine Kd.R_lit_step kRd (w0 := w) w.heap.size 40 ?hw (N := 65) ?hd (xs := [((i : Int), tv, co)]) (inner := [.int .i64 (i : Int), .int .i64 tv, .int .i64 co]) (ok := fun _ => True) (okp := fun _ => True) ?hr ?hp (fun _ hk => hk) trivial HB5.out HB5.out.size (by simp) ?_
  case hw => rfl
  case hd => rfl
  case hr => first | (go_simp; done) | (go_simp; rfl)
  case hp => exact reps_single ⟨[_], _, rfl, rfl, [_], [_], rfl, rfl, rfl⟩ rfl
  intro v65 w6 ho hb hg_ hnew
  have hbb : Below w5.heap.size w5 w6 := ⟨hg_.os, hg_.tape, hg_.output, hg_.size, fun k hk => hg_.block k hk (by simp)⟩
  have HR6 := Aside0.mk (HR5.out.below hbb)
  have HR6L := Aside0.mk (Kd.R_below HR5L.out hbb)
  have HB6 := Aside0.mk hb
  have HCE6 := Aside0.mk (pw_cell_below hbb HCE5.out)
  obtain ⟨vb, vc, hv65, hv65a, hv65b, _⟩ := Kd.R_form ho (by simp)
  subst hv65
  have HO6 : Aside0 (kRd.R 40 w6 w.heap.size (fun _ => True) (.slice (some ⟨vb, 0, none⟩) 1 vc) [((i : Int), tv, co)]) := ⟨ho⟩
  have HVB : Aside0 (w.heap.size ≤ vb) := ⟨hv65a⟩
  clear ho hb hg_ hnew hbb HR5 HR5L HB5 HCE5 hv65a hv65b
  refine hK.out _ _ ⟨(blk_cell HR6.out.blk 1).trans rfl, HCE6.out⟩ (fun hHeld => ?_)
  clear hK K
  refine norm_ (a' := ?_) ?_ ?_
  rotate_left
  · show Act.put _ (some 65) _ = _
    simp only [Act.put, List.setIfInBounds_toArray, List.set_cons_zero, List.set_cons_succ, i64_w, i32_w]
    rfl
  refine one_ (i := 18) (N := some 66) #[tt,tt,tt,tt,tt,tt,tt,tt,tt,tt,tt,tt,tt,tt,tt,tt,tt,tt,tt,ff,ff] rfl rfl (one_of HT_.out (by kernel_rfl)) (by decide) (fun K hK => ?_)
  have HAV : Aside0 (∀ a : Addr, sA = some a → a.block ≠ vb) := ⟨fun a ha => by subst ha; have := Kd.R_lt HR1.out a.block (by simp [Value.ownBlock]); have := HVB.out; omega⟩
  refine goes_ Try.func33 (by kernel_rfl) rfl #[.slice sA l.length sc, .int .i64 (i4 : Int), .slice (some ⟨vb, 0, none⟩) 1 vc] (by rfl) rfl rfl (by simp only [List.map_toArray, List.map_cons, List.map_nil]; rfl) ?_
  with_reducible refine (insert_calls base w.heap.size sA sc vb vc l ((i : Int), tv, co) w6 HR6L.out HO6.out (Nat.le_trans HBS.out HB6.out.size) HSH.out HAV.out i4 HI4.out.1).mono ?_
  rintro e w7 ⟨A7, c7, rfl, hr7, hg7, hat7⟩
  refine ⟨_, rfl, ?_⟩
  have hty : ∀ k, (encH (sA, l.length, sc)).ownBlock = some k → ∃ cs, w6.heap[k]? = some (.cells cs 40 (0, 0)) := fun k hk => R_ty HR6L.out k hk
  have hlo : hs.length = out.length := by have := H.out.len; omega
  have HR7 := Aside0.mk (HR6.out.rows' hlo HHI.out H.out.apart hty hg7 (hd' := (A7, l.length + 1, c7)) (l' := insL l i4 ((i : Int), tv, co)) hr7 (insL_len _ _ _).symm)
  have HCE7 : Aside0 (w7.cell? ⟨go, i, none⟩ = some (.slice sA l.length sc)) := ⟨hg7.cell HCE6.out (fun e => by
    obtain ⟨cs, hcs⟩ := hty go e.symm
    obtain ⟨cs2, hcs2⟩ := R_ty HR6.out.ows go (by simp [Value.ownBlock])
    rw [hcs2] at hcs
    cases hcs)⟩
  have HC7 : Aside0 (Chg (nfp g b PA (some ⟨go, 0, none⟩) hs) w w7) := ⟨(Chg.of_below HB6.out).trans (Chg.keep (Chg.of_grown hg7) (fun k hk _ => Or.inr (Or.inr (Or.inr (Or.inr ⟨_, List.mem_of_getElem? HHI.out, hk.symm⟩)))))⟩
  have HAT : Aside0 (∀ k, (encH (A7, l.length + 1, c7)).ownBlock = some k → (encH (sA, l.length, sc)).ownBlock = some k ∨ w.heap.size ≤ k) := ⟨fun k hk => by
    rcases hat7 with q | ⟨b7, q1, q2⟩
    · left
      have : (Value.slice A7 (l.length + 1) c7).ownBlock = some k := hk
      rw [q] at this
      exact this
    · right
      have : (Value.slice A7 (l.length + 1) c7).ownBlock = some k := hk
      rw [q1] at this
      cases this
      exact Nat.le_trans HB6.out.size q2⟩
  clear hr7 hg7 hat7 hty hlo HR6 HR6L HB6 HCE6 HO6 HAV HVB
  refine hK.out _ _ ⟨(blk_cell HR7.out.blk 1).trans rfl, HCE7.out⟩ (fun hHeld => ?_)
  clear hK K
  refine norm_ (a' := ?_) ?_ ?_
  rotate_left
  · show Act.put _ (some 66) _ = _
    simp only [Act.put, List.setIfInBounds_toArray, List.set_cons_zero, List.set_cons_succ, i64_w, i32_w]
    rfl
  refine pure_ (i := 19) (N := some 67) (v := ?_) (a' := ?_) #[tt,tt,tt,tt,tt,tt,tt,tt,tt,tt,tt,tt,tt,tt,tt,tt,tt,tt,tt,tt,ff] rfl rfl (any_of HT_.out (by kernel_rfl)) (fun _ _ _ h => h) (Or.inl ⟨by rfl, ?_⟩) ?_ ?_
  rotate_left; exact slv; rotate_left; exact sla
  refine last_ (i := 20) (N := none) #[tt,tt,tt,tt,tt,tt,tt,tt,tt,tt,tt,tt,tt,tt,tt,tt,tt,tt,tt,tt,tt] rfl rfl (one_of HT_.out (by kernel_rfl)) (by decide) (fun K hK => ?_)
  have hc1 : w7.cell? ⟨go, i, none⟩ = some (.slice sA l.length sc) := HCE7.out
  have hfz := (Kd.R_cell (d := ((none, 0, 0) : Hd)) (by rw [H.out.len.1]; exact HR7.out.ows) (i : Int) (by omega) (by have := HLI.out.2.2.2; omega)).2
  rw [Int.toNat_natCast] at hfz
  refine skip_ (w1 := (w7.setCell ⟨go, i, none⟩ (.slice A7 (l.length + 1) c7))) (by rfl) rfl ?_ ?_
  · first | (go_simp; done) | (go_simp; rfl)
  clear hc1 hfz
  have hp := Kd.R_put (by rw [H.out.len.1]; exact HR7.out.ows) (i : Int) ((A7, l.length + 1, c7) : Hd)
  rw [Int.toNat_natCast] at hp
  have HR8 : Aside0 (RawAt (w7.setCell ⟨go, i, none⟩ (.slice A7 (l.length + 1) c7)) base g (.slice PA ps.length pc) (.slice (some ⟨go, 0, none⟩) ps.length oc) (.slice PA ps.length pc) (.slice (some ⟨go, 0, none⟩) ps.length oc) b ps (hs.set i (A7, l.length + 1, c7)) (hs.set i (A7, l.length + 1, c7)) (out.set i (insL l i4 ((i : Int), tv, co))) (idxP ps)) := ⟨(HR7.out.ows' (v1' := .slice (some ⟨go, 0, none⟩) ps.length oc) (hs' := hs.set i (A7, l.length + 1, c7)) (by have := hp.1; rw [H.out.len.1] at this; exact this) (by have := hp.2; exact this))⟩
  have HC8 : Aside0 (Chg (nfp g b PA (some ⟨go, 0, none⟩) hs) w (w7.setCell ⟨go, i, none⟩ (.slice A7 (l.length + 1) c7))) := ⟨HC7.out.setCell (p := ⟨go, i, none⟩) (Or.inl (Or.inr (Or.inr (Or.inr (Or.inl ⟨_, rfl, rfl⟩))))) _⟩
  clear hp HR7 HC7 HCE7
  generalize (w7.setCell ⟨go, i, none⟩ (.slice A7 (l.length + 1) c7)) = w8 at HR8 HC8 ⊢
  refine hK.out _ _ ?_
  clear hK K
  refine done_ (done_of HT_.out (by kernel_rfl)) ?_
  try clear hHeld
  go_wp2
  go_ret
  have hl := H.out.len
  have hmem : ∀ {k : Nat} {hd : Hd}, (hs.set i (A7, l.length + 1, c7))[k]? = some hd → ∀ x, (encH hd).ownBlock = some x → (∃ hd0, hs[k]? = some hd0 ∧ (encH hd0).ownBlock = some x) ∨ (k = i ∧ w.heap.size ≤ x) := by
    intro k hd hk x hx
    rcases set_get hk with ⟨rfl, rfl⟩ | ⟨_, q⟩
    · rcases HAT.out x hx with q | q
      · exact Or.inl ⟨_, HHI.out, q⟩
      · exact Or.inr ⟨rfl, q⟩
    · exact Or.inl ⟨hd, q, hx⟩
  have hlt : ∀ {k : Nat} {hd : Hd}, hs[k]? = some hd → ∀ x, (encH hd).ownBlock = some x → x < w.heap.size := fun {k hd} hk x hx => (H.out.fp_ge x (Or.inr (Or.inr (Or.inr (Or.inr ⟨hd, List.mem_of_getElem? hk, hx⟩))))).2
  refine ⟨rfl, some ⟨go, 0, none⟩, oc, hs.set i (A7, l.length + 1, c7), i4, ⟨HR8.out.blk, HR8.out.pts, HR8.out.ows, HR8.out.rows, ?_, ?_, HR8.out.map, H.out.ge, H.out.okp, H.out.nodup, H.out.most, ?_⟩, HI4.out.1, HI4.out.2.1, ?_, HC8.out, ?_⟩
  · rw [List.length_set, List.length_set]
    exact hl
  · intro i1 j1 h1 k1 hij e1 e2 x hx hy
    rcases hmem e1 x hx with ⟨d1, p1, p2⟩ | ⟨p1, p2⟩
    · rcases hmem e2 x hy with ⟨d2, q1, q2⟩ | ⟨q1, q2⟩
      · exact H.out.apart i1 j1 d1 d2 hij p1 q1 x p2 q2
      · have := hlt p1 x p2
        omega
    · rcases hmem e2 x hy with ⟨d2, q1, q2⟩ | ⟨q1, q2⟩
      · have := hlt q1 x q2
        omega
      · exact hij (p1.trans q1.symm)
  · intro l1 hl1
    obtain ⟨k, hk⟩ := List.getElem?_of_mem hl1
    rcases set_get hk with ⟨_, rfl⟩ | ⟨_, q⟩
    · rw [insL_len]
      exact HLT.out
    · exact H.out.short l1 (List.mem_of_getElem? q)
  · intro k x hk hx
    have h1 := HI4.out.2.2.1 k x hk hx
    have h2 := HIN.out x (List.mem_of_getElem? hx)
    omega
  · rintro k (rfl | rfl | ⟨a, ha, rfl⟩ | ⟨a, ha, rfl⟩ | ⟨hd, hm, hk⟩)
    · exact Or.inl (Or.inl rfl)
    · exact Or.inl (Or.inr (Or.inl rfl))
    · exact Or.inl (Or.inr (Or.inr (Or.inl ⟨a, ha, rfl⟩)))
    · exact Or.inl (Or.inr (Or.inr (Or.inr (Or.inl ⟨a, ha, rfl⟩))))
    · obtain ⟨j, hj⟩ := List.getElem?_of_mem hm
      rcases hmem hj k hk with ⟨d1, p1, p2⟩ | ⟨_, p2⟩
      · exact Or.inl (Or.inr (Or.inr (Or.inr (Or.inr ⟨d1, List.mem_of_getElem? p1, p2⟩))))
      · exact Or.inr p2
end Go.Proofs.Ytgbfhhmmkhjhhaa.Roads
