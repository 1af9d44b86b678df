/- Paths: Table. Conditions: those that stand in each theorem. Written by wip/gen/nettab.py. -/
import Derived.Test.YtgbfhhmmkhjhhaaCPathsQX
import Derived.Test.YtgbfhhmmkhjhhaaCSl
namespace Go.Proofs.Ytgbfhhmmkhjhhaa.Paths
open Go.RowKit Go.Proofs.YtgbfhhmmkhjhhaaW.PrintWords Go.Proofs.YtgbfhhmmkhjhhaaW.PrintLast Go.Proofs.YtgbfhhmmkhjhhaaW.PrintMore Go.Proofs.Ytgbfhhmmkhjhhaa.HeapW Go.Proofs.Ytgbfhhmmkhjhhaa.HeapP Go.Proofs.Ytgbfhhmmkhjhhaa.MapAt Go.Proofs.Ytgbfhhmmkhjhhaa.Dij
open Go.Proofs.Ytgbfhhmmkhjhhaa.HeapIR hiding It Pt kIt_K infoZ reps_single
open Go.Proofs.Ytgbfhhmmkhjhhaa.Roads (flat_keep R_ty Flat kRd rd_at NetS outOf isN isN_iff isN_no Hd encH kHd flatHd flatRd keep_row keep_blk set_get reps_single)
set_option linter.unusedVariables false
set_option linter.unusedSimpArgs false
/-- rows of numbers -/
structure TabAt (w : World) (base go oc n : Nat) (hs : List Hd) (ins : List (List Int)) : Prop where
  ows : kHd.R 32 w base (fun _ => True) (.slice (some ⟨go, 0, none⟩) n oc) hs
  rows : ∀ (j : Nat) (h : Hd) (l : List Int), hs[j]? = some h → ins[j]? = some l → h.2.1 = l.length ∧ kInt.R 3 w base (fun _ => True) (encH h) l
  len : hs.length = n ∧ ins.length = n
  apart : ∀ (i j : Nat) (h k : Hd), i ≠ j → hs[i]? = some h → hs[j]? = some k → ∀ x, (encH h).ownBlock = some x → (encH k).ownBlock ≠ some x
theorem TabAt.below {w w' : World} {base go oc n : Nat} {hs : List Hd} {ins : List (List Int)} (h : TabAt w base go oc n hs ins) (hb : Below w.heap.size w w') : TabAt w' base go oc n hs ins :=
  ⟨Kd.R_below h.ows hb, fun j k l h1 h2 => ⟨(h.rows j k l h1 h2).1, Kd.R_below (h.rows j k l h1 h2).2 hb⟩, h.len, h.apart⟩
theorem TabAt.at_ {w : World} {base go oc n : Nat} {hs : List Hd} {ins : List (List Int)} (h : TabAt w base go oc n hs ins) {t : Int} (h0 : 0 ≤ t) (h1 : t < n) : ∃ (hd : Hd) (l : List Int), hs[t.toNat]? = some hd ∧ ins[t.toNat]? = some l ∧ hd.2.1 = l.length ∧ kInt.R 3 w base (fun _ => True) (encH hd) l ∧ w.cell? ⟨go, t.toNat, none⟩ = some (encH hd) ∧ w.frozen? ⟨go, t.toNat, none⟩ = false := by
  have hh : t.toNat < hs.length := by rw [h.len.1]; omega
  have hi : t.toNat < ins.length := by rw [h.len.2]; omega
  have hc := Kd.R_celln (n := n) (d := ((none, 0, 0) : Hd)) h.ows t h0 h1
  have hrd : rdOf ((none, 0, 0) : Hd) hs t = hs[t.toNat] := by
    unfold rdOf
    rw [List.getD_eq_getElem?_getD, List.getElem?_eq_getElem hh]
    rfl
  rw [hrd] at hc
  obtain ⟨q1, q2⟩ := h.rows t.toNat _ _ (List.getElem?_eq_getElem hh) (List.getElem?_eq_getElem hi)
  exact ⟨_, _, List.getElem?_eq_getElem hh, List.getElem?_eq_getElem hi, q1, q2, hc.1, hc.2⟩
/-- a road more in row t -/
theorem TabAt.more {w w7 : World} {base go oc n : Nat} {hs : List Hd} {ins : List (List Int)} (h : TabAt w base go oc n hs ins) {t : Int} {hd hd' : Hd} {l l' : List Int} (hh : hs[t.toNat]? = some hd) (hi : ins[t.toNat]? = some l) (hg : w.grownBy w7 (encH hd).ownBlock) (hr : kInt.R 3 w7 base (fun _ => True) (encH hd') l') (hl' : hd'.2.1 = l'.length) (hat : (encH hd').ownBlock = (encH hd).ownBlock ∨ ∃ b, (encH hd').ownBlock = some b ∧ w.heap.size ≤ b) : TabAt (w7.setCell ⟨go, t.toNat, none⟩ (encH hd')) base go oc n (hs.set t.toNat hd') (ins.set t.toNat l') := by
  have hrow := (h.rows _ _ _ hh hi).2
  have hty : ∀ k, (encH hd).ownBlock = some k → ∃ cs, w.heap[k]? = some (.cells cs 3 (0, 0)) := fun k hk => R_ty hrow k hk
  have hows : kHd.R 32 w7 base (fun _ => True) (.slice (some ⟨go, 0, none⟩) n oc) hs := keep_row flatHd h.ows hg (t := 3) (by decide) hty
  have hp := Kd.R_putg hows t hd'
  have hgo : ∀ k, some go = some k → ∃ cs, w7.heap[k]? = some (.cells cs 32 (0, 0)) := fun k e => by
    cases e
    exact R_ty hows go (by simp [Value.ownBlock])
  have hlt : ∀ {j : Nat} {k : Hd}, hs[j]? = some k → ∀ x, (encH k).ownBlock = some x → x < w.heap.size := fun {j k} hk x hx => by
    have hj : j < ins.length := by have := (List.getElem?_eq_some_iff.1 hk).1; rw [h.len.2, ← h.len.1]; exact this
    exact Kd.R_lt (h.rows j k _ hk (List.getElem?_eq_getElem hj)).2 x hx
  have hmem : ∀ {k : Nat} {hd1 : Hd}, (hs.set t.toNat hd')[k]? = some hd1 → ∀ x, (encH hd1).ownBlock = some x → (∃ hd0, hs[k]? = some hd0 ∧ (encH hd0).ownBlock = some x) ∨ (k = t.toNat ∧ w.heap.size ≤ x) := by
    intro k hd1 hk x hx
    rcases set_get hk with ⟨rfl, rfl⟩ | ⟨_, q⟩
    · rcases hat with e | ⟨b, e, hle⟩
      · exact Or.inl ⟨hd, hh, by rw [← e]; exact hx⟩
      · rw [e] at hx
        cases hx
        exact Or.inr ⟨rfl, hle⟩
    · exact Or.inl ⟨hd1, q, hx⟩
  refine ⟨hp.1, fun j k l1 h1 h2 => ?_, ⟨by rw [List.length_set]; exact h.len.1, by rw [List.length_set]; exact h.len.2⟩, ?_⟩
  · rcases set_get h1 with ⟨rfl, rfl⟩ | ⟨hne, q⟩
    · rw [List.getElem?_set, if_pos rfl, if_pos (by rw [h.len.2, ← h.len.1]; exact (List.getElem?_eq_some_iff.1 hh).1)] at h2
      cases h2
      exact ⟨hl', keep_row flatInt hr hp.2 (t := 32) (by decide) hgo⟩
    · rw [List.getElem?_set, if_neg (Ne.symm hne)] at h2
      obtain ⟨p1, p2⟩ := h.rows j k l1 q h2
      exact ⟨p1, keep_row flatInt (flat_keep flatInt p2 (fun x hx => hg.block x (Kd.R_lt p2 x hx) (fun e => h.apart j _ k hd hne q hh x hx e.symm)) (fun _ _ => trivial)) hp.2 (t := 32) (by decide) hgo⟩
  · intro i1 j1 h1 k1 hij e1 e2 x hx hy
    rcases hmem e1 x hx with ⟨d1, p1, p2⟩ | ⟨p1, p2⟩
    · rcases hmem e2 x hy with ⟨d2, q1, q2⟩ | ⟨q1, q2⟩
      · exact h.apart i1 j1 d1 d2 hij p1 q1 x p2 q2
      · have := hlt p1 x p2
        omega
    · rcases hmem e2 x hy with ⟨d2, q1, q2⟩ | ⟨q1, q2⟩
      · have := hlt q1 x q2
        omega
      · exact hij (p1.trans q1.symm)
def tabF (go : Nat) (hs : List Hd) (k : Nat) : Prop := k = go ∨ ∃ hd ∈ hs, (encH hd).ownBlock = some k
theorem tabF_lt {w : World} {base go oc n : Nat} {hs : List Hd} {ins : List (List Int)} (h : TabAt w base go oc n hs ins) (k : Nat) (hk : tabF go hs k) : base ≤ k ∧ k < w.heap.size := by
  rcases hk with rfl | ⟨hd, hm, hk⟩
  · exact ⟨Kd.R_base h.ows _ (by simp [Value.ownBlock]), Kd.R_lt h.ows _ (by simp [Value.ownBlock])⟩
  · obtain ⟨j, hj⟩ := List.getElem?_of_mem hm
    have hjl : j < ins.length := by have := (List.getElem?_eq_some_iff.1 hj).1; rw [h.len.2, ← h.len.1]; exact this
    have := (h.rows j hd _ hj (List.getElem?_eq_getElem hjl)).2
    exact ⟨Kd.R_base this _ hk, Kd.R_lt this _ hk⟩
theorem TabAt.more_chg {w w7 : World} {go : Nat} {hs : List Hd} {t : Int} {hd hd' : Hd} (hh : hs[t.toNat]? = some hd) (hg : w.grownBy w7 (encH hd).ownBlock) (hat : (encH hd').ownBlock = (encH hd).ownBlock ∨ ∃ b, (encH hd').ownBlock = some b ∧ w.heap.size ≤ b) (u : Value) : Chg (tabF go hs) w (w7.setCell ⟨go, t.toNat, none⟩ u) ∧ ∀ k, tabF go (hs.set t.toNat hd') k → tabF go hs k ∨ w.heap.size ≤ k := by
  have h0 : Chg (tabF go hs) w w7 := Chg.keep (Chg.of_grown hg) (fun k hk _ => Or.inr ⟨hd, List.mem_of_getElem? hh, hk.symm⟩)
  refine ⟨h0.setCell (p := ⟨go, t.toNat, none⟩) (Or.inl (Or.inl rfl)) u, ?_⟩
  rintro k (rfl | ⟨h1, hm, hk⟩)
  · exact Or.inl (Or.inl rfl)
  · obtain ⟨j, hj⟩ := List.getElem?_of_mem hm
    rcases set_get hj with ⟨_, rfl⟩ | ⟨_, q⟩
    · rcases hat with e | ⟨b, e, hle⟩
      · exact Or.inl (Or.inr ⟨hd, List.mem_of_getElem? hh, by rw [← e]; exact hk⟩)
      · rw [e] at hk
        cases hk
        exact Or.inr hle
    · exact Or.inl (Or.inr ⟨h1, List.mem_of_getElem? q, hk⟩)
theorem infoHdi : (Try.prog.info? 32).map (fun i => (i.zero, i.size, i.bytes)) = some (some (.slice none 0 0), 1, 24) := by kernel_rfl
theorem all_of_check {n : Nat} {l : List Int} (h : checkP n l = 0) : ∀ v ∈ l, isN n v = true := by
  unfold checkP at h
  split at h
  · rename_i q
    exact List.all_eq_true.1 q
  · simp at h
/-- the rows that are full -/
structure TabI (N : Nat) (outf : Int → List Rd) (l : List Int) (i : Nat) (tab : List (List Int)) : Prop where
  full : ∀ (j : Nat) (v : Int), j < i → l[j]? = some v → ∃ c, Dist N outf v c ∧ tab[j]? = some (l.map (cv c))
  rest : ∀ j, i ≤ j → j < l.length → tab[j]? = some []
/-- row i has k numbers -/
structure TabK (N : Nat) (outf : Int → List Rd) (l : List Int) (i k : Nat) (c : List Int) (tab : List (List Int)) : Prop where
  full : ∀ (j : Nat) (v : Int), j < i → l[j]? = some v → ∃ c, Dist N outf v c ∧ tab[j]? = some (l.map (cv c))
  row : tab[i]? = some ((l.take k).map (cv c))
  rest : ∀ j, i < j → j < l.length → tab[j]? = some []
theorem TabI.start {N : Nat} {outf : Int → List Rd} {l : List Int} {n : Nat} (hn : n = l.length) : TabI N outf l 0 (List.replicate n []) where
  full j v hj := by omega
  rest j _ hj := by rw [List.getElem?_replicate, if_pos (by omega)]
theorem TabI.open_ {N : Nat} {outf : Int → List Rd} {l : List Int} {i : Nat} {c : List Int} {tab : List (List Int)} (h : TabI N outf l i tab) (hi : i < l.length) : TabK N outf l i 0 c tab :=
  ⟨h.full, by rw [h.rest i (Nat.le_refl _) hi]; rfl, fun j hj hl => h.rest j (by omega) hl⟩
theorem TabK.step {N : Nat} {outf : Int → List Rd} {l : List Int} {i k : Nat} {c : List Int} {tab : List (List Int)} (h : TabK N outf l i k c tab) {v : Int} (hv : l[k]? = some v) : TabK N outf l i (k + 1) c (tab.set i ((l.take k).map (cv c) ++ [cv c v])) where
  full j u hj hu := by
    obtain ⟨c', h1, h2⟩ := h.full j u hj hu
    exact ⟨c', h1, by rw [List.getElem?_set, if_neg (by omega)]; exact h2⟩
  row := by
    rw [List.getElem?_set, if_pos rfl, if_pos (List.getElem?_eq_some_iff.1 h.row).1, List.take_add_one, hv, List.map_append]
    rfl
  rest j hj hl := by rw [List.getElem?_set, if_neg (by omega)]; exact h.rest j hj hl
theorem TabK.close {N : Nat} {outf : Int → List Rd} {l : List Int} {i k : Nat} {c : List Int} {tab : List (List Int)} (h : TabK N outf l i k c tab) (hk : l.length ≤ k) {s : Int} (hs : l[i]? = some s) (hd : Dist N outf s c) : TabI N outf l (i + 1) tab where
  full j v hj hv := by
    by_cases e : j = i
    · subst e
      rw [hs] at hv
      cases hv
      exact ⟨c, hd, by have := h.row; rwa [List.take_of_length_le hk] at this⟩
    · exact h.full j v (by omega) hv
  rest j hj hl := h.rest j (by omega) hl
def table.T12 : Bool × List (List Nat × List Nat) := (true, [([], []), ([], []), ([], []), ([], []), ([2, 3], [2, 3]), ([4], [4]), ([], []), ([], []), ([6, 7], [6, 7]), ([8], [8]), ([9], [9]), ([5, 10], [5, 10]), ([0, 1, 0, 1, 2, 3, 4, 5, 6, 7, 8, 9, 10, 11], [0, 1]), ([12, 11, 11, 0, 1, 2, 3, 4, 5, 6, 7, 8, 9, 10, 11], [11, 12])])
def table.B12 : List Nat := [0, 0, 0, 0, 12, 28, 0, 0, 192, 448, 960, 2044, 4095, 8191]
theorem table.tab12 : rtab .any (opsOf Try.f19 12) = table.T12 := by kernel_rfl
theorem table.bits12 : waitsOk table.T12.2 table.B12 = true := by kernel_rfl
set_option maxHeartbeats 16000000 in
set_option maxRecDepth 100000 in
theorem table_calls {w : World} {base g : Nat} {ps : List Roads.Pt} {out : List (List Rd)} {F : Nat → Prop} (h : NetS w base g ps out F) (hb : base ≤ w.heap.size) (A : Option Addr) (c : Nat) (l : List Int) (hC : Kd.C kInt w A l.length l) (hll : l.length ≤ 1000000000000) (hg : checkP out.length l = 0) (h0 : 0 < l.length) :
    Calls Try.prog 19 #[.pointer (some ⟨g, 0, none⟩), .slice A l.length c] w fun e w' => Below w.heap.size w w' ∧ ∃ go oc hs tab, e = .returned (.tuple #[.slice (some ⟨go, 0, none⟩) l.length oc, .int .i64 0]) ∧ TabAt w' w.heap.size go oc l.length hs tab ∧ ∀ (j : Nat) (v : Int), l[j]? = some v → ∃ c, Dist out.length (outOf out) v c ∧ tab[j]? = some (l.map (cv c)) := by
  obtain ⟨N, hN⟩ : ∃ N, out.length = N := ⟨_, rfl⟩
  obtain ⟨n, hn⟩ : ∃ n, n = l.length := ⟨_, rfl⟩
  have HCH := Aside0.mk (check_calls h hb A c l hC hll)
  rw [hg, ← hn] at HCH
  have H := Aside0.mk h
  have HNO := Aside0.mk hN
  have HL : Aside0 (N ≤ 4096) := ⟨by have := h.len; omega⟩
  have HC := Aside0.mk hC
  have HLN : Aside0 (n = l.length ∧ n ≤ 1000000000000 ∧ 0 < n) := ⟨hn, by omega, by omega⟩
  have HAL : Aside0 (∀ v ∈ l, 0 ≤ v ∧ v < (N : Int)) := ⟨fun v hv => by rw [← hN]; exact isN_iff.1 (all_of_check hg v hv)⟩
  have hn0 : 0 < n := by omega
  have HAT : Aside0 (∀ (k : Nat), k < n → ∃ (a : Addr) (v : Int), A = some a ∧ l[k]? = some v ∧ ∀ w', Below w.heap.size w w' → w'.cell? (a.add k) = some (.int .i64 v)) := ⟨fun k hk => by
    obtain ⟨a, ha, hq⟩ := int_at hC (j := k) (by omega) rfl
    exact ⟨a, _, ha, List.getElem?_eq_getElem (by omega), hq⟩⟩
  rw [hN, ← hn]
  clear h hb hC hll hg h0 hN hn
  go_enter Try.func19, Try.ntmps19
  go_wp2_with fail
  refine HCH.out.mono ?_
  rintro e w1 ⟨rfl, hb1⟩
  have HB1 := Aside0.mk hb1
  clear hb1 HCH
  go_wp2_with (first | ((with_reducible refine gate_dst (N := 22) rfl ?_); refine Kd.R_make kHd (w0 := w) w.heap.size 32 rfl (N := 22) rfl 51 (.tmp 21) (.tmp 21) rfl (n : Int) rfl rfl Try.underlying51 (.slice none 0 0) 24 infoHdi rfl (by decide) (by omega) ((none, 0, 0) : Hd) (ok := fun _ => True) (okp := fun _ => True) rfl (fun _ h => h) trivial (by omega) (by rw [Int.toNat_natCast]; have := HLN.out; omega) HB1.out HB1.out.size ?_; intro u9 w9 h9 hb9 hg9 _; rw [Int.toNat_natCast] at h9; obtain ⟨go, oc, hu9, hgo1, hgo2, _⟩ := Kd.R_form h9 (by rw [List.length_replicate]; have := HLN.out; omega); rw [List.length_replicate] at hu9; subst hu9; have H9 := Aside0.mk h9; have HB9 := Aside0.mk hb9; clear h9 hb9 hg9 hgo1 hgo2) | ((with_reducible refine gate_upon ?_); go_simp))
  have HTA : Aside0 (TabAt w9 w.heap.size go oc n (List.replicate n (none, 0, 0)) (List.replicate n [])) := ⟨by
    refine ⟨H9.out, ?_, ⟨List.length_replicate, List.length_replicate⟩, ?_⟩
    · intro j h l h1 h2
      rw [List.getElem?_replicate] at h1 h2
      split at h1
      · cases h1
        rename_i hj
        rw [if_pos hj] at h2
        cases h2
        exact ⟨rfl, Kd.R_nil _ _ _ _ _⟩
      · cases h1
    · intro i j h k _ h1 _ x hx
      rw [List.getElem?_replicate] at h1
      split at h1
      · cases h1
        simp [encH, Value.ownBlock] at hx
      · cases h1⟩
  clear H9 HB1
  go_loopg [25] n (fun kq v25 w' => ∃ (i : Nat) (hs : List Hd) (tab : List (List Int)), v25 = .int .i64 i ∧ Aside0 (i + kq = n) ∧ Aside0 (TabAt w' w.heap.size go oc n hs tab) ∧ Aside0 (TabI N (outOf out) l i tab) ∧ Aside0 (Below w.heap.size w w'))
  case atStart => exact ⟨0, _, _, by first | rfl | simp, ⟨by omega⟩, HTA, ⟨TabI.start HLN.out.1⟩, HB9⟩
  case round =>
   as_aux_lemma =>
    clear HTA HB9
    obtain ⟨i, hs, tab, rfl, HI, HTA, HTI, HBW⟩ := hrel
    cases gk with
    | zero =>
      have hk : n = i := by have := HI.out; omega
      subst hk
      have hgt : decide (n < n) = false := decide_eq_false (by omega)
      go_wp2_with (first | fail | ((with_reducible refine gate_upon ?_); go_simp))
      refine bodyPost_ret (results_list (rs := [.tmp 4, .tmp 5]) rfl (by simp) (.tmp (.tmp .nil))) rfl ?_
      exact ⟨HBW.out, go, oc, hs, tab, rfl, HTA.out, fun j v hv => HTI.out.full j v (by have := (List.getElem?_eq_some_iff.1 hv).1; have := HLN.out.1; omega) hv⟩
    | succ gk2 =>
     as_aux_lemma =>
      have hin : i < n := by have := HI.out; omega
      have hlt : decide (i < n) = true := decide_eq_true hin
      have hltI : (i : Int) < n := by omega
      have HI1 : Aside0 (i + 1 + gk2 = n) := ⟨by have := HI.out; omega⟩
      have HWI : Aside0 (wrap64 ((i : Int) + 1) = (i : Int) + 1) := ⟨by unfold wrap64; have := HI.out; have := HLN.out; omega⟩
      obtain ⟨a, s, ha, hls, hq⟩ := HAT.out i hin
      have HLS : Aside0 (l[i]? = some s ∧ 0 ≤ s ∧ s < (N : Int)) := ⟨hls, HAL.out s (List.mem_of_getElem? hls)⟩
      have qa := hq wr HBW.out
      subst ha
      have HNW := Aside0.mk (H.out.below HBW.out)
      have hnd := HNW.out.nodes
      rw [HNO.out] at hnd
      have HND := Aside0.mk hnd
      have hco := costs_calls N s 13 #[.pointer (some ⟨g, 0, none⟩)] #[] (outOf out) wr (by have := asks_out HNW.out; rwa [HNO.out] at this) HL.out HLS.out.2
      have HCO := Aside0.mk hco
      clear hls hq hnd hco
      go_wp2_with (first | fail | ((with_reducible refine gate_upon ?_); go_simp))
      refine HND.out.mono ?_
      rintro e w2 ⟨rfl, hw⟩
      have hw := hw.symm
      subst hw
      go_wp2_with (first | fail | ((with_reducible refine gate_upon ?_); go_simp))
      refine HCO.out.mono ?_
      rintro e w3 ⟨A3, cc, ov, cs, o, rfl, hr3, -, hd3, -, hb3⟩
      obtain ⟨gw, cap, hA, hgw1, hgw2, _⟩ := Kd.R_form hr3 (by rw [hd3.len]; have := HLS.out; omega)
      rw [hd3.len] at hA
      simp only [Value.slice.injEq] at hA
      obtain ⟨rfl, -, rfl⟩ := hA
      have HD := Aside0.mk hd3
      have HSZ := Aside0.mk HBW.out.size
      have HRC3 := Aside0.mk hr3
      have HNF : Aside0 (¬ tabF go hs gw) := ⟨fun q => by have := (tabF_lt HTA.out gw q).2; omega⟩
      have HTA3 := Aside0.mk (HTA.out.below hb3)
      have HB3 := Aside0.mk (below_step HBW.out hb3)
      have HTK : Aside0 (TabK N (outOf out) l i 0 cs tab) := ⟨HTI.out.open_ (by have := HLN.out.1; omega)⟩
      clear hr3 hd3 hb3 hgw1 hgw2 HTA HBW HTI HND HCO HNW qa
      go_wp2_with (first | fail | ((with_reducible refine gate_upon ?_); go_simp))
      go_loopg [41] n (fun kq v41 w' => ∃ (k : Nat) (hs : List Hd) (tab : List (List Int)), v41 = .int .i64 k ∧ Aside0 (k + kq = n) ∧ Aside0 (TabAt w' w.heap.size go oc n hs tab) ∧ Aside0 (TabK N (outOf out) l i k cs tab) ∧ Aside0 (¬ tabF go hs gw) ∧ Aside0 (kInt.R 3 w' w.heap.size (fun _ => True) (.slice (some ⟨gw, 0, none⟩) N cc) cs) ∧ Aside0 (Below w.heap.size w w'))
      case atStart => exact ⟨0, hs, tab, by first | rfl | simp, ⟨by omega⟩, HTA3, HTK, HNF, ⟨Kd.R_lower HRC3.out HSZ.out⟩, HB3⟩
      case round =>
       as_aux_lemma =>
        clear HTA3 HTK HNF HRC3 HB3
        obtain ⟨k, hs, tab, rfl, HK, HTA, HTK, HNF, HRC, HBW⟩ := hrel
        cases gk with
        | zero =>
          have hk : n = k := by have := HK.out; omega
          subst hk
          have hgt : decide (n < n) = false := decide_eq_false (by omega)
          have hwi := HWI.out
          go_wp2_with (first | fail | ((with_reducible refine gate_upon ?_); go_simp))
          go_roundg gk2
          case measure => first | exact Nat.lt_succ_self _ | omega
          case rel => exact ⟨i + 1, hs, tab, by first | rfl | (simp; done) | (rw [hwi]; done) | (rw [hwi]; rfl), HI1, HTA, ⟨HTK.out.close (by rw [← HLN.out.1]; exact Nat.le_refl _) HLS.out.1 HD.out⟩, HBW⟩
        | succ gk3 =>
         as_aux_lemma =>
          have hkn : k < n := by have := HK.out; omega
          have hlt : decide (k < n) = true := decide_eq_true hkn
          have hltk : (k : Int) < n := by omega
          have HK1 : Aside0 (k + 1 + gk3 = n) := ⟨by have := HK.out; omega⟩
          have HWK : Aside0 (wrap64 ((k : Int) + 1) = (k : Int) + 1) := ⟨by unfold wrap64; have := HK.out; have := HLN.out; omega⟩
          obtain ⟨a2, t, ha2, hlt2, hq2⟩ := HAT.out k hkn
          cases ha2
          have HLT : Aside0 (l[k]? = some t ∧ 0 ≤ t ∧ t < (N : Int)) := ⟨hlt2, HAL.out t (List.mem_of_getElem? hlt2)⟩
          have qa := hq2 wr HBW.out
          have ht0 : 0 ≤ t := HLT.out.2.1
          have htn : t < (N : Int) := HLT.out.2.2
          clear hlt2 hq2
          go_upto_region 12 with (first | fail | ((with_reducible refine gate_upon ?_); go_simp))
          clear qa
          obtain ⟨⟨sA, sn, sc⟩, rl, p1, p2, p3, p4, p5, p6⟩ := HTA.out.at_ (t := (i : Int)) (by omega) hltI
          rw [Int.toNat_natCast] at p1 p2 p5 p6
          have p3' : sn = rl.length := p3
          subst p3'
          have hrl : rl = (l.take k).map (cv cs) := by have := HTK.out.row; rw [p2] at this; exact Option.some.inj this
          have HRL : Aside0 (rl = (l.take k).map (cv cs) ∧ rl.length ≤ n) := ⟨hrl, by rw [hrl, List.length_map, List.length_take]; omega⟩
          have HP := Aside0.mk (And.intro p1 p2)
          have HROW : Aside0 (kInt.R 3 wr w.heap.size (fun _ => True) (.slice sA rl.length sc) rl) := ⟨p4⟩
          have HCE : Aside0 (wr.cell? ⟨go, i, none⟩ = some (.slice sA rl.length sc)) := ⟨p5⟩
          have HCT : Aside0 (wr.cell? ⟨gw, t.toNat, none⟩ = some (.int .i64 (cv cs t))) := ⟨row_at HRC.out t ht0 htn⟩
          obtain ⟨ct, hct⟩ : ∃ ct, ct = cv cs t := ⟨_, rfl⟩
          have HST : Aside0 (TabK N (outOf out) l i (k + 1) cs (tab.set i (rl ++ [ct]))) := ⟨by rw [hct, hrl]; exact HTK.out.step HLT.out.1⟩
          rw [← hct] at HCT
          obtain ⟨rn, hrn⟩ : ∃ rn, rn = rl.length := ⟨_, rfl⟩
          clear p1 p2 p3 p4 p5 p6 hrl hct
          refine start_ (n := 14) (S := fun w' => w'.cell? ⟨go, i, none⟩ = some (.slice sA rl.length sc) ∧ w'.cell? ⟨gw, t.toNat, none⟩ = some (.int .i64 ct)) (ds := [13]) #[ff,ff,ff,ff,ff,ff,ff,ff,ff,ff,ff,ff,ff,ff] (by kernel_rfl) rfl rfl ⟨HCE.out, HCT.out⟩ (fun hHeld => ?_)
          refine with_tabW table.tab12 table.bits12 (fun HT_ HW_ => ?_)
          have HTA4 := Aside0.mk (HTA.out.below (below_drew1 (Below.refl wr.heap.size wr)))
          have HRC4 := Aside0.mk (Kd.R_drew HRC.out)
          have HBW4 : Aside0 (Below w.heap.size w wr.drew) := ⟨below_drew HBW.out⟩
          have HCE4 : Aside0 (wr.drew.cell? ⟨go, i, none⟩ = _) := ⟨HCE.out⟩
          have HCT4 : Aside0 (wr.drew.cell? ⟨gw, t.toNat, none⟩ = _) := ⟨HCT.out⟩
          have HRO4 := Aside0.mk (Kd.R_drew HROW.out)
          clear HTA HRC HBW HCE HCT HROW
          generalize wr.drew = w4 at HTA4 HRC4 HBW4 HCE4 HCT4 HRO4 hHeld ⊢
          refine pure_ (i := 0) (N := some 45) (v := ?_) (a' := ?_) #[tt,ff,ff,ff,ff,ff,ff,ff,ff,ff,ff,ff,ff,ff] rfl rfl (any_of HT_.out (by kernel_rfl)) (fun _ _ _ h => h) (Or.inl ⟨by rfl, ?_⟩) ?_ ?_
          rotate_left; exact slv; rotate_left; exact sla
          refine pure_ (i := 1) (N := some 46) (v := ?_) (a' := ?_) #[tt,tt,ff,ff,ff,ff,ff,ff,ff,ff,ff,ff,ff,ff] rfl rfl (any_of HT_.out (by kernel_rfl)) (fun _ _ _ h => h) (Or.inl ⟨by rfl, ?_⟩) ?_ ?_
          rotate_left; exact slv; rotate_left; exact sla
          refine pure_ (i := 2) (N := some 47) (v := ?_) (a' := ?_) #[tt,tt,tt,ff,ff,ff,ff,ff,ff,ff,ff,ff,ff,ff] rfl rfl (any_of HT_.out (by kernel_rfl)) (fun _ _ _ h => h) (Or.inl ⟨by rfl, ?_⟩) ?_ ?_
          rotate_left; exact slv; rotate_left; exact sla
          refine pure_ (i := 3) (N := some 48) (v := ?_) (a' := ?_) #[tt,tt,tt,tt,ff,ff,ff,ff,ff,ff,ff,ff,ff,ff] rfl rfl (any_of HT_.out (by kernel_rfl)) (fun _ _ _ h => h) (Or.inl ⟨by rfl, ?_⟩) ?_ ?_
          rotate_left; exact slv; rotate_left; exact sla
          refine pure_ (i := 4) (N := some 49) (v := ?_) (a' := ?_) #[tt,tt,tt,tt,tt,ff,ff,ff,ff,ff,ff,ff,ff,ff] rfl rfl (any_of HT_.out (by kernel_rfl)) (fun _ _ _ h => h) (Or.inl ⟨by rfl, ?_⟩) ?_ ?_
          rotate_left; exact slv; rotate_left; exact sla
          refine pure_ (i := 6) (N := some 51) (v := ?_) (a' := ?_) #[tt,tt,tt,tt,tt,ff,tt,ff,ff,ff,ff,ff,ff,ff] rfl rfl (any_of HT_.out (by kernel_rfl)) (fun _ _ _ h => h) (Or.inl ⟨by rfl, ?_⟩) ?_ ?_
          rotate_left; exact slv; rotate_left; exact sla
          refine pure_ (i := 7) (N := some 52) (v := ?_) (a' := ?_) #[tt,tt,tt,tt,tt,ff,tt,tt,ff,ff,ff,ff,ff,ff] rfl rfl (any_of HT_.out (by kernel_rfl)) (fun _ _ _ h => h) (Or.inl ⟨by rfl, ?_⟩) ?_ ?_
          rotate_left; exact slv; rotate_left; exact sla
          refine pure_ (i := 8) (N := some 53) (v := ?_) (a' := ?_) #[tt,tt,tt,tt,tt,ff,tt,tt,tt,ff,ff,ff,ff,ff] rfl rfl (any_of HT_.out (by kernel_rfl)) (fun _ _ _ h => h) (Or.inl ⟨by rfl, ?_⟩) ?_ ?_
          rotate_left; exact slv; rotate_left; exact sla
          refine take_ (i := 5) (N := some 50) (v := ?_) (a' := ?_) #[tt,tt,tt,tt,tt,tt,tt,tt,tt,ff,ff,ff,ff,ff] rfl rfl (take_ofW HT_.out HW_.out (by kernel_rfl)) (fun _ _ _ h => h) (Or.inl ⟨by rfl, ?_⟩) hHeld ?_ ?_
          rotate_left; exact slt2; rotate_left; exact sla
          refine take_ (i := 9) (N := some 54) (v := ?_) (a' := ?_) #[tt,tt,tt,tt,tt,tt,tt,tt,tt,tt,ff,ff,ff,ff] rfl rfl (take_ofW HT_.out HW_.out (by kernel_rfl)) (fun _ _ _ h => h) (Or.inl ⟨by rfl, ?_⟩) hHeld ?_ ?_
          rotate_left; exact slt2; rotate_left; exact sla
          refine one_ (i := 10) (N := some 55) #[tt,tt,tt,tt,tt,tt,tt,tt,tt,tt,tt,ff,ff,ff] rfl rfl (one_of HT_.out (by kernel_rfl)) (by decide) (fun K hK => ?_)
          refine Kd.R_lit_step kInt (w0 := w) w.heap.size 3 ?hw (N := 55) ?hd (xs := [ct]) (inner := [.int .i64 ct]) (ok := fun _ => True) (okp := fun _ => True) ?hr ?hp (fun _ hk => hk) trivial HBW4.out HBW4.out.size (by simp) ?_
          case hw => rfl
          case hd => rfl
          case hr => first | (go_simp; done) | (go_simp; rfl)
          case hp => exact reps_single rfl rfl
          intro v66 w6 ho hb hg_ hnew
          have hbb : Below w4.heap.size w4 w6 := ⟨hg_.os, hg_.tape, hg_.output, hg_.size, fun k hk => hg_.block k hk (by simp)⟩
          have HTA6 := Aside0.mk (HTA4.out.below hbb)
          have HRC6 := Aside0.mk (Kd.R_below HRC4.out hbb)
          have HCE6 := Aside0.mk (pw_cell_below hbb HCE4.out)
          have HCT6 := Aside0.mk (pw_cell_below hbb HCT4.out)
          have HRO6 := Aside0.mk (Kd.R_below HRO4.out hbb)
          have HBW6 := Aside0.mk hb
          obtain ⟨A8, c8, e8, hle8, hC8⟩ := Kd.R_reads ho
          subst e8
          have HC8 := Aside0.mk hC8
          clear ho hb hg_ hnew hbb HTA4 HRC4 HCE4 HCT4 HRO4 HBW4 hle8 hC8
          refine hK.out _ _ ⟨HCE6.out, HCT6.out⟩ (fun hHeld => ?_)
          clear hK K
          refine norm_ (a' := ?_) ?_ ?_
          rotate_left
          · show Act.put _ (some 55) _ = _
            simp only [Act.put, List.setIfInBounds_toArray, List.set_cons_zero, List.set_cons_succ, i64_w, i32_w]
            rfl
          refine one_ (i := 11) (N := some 56) #[tt,tt,tt,tt,tt,tt,tt,tt,tt,tt,tt,tt,ff,ff] rfl rfl (one_of HT_.out (by kernel_rfl)) (by decide) (fun K hK => ?_)
          refine Kd.R_append_rows_step kInt (w0 := w) w.heap.size ?hw (.tmp 50) (.tmp 55) 32 3 (.int .i64 0) 8 rfl Try.underlying32 infoInt rfl (by decide) (by omega) (.slice sA rl.length sc) rl [ct] A8 1 c8 (fun _ => True) (fun _ => False) rfl rfl HRO6.out HC8.out (fun _ _ h => h) (fun _ h => h.elim) (fun _ _ => trivial) HBW6.out HBW6.out.size (by have := HRL.out; have := HLN.out; omega) ?_
          case hw => rfl
          intro v67 w7 ho hb hg_ hat
          obtain ⟨A9, c9, e9⟩ := Kd.R_slice ho
          obtain ⟨l9, hl9⟩ : ∃ l9, l9 = (rl ++ [ct]).length := ⟨_, rfl⟩
          rw [← hl9] at e9
          subst e9
          have hty : ∀ k, (encH (sA, rl.length, sc)).ownBlock = some k → ∃ cs, w6.heap[k]? = some (.cells cs 3 (0, 0)) := fun k hk => R_ty HRO6.out k hk
          have HCE7 : Aside0 (w7.cell? ⟨go, i, none⟩ = some (.slice sA rl.length sc)) := ⟨hg_.cell HCE6.out (fun e => by
            obtain ⟨cs, hcs⟩ := hty go e.symm
            obtain ⟨cs2, hcs2⟩ := R_ty HTA6.out.ows go (by simp [Value.ownBlock])
            rw [hcs2] at hcs
            cases hcs)⟩
          have hgwr : (encH (sA, rl.length, sc)).ownBlock ≠ some gw := fun e => HNF.out (Or.inr ⟨_, List.mem_of_getElem? HP.out.1, e⟩)
          have HCT7 : Aside0 (w7.cell? ⟨gw, t.toNat, none⟩ = some (.int .i64 ct)) := ⟨hg_.cell HCT6.out (fun e => hgwr e.symm)⟩
          have hMO := HTA6.out.more (t := (i : Int)) (hd := (sA, rl.length, sc)) (by rw [Int.toNat_natCast]; exact HP.out.1) (by rw [Int.toNat_natCast]; exact HP.out.2) hg_ (hd' := (A9, l9, c9)) ho hl9 hat
          have hmc := TabAt.more_chg (go := go) (t := (i : Int)) (hd := (sA, rl.length, sc)) (hd' := (A9, l9, c9)) (by rw [Int.toNat_natCast]; exact HP.out.1) hg_ hat (.slice A9 l9 c9)
          rw [Int.toNat_natCast] at hMO hmc
          have HMO := Aside0.mk hMO
          have HMC := Aside0.mk hmc.1
          have HNF8 : Aside0 (¬ tabF go (hs.set i (A9, l9, c9)) gw) := ⟨fun q => by
            rcases hmc.2 gw q with q | q
            · exact HNF.out q
            · have := Kd.R_lt HRC6.out gw (by simp [Value.ownBlock]); omega⟩
          have HRC8' : Aside0 (kInt.R 3 (w7.setCell ⟨go, i, none⟩ (.slice A9 l9 c9)) w.heap.size (fun _ => True) (.slice (some ⟨gw, 0, none⟩) N cc) cs) := ⟨flat_keep flatInt HRC6.out (fun x hx => HMC.out.block x (Kd.R_lt HRC6.out x hx) (fun q => by have e : some gw = some x := hx; cases e; exact HNF.out q)) (fun _ _ => trivial)⟩
          have HFR : Aside0 (w7.frozen? ⟨go, i, none⟩ = false) := ⟨by
            have := keep_row flatHd HTA6.out.ows hg_ (t := 3) (by decide) hty
            have h2 := (Kd.R_celln (n := n) (d := ((none, 0, 0) : Hd)) this (i : Int) (by omega) hltI).2
            rwa [Int.toNat_natCast] at h2⟩
          have HB7 := Aside0.mk hb
          have HGO : Aside0 (w.heap.size ≤ go) := ⟨(tabF_lt HTA6.out go (Or.inl rfl)).1⟩
          clear ho hb hg_ hat hty hgwr hMO hmc HTA6 HRC6 HCE6 HCT6 HRO6 HC8
          refine hK.out _ _ ⟨HCE7.out, HCT7.out⟩ (fun hHeld => ?_)
          clear hK K
          refine norm_ (a' := ?_) ?_ ?_
          rotate_left
          · show Act.put _ (some 56) _ = _
            simp only [Act.put, List.setIfInBounds_toArray, List.set_cons_zero, List.set_cons_succ, i64_w, i32_w]
            rfl
          refine pure_ (i := 12) (N := some 57) (v := ?_) (a' := ?_) #[tt,tt,tt,tt,tt,tt,tt,tt,tt,tt,tt,tt,tt,ff] rfl rfl (any_of HT_.out (by kernel_rfl)) (fun _ _ _ h => h) (Or.inl ⟨by rfl, ?_⟩) ?_ ?_
          rotate_left; exact slv; rotate_left; exact sla
          refine last_ (i := 13) (N := none) #[tt,tt,tt,tt,tt,tt,tt,tt,tt,tt,tt,tt,tt,tt] rfl rfl (one_of HT_.out (by kernel_rfl)) (by decide) (fun K hK => ?_)
          have hc1 : w7.cell? ⟨go, i, none⟩ = some (.slice sA rl.length sc) := HCE7.out
          have hf1 : w7.frozen? ⟨go, i, none⟩ = false := HFR.out
          refine skip_ (w1 := (w7.setCell ⟨go, i, none⟩ (.slice A9 l9 c9))) (by rfl) rfl ?_ ?_
          · first | (go_simp; done) | (go_simp; rfl)
          clear hc1 hf1
          have HTA8 : Aside0 (TabAt (w7.setCell ⟨go, i, none⟩ (.slice A9 l9 c9)) w.heap.size go oc n (hs.set i (A9, l9, c9)) (tab.set i (rl ++ [ct]))) := HMO
          have HRC8 : Aside0 (kInt.R 3 (w7.setCell ⟨go, i, none⟩ (.slice A9 l9 c9)) w.heap.size (fun _ => True) (.slice (some ⟨gw, 0, none⟩) N cc) cs) := HRC8'
          have HBW8 : Aside0 (Below w.heap.size w (w7.setCell ⟨go, i, none⟩ (.slice A9 l9 c9))) := ⟨HB7.out.setCell HGO.out _⟩
          clear HMO HMC HRC8' HB7 HCE7 HCT7 HFR
          generalize (w7.setCell ⟨go, i, none⟩ (.slice A9 l9 c9)) = w8 at HTA8 HRC8 HBW8 ⊢
          refine hK.out _ _ ?_
          clear hK K
          refine done_ (done_of HT_.out (by kernel_rfl)) ?_
          try clear hHeld
          have hwk := HWK.out
          go_wp2_with (first | fail | ((with_reducible refine gate_upon ?_); go_simp))
          go_roundg gk3
          case measure => first | exact Nat.lt_succ_self _ | omega
          case rel => exact ⟨k + 1, _, _, by first | rfl | (simp; done) | (rw [hwk]; done) | (rw [hwk]; rfl), HK1, HTA8, HST, HNF8, HRC8, HBW8⟩
end Go.Proofs.Ytgbfhhmmkhjhhaa.Paths
