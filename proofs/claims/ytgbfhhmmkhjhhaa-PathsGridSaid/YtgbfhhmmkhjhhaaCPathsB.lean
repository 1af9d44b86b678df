/- Paths: the roads turned round. Conditions: those that stand in each theorem. Written by wip/gen/netback.py. -/
import Derived.Test.YtgbfhhmmkhjhhaaCPathsFIT
import Derived.Test.YtgbfhhmmkhjhhaaCSl
namespace Go.Proofs.Ytgbfhhmmkhjhhaa.Paths
open Go.RowKit Go.Proofs.YtgbfhhmmkhjhhaaW.PrintWords Go.Proofs.YtgbfhhmmkhjhhaaW.PrintLast Go.Proofs.YtgbfhhmmkhjhhaaW.PrintMore Go.Proofs.Ytgbfhhmmkhjhhaa.HeapW Go.Proofs.Ytgbfhhmmkhjhhaa.HeapP Go.Proofs.Ytgbfhhmmkhjhhaa.MapAt Go.Proofs.Ytgbfhhmmkhjhhaa.Dij
open Go.Proofs.Ytgbfhhmmkhjhhaa.HeapIR hiding It Pt kIt_K infoZ reps_single
open Go.Proofs.Ytgbfhhmmkhjhhaa.Roads (flat_keep R_ty Flat kRd rd_at NetS outOf isN isN_iff isN_no Hd encH kHd flatHd flatRd keep_row keep_blk set_get infoHdz kRd_K infoRd reps_single)
set_option linter.unusedVariables false
set_option linter.unusedSimpArgs false
/-- the roads into each node, i nodes and k roads of the next one looked at -/
structure RevInv (n : Nat) (out : List (List Rd)) (i k : Nat) (ins : List (List Rd)) : Prop where
  len : ins.length = n
  mem : ∀ (v : Nat) (l : List Rd), ins[v]? = some l → ∀ r, r ∈ l ↔ ∃ (j : Nat) (r0 : Rd), ((j < i ∧ r0 ∈ outOf out j) ∨ (j = i ∧ r0 ∈ (outOf out i).take k)) ∧ r0.2.1 = (v : Int) ∧ r = ((v : Int), (j : Int), r0.2.2)
  asc : ∀ (v : Nat) (l : List Rd), ins[v]? = some l → l.Pairwise (fun x y => x.2.1 < y.2.1)
theorem RevInv.start (n : Nat) (out : List (List Rd)) : RevInv n out 0 0 (List.replicate n []) where
  len := List.length_replicate
  mem v l hl r := by
    have : l = [] := by
      rw [List.getElem?_replicate] at hl
      split at hl
      · cases hl; rfl
      · cases hl
    subst this
    constructor
    · intro h; simp at h
    · rintro ⟨j, r0, (⟨h, _⟩ | ⟨_, h⟩), _⟩
      · omega
      · simp at h
  asc v l hl := by
    have : l = [] := by
      rw [List.getElem?_replicate] at hl
      split at hl
      · cases hl; rfl
      · cases hl
    subst this
    exact List.Pairwise.nil
theorem RevInv.next {n : Nat} {out : List (List Rd)} {i k : Nat} {ins : List (List Rd)} (h : RevInv n out i k ins) (hk : (outOf out i).length ≤ k) : RevInv n out (i + 1) 0 ins where
  len := h.len
  mem v l hl r := by
    rw [h.mem v l hl r]
    constructor
    · rintro ⟨j, r0, (⟨h1, h2⟩ | ⟨h1, h2⟩), q⟩
      · exact ⟨j, r0, Or.inl ⟨by omega, h2⟩, q⟩
      · subst h1
        exact ⟨j, r0, Or.inl ⟨by omega, List.mem_of_mem_take h2⟩, q⟩
    · rintro ⟨j, r0, (⟨h1, h2⟩ | ⟨_, h2⟩), q⟩
      · by_cases e : j = i
        · subst e
          exact ⟨j, r0, Or.inr ⟨rfl, by rw [List.take_of_length_le hk]; exact h2⟩, q⟩
        · exact ⟨j, r0, Or.inl ⟨by omega, h2⟩, q⟩
      · simp at h2
  asc := h.asc
theorem RevInv.step {n : Nat} {out : List (List Rd)} (hg : Roads.Good n out) (hon : out.length = n) {i k : Nat} {ins : List (List Rd)} (h : RevInv n out i k ins) (hi : i < n) {x : Rd} (hx : (outOf out i)[k]? = some x) {t : Nat} (ht : x.2.1 = (t : Int)) {l : List Rd} (hl : ins[t]? = some l) : RevInv n out i (k + 1) (ins.set t (l ++ [((t : Int), (i : Int), x.2.2)])) := by
  have hoi : out[i]? = some (outOf out i) := by
    unfold outOf
    rw [if_pos (isN_iff.2 (by omega)), Int.toNat_natCast, List.getD_eq_getElem?_getD, List.getElem?_eq_getElem (by omega)]
    rfl
  obtain ⟨_, g2⟩ := hg i _ hoi
  have hlt : ∀ r ∈ l, r.2.1 < (i : Int) := by
    intro r hr
    obtain ⟨j, r0, hj, e1, rfl⟩ := (h.mem t l hl r).1 hr
    rcases hj with ⟨h1, _⟩ | ⟨rfl, h2⟩
    · show (j : Int) < i
      omega
    · obtain ⟨q, hq⟩ := List.getElem?_of_mem h2
      rw [List.getElem?_take] at hq
      split at hq
      · rename_i hqk
        have := g2 q k r0 x hqk hq hx
        omega
      · cases hq
  refine ⟨by rw [List.length_set]; exact h.len, fun v l' hl' r => ?_, fun v l' hl' => ?_⟩
  · rw [List.take_add_one, hx]
    rcases set_get hl' with ⟨rfl, rfl⟩ | ⟨hne, q⟩
    · rw [List.mem_append, h.mem v l hl r, List.mem_singleton]
      constructor
      · rintro (⟨j, r0, (⟨h1, h2⟩ | ⟨h1, h2⟩), q⟩ | rfl)
        · exact ⟨j, r0, Or.inl ⟨h1, h2⟩, q⟩
        · exact ⟨j, r0, Or.inr ⟨h1, List.mem_append.2 (Or.inl h2)⟩, q⟩
        · exact ⟨i, x, Or.inr ⟨rfl, by simp⟩, ht, rfl⟩
      · rintro ⟨j, r0, (⟨h1, h2⟩ | ⟨h1, h2⟩), q1, q2⟩
        · exact Or.inl ⟨j, r0, Or.inl ⟨h1, h2⟩, q1, q2⟩
        · rcases List.mem_append.1 h2 with h3 | h3
          · exact Or.inl ⟨j, r0, Or.inr ⟨h1, h3⟩, q1, q2⟩
          · simp at h3
            subst h3
            subst h1
            exact Or.inr q2
    · rw [h.mem v l' q r]
      constructor
      · rintro ⟨j, r0, (⟨h1, h2⟩ | ⟨h1, h2⟩), q⟩
        · exact ⟨j, r0, Or.inl ⟨h1, h2⟩, q⟩
        · exact ⟨j, r0, Or.inr ⟨h1, List.mem_append.2 (Or.inl h2)⟩, q⟩
      · rintro ⟨j, r0, (⟨h1, h2⟩ | ⟨h1, h2⟩), q1, q2⟩
        · exact ⟨j, r0, Or.inl ⟨h1, h2⟩, q1, q2⟩
        · rcases List.mem_append.1 h2 with h3 | h3
          · exact ⟨j, r0, Or.inr ⟨h1, h3⟩, q1, q2⟩
          · simp at h3
            subst h3
            rw [ht] at q1
            exact absurd (by exact_mod_cast q1.symm) hne
  · rcases set_get hl' with ⟨rfl, rfl⟩ | ⟨_, q⟩
    · rw [List.pairwise_append]
      refine ⟨h.asc v l hl, by simp, fun a ha b hb => ?_⟩
      simp at hb
      subst hb
      exact hlt a ha
    · exact h.asc v l' q
theorem RevInv.short {n : Nat} {out : List (List Rd)} {i k : Nat} {ins : List (List Rd)} (h : RevInv n out i k ins) (hi : i ≤ n) (hik : i = n → k = 0) {v : Nat} {l : List Rd} (hl : ins[v]? = some l) : l.length ≤ n := by
  have hn : (l.map (fun x => x.2.1)).Nodup := by
    unfold List.Nodup
    rw [List.pairwise_map]
    exact (h.asc v l hl).imp (fun {a b} q e => by omega)
  have := nodup_le (n := n) hn (by
    intro z hz
    obtain ⟨x, hx, rfl⟩ := List.mem_map.1 hz
    obtain ⟨j, r0, hj, e1, rfl⟩ := (h.mem v l hl x).1 hx
    show 0 ≤ (j : Int) ∧ (j : Int) < n
    rcases hj with ⟨h1, _⟩ | ⟨h1, h2⟩
    · omega
    · rcases Nat.lt_or_ge i n with q | q
      · omega
      · have : k = 0 := hik (by omega)
        subst this
        simp at h2)
  simpa using this
/-- the rows of roads behind cell gi -/
structure InAt (w : World) (base gi go oc n : Nat) (hs : List Hd) (ins : List (List Rd)) : Prop where
  cell : w.heap[gi]? = some (.cells #[.slice (some ⟨go, 0, none⟩) n oc] 69 (0, 0))
  ows : kHd.R 23 w base (fun _ => True) (.slice (some ⟨go, 0, none⟩) n oc) hs
  rows : ∀ (j : Nat) (h : Hd) (l : List Rd), hs[j]? = some h → ins[j]? = some l → h.2.1 = l.length ∧ kRd.R 40 w base (fun _ => True) (encH h) l
  len : hs.length = n ∧ ins.length = n
  apart : ∀ (i j : Nat) (h k : Hd), i ≠ j → hs[i]? = some h → hs[j]? = some k → ∀ x, (encH h).ownBlock = some x → (encH k).ownBlock ≠ some x
theorem InAt.below {w w' : World} {base gi go oc n : Nat} {hs : List Hd} {ins : List (List Rd)} (h : InAt w base gi go oc n hs ins) (hb : Below w.heap.size w w') : InAt w' base gi go oc n hs ins :=
  ⟨(hb.block _ (blk_lt h.cell)).trans h.cell, Kd.R_below h.ows hb, fun j k l h1 h2 => ⟨(h.rows j k l h1 h2).1, Kd.R_below (h.rows j k l h1 h2).2 hb⟩, h.len, h.apart⟩
theorem InAt.at_ {w : World} {base gi go oc n : Nat} {hs : List Hd} {ins : List (List Rd)} (h : InAt w base gi go oc n hs ins) {t : Int} (h0 : 0 ≤ t) (h1 : t < n) : ∃ (hd : Hd) (l : List Rd), hs[t.toNat]? = some hd ∧ ins[t.toNat]? = some l ∧ hd.2.1 = l.length ∧ kRd.R 40 w base (fun _ => True) (encH hd) l ∧ w.cell? ⟨go, t.toNat, none⟩ = some (encH hd) ∧ w.frozen? ⟨go, t.toNat, none⟩ = false := by
  have hh : t.toNat < hs.length := by rw [h.len.1]; omega
  have hi : t.toNat < ins.length := by rw [h.len.2]; omega
  have hc := Kd.R_celln (n := n) (d := ((none, 0, 0) : Hd)) h.ows t h0 h1
  have hrd : rdOf ((none, 0, 0) : Hd) hs t = hs[t.toNat] := by
    unfold rdOf
    rw [List.getD_eq_getElem?_getD, List.getElem?_eq_getElem hh]
    rfl
  rw [hrd] at hc
  obtain ⟨q1, q2⟩ := h.rows t.toNat _ _ (List.getElem?_eq_getElem hh) (List.getElem?_eq_getElem hi)
  exact ⟨_, _, List.getElem?_eq_getElem hh, List.getElem?_eq_getElem hi, q1, q2, hc.1, hc.2⟩
/-- a road more in row t -/
theorem InAt.more {w w7 : World} {base gi go oc n : Nat} {hs : List Hd} {ins : List (List Rd)} (h : InAt w base gi go oc n hs ins) {t : Int} {hd hd' : Hd} {l l' : List Rd} (hh : hs[t.toNat]? = some hd) (hi : ins[t.toNat]? = some l) (hg : w.grownBy w7 (encH hd).ownBlock) (hr : kRd.R 40 w7 base (fun _ => True) (encH hd') l') (hl' : hd'.2.1 = l'.length) (hat : (encH hd').ownBlock = (encH hd).ownBlock ∨ ∃ b, (encH hd').ownBlock = some b ∧ w.heap.size ≤ b) : InAt (w7.setCell ⟨go, t.toNat, none⟩ (encH hd')) base gi go oc n (hs.set t.toNat hd') (ins.set t.toNat l') := by
  have hrow := (h.rows _ _ _ hh hi).2
  have hty : ∀ k, (encH hd).ownBlock = some k → ∃ cs, w.heap[k]? = some (.cells cs 40 (0, 0)) := fun k hk => R_ty hrow k hk
  have hows : kHd.R 23 w7 base (fun _ => True) (.slice (some ⟨go, 0, none⟩) n oc) hs := keep_row flatHd h.ows hg (t := 40) (by decide) hty
  have hcell := keep_blk h.cell hg (t := 40) (by decide) hty
  have hp := Kd.R_putg hows t hd'
  have hgo : ∀ k, some go = some k → ∃ cs, w7.heap[k]? = some (.cells cs 23 (0, 0)) := fun k e => by
    cases e
    exact R_ty hows go (by simp [Value.ownBlock])
  have hlt : ∀ {j : Nat} {k : Hd}, hs[j]? = some k → ∀ x, (encH k).ownBlock = some x → x < w.heap.size := fun {j k} hk x hx => by
    have hj : j < ins.length := by have := (List.getElem?_eq_some_iff.1 hk).1; rw [h.len.2, ← h.len.1]; exact this
    exact Kd.R_lt (h.rows j k _ hk (List.getElem?_eq_getElem hj)).2 x hx
  have hmem : ∀ {k : Nat} {hd1 : Hd}, (hs.set t.toNat hd')[k]? = some hd1 → ∀ x, (encH hd1).ownBlock = some x → (∃ hd0, hs[k]? = some hd0 ∧ (encH hd0).ownBlock = some x) ∨ (k = t.toNat ∧ w.heap.size ≤ x) := by
    intro k hd1 hk x hx
    rcases set_get hk with ⟨rfl, rfl⟩ | ⟨_, q⟩
    · rcases hat with e | ⟨b, e, hle⟩
      · exact Or.inl ⟨hd, hh, by rw [← e]; exact hx⟩
      · rw [e] at hx
        cases hx
        exact Or.inr ⟨rfl, hle⟩
    · exact Or.inl ⟨hd1, q, hx⟩
  refine ⟨keep_blk hcell hp.2 (t := 23) (by decide) hgo, hp.1, fun j k l1 h1 h2 => ?_, ⟨by rw [List.length_set]; exact h.len.1, by rw [List.length_set]; exact h.len.2⟩, ?_⟩
  · rcases set_get h1 with ⟨rfl, rfl⟩ | ⟨hne, q⟩
    · rw [List.getElem?_set, if_pos rfl, if_pos (by rw [h.len.2, ← h.len.1]; exact (List.getElem?_eq_some_iff.1 hh).1)] at h2
      cases h2
      exact ⟨hl', keep_row flatRd hr hp.2 (t := 23) (by decide) hgo⟩
    · rw [List.getElem?_set, if_neg (Ne.symm hne)] at h2
      obtain ⟨p1, p2⟩ := h.rows j k l1 q h2
      exact ⟨p1, keep_row flatRd (flat_keep flatRd p2 (fun x hx => hg.block x (Kd.R_lt p2 x hx) (fun e => h.apart j _ k hd hne q hh x hx e.symm)) (fun _ _ => trivial)) hp.2 (t := 23) (by decide) hgo⟩
  · intro i1 j1 h1 k1 hij e1 e2 x hx hy
    rcases hmem e1 x hx with ⟨d1, p1, p2⟩ | ⟨p1, p2⟩
    · rcases hmem e2 x hy with ⟨d2, q1, q2⟩ | ⟨q1, q2⟩
      · exact h.apart i1 j1 d1 d2 hij p1 q1 x p2 q2
      · have := hlt p1 x p2
        omega
    · rcases hmem e2 x hy with ⟨d2, q1, q2⟩ | ⟨q1, q2⟩
      · have := hlt q1 x q2
        omega
      · exact hij (p1.trans q1.symm)
def inF (go : Nat) (hs : List Hd) (k : Nat) : Prop := k = go ∨ ∃ hd ∈ hs, (encH hd).ownBlock = some k
theorem inF_lt {w : World} {base gi go oc n : Nat} {hs : List Hd} {ins : List (List Rd)} (h : InAt w base gi go oc n hs ins) (k : Nat) (hk : inF go hs k) : base ≤ k ∧ k < w.heap.size := by
  rcases hk with rfl | ⟨hd, hm, hk⟩
  · exact ⟨Kd.R_base h.ows _ (by simp [Value.ownBlock]), Kd.R_lt h.ows _ (by simp [Value.ownBlock])⟩
  · obtain ⟨j, hj⟩ := List.getElem?_of_mem hm
    have hjl : j < ins.length := by have := (List.getElem?_eq_some_iff.1 hj).1; rw [h.len.2, ← h.len.1]; exact this
    have := (h.rows j hd _ hj (List.getElem?_eq_getElem hjl)).2
    exact ⟨Kd.R_base this _ hk, Kd.R_lt this _ hk⟩
theorem InAt.more_chg {w w7 : World} {go : Nat} {hs : List Hd} {t : Int} {hd hd' : Hd} (hh : hs[t.toNat]? = some hd) (hg : w.grownBy w7 (encH hd).ownBlock) (hat : (encH hd').ownBlock = (encH hd).ownBlock ∨ ∃ b, (encH hd').ownBlock = some b ∧ w.heap.size ≤ b) (u : Value) : Chg (inF go hs) w (w7.setCell ⟨go, t.toNat, none⟩ u) ∧ ∀ k, inF go (hs.set t.toNat hd') k → inF go hs k ∨ w.heap.size ≤ k := by
  have h0 : Chg (inF go hs) w w7 := Chg.keep (Chg.of_grown hg) (fun k hk _ => Or.inr ⟨hd, List.mem_of_getElem? hh, hk.symm⟩)
  refine ⟨h0.setCell (p := ⟨go, t.toNat, none⟩) (Or.inl (Or.inl rfl)) u, ?_⟩
  rintro k (rfl | ⟨h1, hm, hk⟩)
  · exact Or.inl (Or.inl rfl)
  · obtain ⟨j, hj⟩ := List.getElem?_of_mem hm
    rcases set_get hj with ⟨_, rfl⟩ | ⟨_, q⟩
    · rcases hat with e | ⟨b, e, hle⟩
      · exact Or.inl (Or.inr ⟨hd, List.mem_of_getElem? hh, by rw [← e]; exact hk⟩)
      · rw [e] at hk
        cases hk
        exact Or.inr hle
    · exact Or.inl (Or.inr ⟨h1, List.mem_of_getElem? q, hk⟩)
def insOf (ins : List (List Rd)) (v : Int) : List Rd := ins.getD v.toNat []
set_option maxHeartbeats 3200000 in
set_option maxRecDepth 100000 in
theorem back1_calls {w : World} {base gi go oc n : Nat} {hs : List Hd} {ins : List (List Rd)} (h : InAt w base gi go oc n hs ins) (v : Int) (h0 : 0 ≤ v) (h1 : v < n) : Calls Try.prog 40 #[.int .i64 v, .pointer (some ⟨gi, 0, none⟩)] w fun e w' => (∃ A c, e = .returned (.slice A (insOf ins v).length c) ∧ hs[v.toNat]? = some (A, (insOf ins v).length, c) ∧ kRd.R 40 w base (fun _ => True) (.slice A (insOf ins v).length c) (insOf ins v)) ∧ w' = w := by
  obtain ⟨⟨sA, sn, sc⟩, l, q1, q2, q3, q4, q5, q6⟩ := h.at_ h0 h1
  have hl : insOf ins v = l := by
    unfold insOf
    rw [List.getD_eq_getElem?_getD, q2]
    rfl
  rw [hl]
  have q3' : sn = l.length := q3
  subst q3'
  have HR : Aside0 (kRd.R 40 w base (fun _ => True) (.slice sA l.length sc) l) := ⟨q4⟩
  have HQ : Aside0 (hs[v.toNat]? = some (sA, l.length, sc)) := ⟨q1⟩
  have hc : w.cell? ⟨go, v.toNat, none⟩ = some (.slice sA l.length sc) := q5
  have hg : w.cell? ⟨gi, 0, none⟩ = some (.slice (some ⟨go, 0, none⟩) n oc) := (blk_cell h.cell 0).trans rfl
  clear h q1 q2 q3 q4 q5 q6 hl
  go_enter Try.func40, Try.ntmps40
  go_wp2
  go_ret
  exact ⟨⟨sA, sc, rfl, HQ.out, HR.out⟩, rfl⟩
def back.T8 : Bool × List (List Nat × List Nat) := (true, [([], []), ([], []), ([1], [1]), ([], []), ([], []), ([4], [4]), ([3, 5], [3, 5]), ([6], [6]), ([], []), ([8], [8]), ([], []), ([], []), ([11], [11]), ([9, 10, 12], [9, 10, 12]), ([13], [13]), ([7, 14], [7, 14]), ([0, 2, 0, 1, 2, 3, 4, 5, 6, 7, 8, 9, 10, 11, 12, 13, 14, 15], [0, 2]), ([16, 15, 15, 0, 1, 2, 3, 4, 5, 6, 7, 8, 9, 10, 11, 12, 13, 14, 15], [15, 16])])
def back.B8 : List Nat := [0, 0, 2, 0, 0, 16, 56, 120, 0, 256, 0, 0, 2048, 7936, 16128, 32760, 65535, 131071]
theorem back.tab8 : rtab .any (opsOf Try.f30 8) = back.T8 := by kernel_rfl
theorem back.bits8 : waitsOk back.T8.2 back.B8 = true := by kernel_rfl
theorem infoRows : (Try.prog.info? 69).map (·.size) = some 1 := by kernel_rfl
set_option maxHeartbeats 6400000 in
set_option maxRecDepth 100000 in
theorem back_calls {w : World} {base g : Nat} {ps : List Roads.Pt} {out : List (List Rd)} {F : Nat → Prop} (h : NetS w base g ps out F) (h0 : 0 < out.length) :
    Calls Try.prog 30 #[.pointer (some ⟨g, 0, none⟩)] w fun e w' => ∃ gi go oc hs ins, e = .returned (.func (.func 40) #[] #[.pointer (some ⟨gi, 0, none⟩)]) ∧ InAt w' w.heap.size gi go oc out.length hs ins ∧ RevInv out.length out out.length 0 ins ∧ Below w.heap.size w w' := by
  have H := Aside0.mk h
  obtain ⟨n, hn⟩ : ∃ n, n = out.length := ⟨_, rfl⟩
  have HN := Aside0.mk hn
  have HL : Aside0 (n ≤ 4096 ∧ 0 < n) := ⟨by have := h.len; omega, by omega⟩
  have HG : Aside0 (Roads.Good n out) := ⟨by rw [hn]; exact h.good⟩
  rw [← hn]
  clear h h0 hn
  go_enter Try.func30, Try.ntmps30
  go_wp2_with fail
  refine H.out.nodes.mono ?_
  rintro e w1 ⟨rfl, hw1⟩
  have hw2 := hw1.symm
  clear hw1
  subst hw2
  rw [← HN.out]
  go_wp2_with (first | ((with_reducible refine gate_dst (N := 9) rfl ?_); refine Kd.R_make kHd (w0 := w) w.heap.size 23 rfl (N := 9) rfl 69 (.tmp 8) (.tmp 8) rfl (n : Int) rfl rfl Try.underlying69 (.slice none 0 0) 24 infoHdz rfl (by decide) (by omega) ((none, 0, 0) : Hd) (ok := fun _ => True) (okp := fun _ => True) rfl (fun _ h => h) trivial (by omega) (by rw [Int.toNat_natCast]; have := HL.out; omega) (Below.refl _ _) (Nat.le_refl _) ?_; intro u9 w9 h9 hb9 hg9 _; rw [Int.toNat_natCast] at h9; obtain ⟨go, oc, hu9, hgo1, hgo2, _⟩ := Kd.R_form h9 (by rw [List.length_replicate]; exact HL.out.2); rw [List.length_replicate] at hu9; subst hu9; have H9 := Aside0.mk h9; have HB9 := Aside0.mk hb9; clear h9 hb9 hg9 hgo1 hgo2) | ((with_reducible refine gate_upon ?_); go_simp))
  have HIA : Aside0 (InAt (w9.alloc (.cells #[.slice (some ⟨go, 0, none⟩) n oc] 69)) w.heap.size w9.heap.size go oc n (List.replicate n (none, 0, 0)) (List.replicate n [])) := ⟨by
    refine ⟨blk_new _ _, Kd.R_alloc H9.out _, ?_, ⟨List.length_replicate, List.length_replicate⟩, ?_⟩
    · intro j h l h1 h2
      rw [List.getElem?_replicate] at h1 h2
      split at h1
      · cases h1
        rename_i hj
        rw [if_pos hj] at h2
        cases h2
        exact ⟨rfl, Kd.R_nil _ _ _ _ _⟩
      · cases h1
    · intro i j h k _ h1 _ x hx
      rw [List.getElem?_replicate] at h1
      split at h1
      · cases h1
        simp [encH, Value.ownBlock] at hx
      · cases h1⟩
  have HBA : Aside0 (Below w.heap.size w (w9.alloc (.cells #[.slice (some ⟨go, 0, none⟩) n oc] 69))) := ⟨below_alloc HB9.out _⟩
  generalize w9.alloc (.cells #[.slice (some ⟨go, 0, none⟩) n oc] 69) = wA at HIA HBA ⊢
  obtain ⟨gi, hgi⟩ : ∃ gi, gi = w9.heap.size := ⟨_, rfl⟩
  rw [← hgi] at HIA
  rw [← hgi]
  clear hgi H9 HB9
  go_loopg [12] n (fun kq v12 w' => ∃ (i : Nat) (hs : List Hd) (ins : List (List Rd)), v12 = .int .i64 i ∧ Aside0 (i + kq = n) ∧ Aside0 (InAt w' w.heap.size gi go oc n hs ins) ∧ Aside0 (RevInv n out i 0 ins) ∧ Aside0 (Below w.heap.size w w'))
  case atStart => exact ⟨0, _, _, rfl, ⟨by omega⟩, HIA, ⟨RevInv.start n out⟩, HBA⟩
  case round =>
   as_aux_lemma =>
    clear HIA HBA
    obtain ⟨i, hs, ins, rfl, HI, HIN, HRV, HBW⟩ := hrel
    cases gk with
    | zero =>
      have hk : n = i := by have := HI.out; omega
      subst hk
      have hgt : decide (n < n) = false := decide_eq_false (by omega)
      go_wp2
      go_ret
      exact ⟨gi, go, oc, hs, ins, rfl, HIN.out, HRV.out, HBW.out⟩
    | succ gk2 =>
      have hlt : decide (i < n) = true := decide_eq_true (by have := HI.out; omega)
      go_wp2_with fail
      refine ((H.out.below HBW.out).out (i : Int)).mono ?_
      rintro e w3 ⟨A3, c3, rfl, hr3, hb3⟩
      obtain ⟨L, hL⟩ : ∃ L, L = (outOf out (i : Int)).length := ⟨_, rfl⟩
      have HLL := Aside0.mk hL
      have HL4 : Aside0 (L ≤ 4096) := ⟨by rw [hL]; exact out_len HG.out (by rw [← HN.out]) HL.out.1 _⟩
      have HSEE : Aside0 (Seen w3 A3 L (outOf out (i : Int)) (inF go hs)) := ⟨⟨by rw [hL]; exact (Kd.R_reads' hr3).2.2, fun a ha => by
        subst ha
        refine ⟨fun q => ?_, Kd.R_lt hr3 _ (by simp [Value.ownBlock])⟩
        have h1 := (inF_lt HIN.out _ q).2
        have h2 := Kd.R_base hr3 a.block (by simp [Value.ownBlock])
        omega⟩⟩
      have HIN3 := Aside0.mk (HIN.out.below hb3)
      have HB3 := Aside0.mk (below_step HBW.out hb3)
      rw [← hL]
      clear hr3 hb3 hL HIN HBW
      go_wp2_with ((with_reducible refine gate_upon ?_); go_simp)
      go_loopg [19] L (fun kq v19 w' => ∃ (k : Nat) (hs : List Hd) (ins : List (List Rd)), v19 = .int .i64 k ∧ Aside0 (k + kq = L) ∧ Aside0 (InAt w' w.heap.size gi go oc n hs ins) ∧ Aside0 (RevInv n out i k ins) ∧ Aside0 (Seen w' A3 L (outOf out (i : Int)) (inF go hs)) ∧ Aside0 (Below w.heap.size w w'))
      case atStart => exact ⟨0, hs, ins, rfl, ⟨by omega⟩, HIN3, HRV, HSEE, HB3⟩
      case round =>
       as_aux_lemma =>
        clear HIN3 HRV HSEE HB3
        obtain ⟨k, hs, ins, rfl, HK, HIN, HRV, HSE, HBW⟩ := hrel
        cases gk with
        | zero =>
          have hk : L = k := by have := HK.out; omega
          subst hk
          have hgt : decide (L < L) = false := decide_eq_false (by omega)
          have hwi : wrap64 ((i : Int) + 1) = (i : Int) + 1 := by unfold wrap64; have := HI.out; have := HL.out; omega
          go_wp2
          go_roundg gk2
          case measure => omega
          case rel => exact ⟨i + 1, hs, ins, by first | rfl | (simp; done) | (rw [hwi]; rfl), ⟨by have := HI.out; omega⟩, HIN, ⟨HRV.out.next (by rw [← HLL.out]; exact Nat.le_refl _)⟩, HBW⟩
        | succ gk3 =>
          have hkl : k < L := by have := HK.out; omega
          have hlt : decide (k < L) = true := decide_eq_true hkl
          have hltI : (k : Int) < L := by omega
          obtain ⟨a, x, ha, hlx, hcx⟩ := rd_at HSE.out.c HLL.out (by rw [← HLL.out]; exact hkl)
          have HLX := Aside0.mk hlx
          have hnet := (net_of HG.out (by rw [← HN.out])).road (i : Int) x (by omega) (by have := HI.out; omega) (List.mem_of_getElem? hlx)
          obtain ⟨q0, q1, q2⟩ := hcx wr (Below.refl _ _)
          obtain ⟨t, ht⟩ : ∃ t, t = x.2.1 := ⟨_, rfl⟩
          obtain ⟨co, hco⟩ : ∃ co, co = x.2.2 := ⟨_, rfl⟩
          have HTX := Aside0.mk (And.intro ht hco)
          rw [← ht] at q1 hnet
          rw [← hco] at q2 hnet
          obtain ⟨ht0, htn, hco1, hco2⟩ := hnet
          have HXA := Aside0.mk (blk_new wr (.cells #[.int .i64 0, .int .i64 0, .int .i64 0] 40))
          have HWK : Aside0 (wrap64 ((k : Int) + 1) = (k : Int) + 1) := ⟨by unfold wrap64; have := HK.out; have := HL4.out; omega⟩
          subst ha
          clear hlx hcx ht hco
          go_upto_region 8 with (first | ((with_reducible refine gate_store (t := 40) (p := 6) (v := .tmp 22) rfl ?_); refine wpList_store_row rfl 40 (.tmp 6) (.tmp 22) rfl wr.heap.size #[.int .i64 x.1, .int .i64 t, .int .i64 co] rfl rfl _ _ HXA.out infoRo rfl (by simp [Value.oneCell']) ?_; have hs := chg_row (cs := #[.int .i64 x.1, .int .i64 t, .int .i64 co]) HXA.out; have HXB := Aside0.mk hs.1; have hbx := (Chg.of_below (F := (fun _ => False)) (below_alloc (Below.refl wr.heap.size wr) (.cells #[.int .i64 0, .int .i64 0, .int .i64 0] 40))).then hs.2 (fun i hi => Or.inr (Nat.le_of_eq (Eq.symm hi))); have HBB : Aside0 (Below wr.heap.size wr ((wr.alloc (.cells #[.int .i64 0, .int .i64 0, .int .i64 0] 40)).setRow wr.heap.size #[.int .i64 x.1, .int .i64 t, .int .i64 co])) := ⟨hbx.below (Nat.le_refl _) (fun _ q => q.elim)⟩; clear hs hbx; generalize (wr.alloc (.cells #[.int .i64 0, .int .i64 0, .int .i64 0] 40)).setRow wr.heap.size #[.int .i64 x.1, .int .i64 t, .int .i64 co] = wB at HXB HBB ⊢) | ((with_reducible refine gate_upon ?_); go_simp))
          clear q0 q1 q2
          have HINB := Aside0.mk (HIN.out.below HBB.out)
          have HSEB := Aside0.mk (HSE.out.step HBB.out)
          have HBWB := Aside0.mk (below_step HBW.out HBB.out)
          obtain ⟨gy, hgy⟩ : ∃ gy, gy = wr.heap.size := ⟨_, rfl⟩
          have HFY : Aside0 (∀ z, inF go hs z → z < gy) := ⟨fun z hz => by rw [hgy]; exact (inF_lt HIN.out z hz).2⟩
          rw [← hgy] at HXB
          rw [← hgy]
          clear hgy HXA HBB HIN HSE HBW
          obtain ⟨⟨sA, sn, sc⟩, l, p1, p2, p3, p4, p5, p6⟩ := HINB.out.at_ ht0 htn
          have p3' : sn = l.length := p3
          subst p3'
          have HP := Aside0.mk (And.intro p1 p2)
          have HROW : Aside0 (kRd.R 40 wB w.heap.size (fun _ => True) (.slice sA l.length sc) l) := ⟨p4⟩
          have HCE : Aside0 (wB.cell? ⟨go, t.toNat, none⟩ = some (.slice sA l.length sc)) := ⟨p5⟩
          have HSH : Aside0 (l.length ≤ n) := ⟨HRV.out.short (by have := HI.out; omega) (fun e => by have := HI.out; omega) p2⟩
          have HTT := Aside0.mk (And.intro ht0 htn)
          clear p1 p2 p3 p4 p5 p6
          refine start_ (n := 18) (S := fun w' => w'.cell? ⟨gi, 0, none⟩ = some (.slice (some ⟨go, 0, none⟩) n oc) ∧ w'.cell? ⟨gy, 1, none⟩ = some (.int .i64 t) ∧ w'.cell? ⟨gy, 2, none⟩ = some (.int .i64 co) ∧ w'.cell? ⟨go, t.toNat, none⟩ = some (.slice sA l.length sc)) (ds := [17]) #[ff,ff,ff,ff,ff,ff,ff,ff,ff,ff,ff,ff,ff,ff,ff,ff,ff,ff] (by kernel_rfl) rfl rfl ⟨(blk_cell HINB.out.cell 0).trans rfl, (blk_cell HXB.out 1).trans rfl, (blk_cell HXB.out 2).trans rfl, HCE.out⟩ (fun hHeld => ?_)
          refine with_tabW back.tab8 back.bits8 (fun HT_ HW_ => ?_)
          have HIN4 := Aside0.mk (HINB.out.below (below_drew1 (Below.refl wB.heap.size wB)))
          have HSE4 := Aside0.mk (HSEB.out.step (below_drew1 (Below.refl wB.heap.size wB)))
          have HBW4 : Aside0 (Below w.heap.size w wB.drew) := ⟨below_drew HBWB.out⟩
          have HX4 : Aside0 (wB.drew.heap[gy]? = _) := ⟨HXB.out⟩
          have HCE4 : Aside0 (wB.drew.cell? ⟨go, t.toNat, none⟩ = _) := ⟨HCE.out⟩
          have HRO4 := Aside0.mk (Kd.R_below HROW.out (below_drew1 (Below.refl wB.heap.size wB)))
          clear HINB HSEB HBWB HXB HCE HROW
          generalize wB.drew = w4 at HIN4 HSE4 HBW4 HX4 HCE4 HRO4 hHeld ⊢
          refine pure_ (i := 1) (N := some 24) (v := ?_) (a' := ?_) #[ff,tt,ff,ff,ff,ff,ff,ff,ff,ff,ff,ff,ff,ff,ff,ff,ff,ff] rfl rfl (any_of HT_.out (by kernel_rfl)) (fun _ _ _ h => h) (Or.inl ⟨by rfl, ?_⟩) ?_ ?_
          rotate_left; exact slv; rotate_left; exact sla
          refine pure_ (i := 4) (N := some 27) (v := ?_) (a' := ?_) #[ff,tt,ff,ff,tt,ff,ff,ff,ff,ff,ff,ff,ff,ff,ff,ff,ff,ff] rfl rfl (any_of HT_.out (by kernel_rfl)) (fun _ _ _ h => h) (Or.inl ⟨by rfl, ?_⟩) ?_ ?_
          rotate_left; exact slv; rotate_left; exact sla
          refine pure_ (i := 8) (N := some 31) (v := ?_) (a' := ?_) #[ff,tt,ff,ff,tt,ff,ff,ff,tt,ff,ff,ff,ff,ff,ff,ff,ff,ff] rfl rfl (any_of HT_.out (by kernel_rfl)) (fun _ _ _ h => h) (Or.inl ⟨by rfl, ?_⟩) ?_ ?_
          rotate_left; exact slv; rotate_left; exact sla
          refine pure_ (i := 10) (N := some 33) (v := ?_) (a' := ?_) #[ff,tt,ff,ff,tt,ff,ff,ff,tt,ff,tt,ff,ff,ff,ff,ff,ff,ff] rfl rfl (any_of HT_.out (by kernel_rfl)) (fun _ _ _ h => h) (Or.inl ⟨by rfl, ?_⟩) ?_ ?_
          rotate_left; exact slv; rotate_left; exact sla
          refine pure_ (i := 11) (N := some 34) (v := ?_) (a' := ?_) #[ff,tt,ff,ff,tt,ff,ff,ff,tt,ff,tt,tt,ff,ff,ff,ff,ff,ff] rfl rfl (any_of HT_.out (by kernel_rfl)) (fun _ _ _ h => h) (Or.inl ⟨by rfl, ?_⟩) ?_ ?_
          rotate_left; exact slv; rotate_left; exact sla
          refine take_ (i := 0) (N := some 23) (v := ?_) (a' := ?_) #[tt,tt,ff,ff,tt,ff,ff,ff,tt,ff,tt,tt,ff,ff,ff,ff,ff,ff] rfl rfl (take_ofW HT_.out HW_.out (by kernel_rfl)) (fun _ _ _ h => h) (Or.inl ⟨by rfl, ?_⟩) hHeld ?_ ?_
          rotate_left; exact slt4; rotate_left; exact sla
          refine take_ (i := 2) (N := some 25) (v := ?_) (a' := ?_) #[tt,tt,tt,ff,tt,ff,ff,ff,tt,ff,tt,tt,ff,ff,ff,ff,ff,ff] rfl rfl (take_ofW HT_.out HW_.out (by kernel_rfl)) (fun _ _ _ h => h) (Or.inl ⟨by rfl, ?_⟩) hHeld ?_ ?_
          rotate_left; exact slt4; rotate_left; exact sla
          refine take_ (i := 3) (N := some 26) (v := ?_) (a' := ?_) #[tt,tt,tt,tt,tt,ff,ff,ff,tt,ff,tt,tt,ff,ff,ff,ff,ff,ff] rfl rfl (take_ofW HT_.out HW_.out (by kernel_rfl)) (fun _ _ _ h => h) (Or.inl ⟨by rfl, ?_⟩) hHeld ?_ ?_
          rotate_left; exact slt4; rotate_left; exact sla
          refine take_ (i := 5) (N := some 28) (v := ?_) (a' := ?_) #[tt,tt,tt,tt,tt,tt,ff,ff,tt,ff,tt,tt,ff,ff,ff,ff,ff,ff] rfl rfl (take_ofW HT_.out HW_.out (by kernel_rfl)) (fun _ _ _ h => h) (Or.inl ⟨by rfl, ?_⟩) hHeld ?_ ?_
          rotate_left; exact slt4; rotate_left; exact sla
          refine pure_ (i := 6) (N := some 29) (v := ?_) (a' := ?_) #[tt,tt,tt,tt,tt,tt,tt,ff,tt,ff,tt,tt,ff,ff,ff,ff,ff,ff] rfl rfl (any_of HT_.out (by kernel_rfl)) (fun _ _ _ h => h) (Or.inl ⟨by rfl, ?_⟩) ?_ ?_
          rotate_left; exact slv; rotate_left; exact sla
          refine take_ (i := 7) (N := some 30) (v := ?_) (a' := ?_) #[tt,tt,tt,tt,tt,tt,tt,tt,tt,ff,tt,tt,ff,ff,ff,ff,ff,ff] rfl rfl (take_ofW HT_.out HW_.out (by kernel_rfl)) (fun _ _ _ h => h) (Or.inl ⟨by rfl, ?_⟩) hHeld ?_ ?_
          rotate_left; exact slt4; rotate_left; exact sla
          refine take_ (i := 9) (N := some 32) (v := ?_) (a' := ?_) #[tt,tt,tt,tt,tt,tt,tt,tt,tt,tt,tt,tt,ff,ff,ff,ff,ff,ff] rfl rfl (take_ofW HT_.out HW_.out (by kernel_rfl)) (fun _ _ _ h => h) (Or.inl ⟨by rfl, ?_⟩) hHeld ?_ ?_
          rotate_left; exact slt4; rotate_left; exact sla
          refine take_ (i := 12) (N := some 35) (v := ?_) (a' := ?_) #[tt,tt,tt,tt,tt,tt,tt,tt,tt,tt,tt,tt,tt,ff,ff,ff,ff,ff] rfl rfl (take_ofW HT_.out HW_.out (by kernel_rfl)) (fun _ _ _ h => h) (Or.inl ⟨by rfl, ?_⟩) hHeld ?_ ?_
          rotate_left; exact slt4; rotate_left; exact sla
          refine pure_ (i := 13) (N := some 36) (v := ?_) (a' := ?_) #[tt,tt,tt,tt,tt,tt,tt,tt,tt,tt,tt,tt,tt,tt,ff,ff,ff,ff] rfl rfl (any_of HT_.out (by kernel_rfl)) (fun _ _ _ h => h) (Or.inl ⟨by rfl, ?_⟩) ?_ ?_
          rotate_left; exact slv; rotate_left; exact sla
          refine one_ (i := 14) (N := some 37) #[tt,tt,tt,tt,tt,tt,tt,tt,tt,tt,tt,tt,tt,tt,tt,ff,ff,ff] rfl rfl (one_of HT_.out (by kernel_rfl)) (by decide) (fun K hK => ?_)
          refine Kd.R_lit_step kRd (w0 := w) w.heap.size 40 ?hw (N := 37) ?hd (xs := [(t, (i : Int), co)]) (inner := [.int .i64 t, .int .i64 (i : Int), .int .i64 co]) (ok := fun _ => True) (okp := fun _ => True) ?hr ?hp (fun _ hk => hk) trivial HBW4.out HBW4.out.size (by simp) ?_
          case hw => rfl
          case hd => rfl
          case hr => first | (go_simp; done) | (go_simp; rfl)
          case hp => exact reps_single ⟨[_], _, rfl, rfl, [_], [_], rfl, rfl, rfl⟩ rfl
          intro v66 w6 ho hb hg_ hnew
          have hbb : Below w4.heap.size w4 w6 := ⟨hg_.os, hg_.tape, hg_.output, hg_.size, fun k hk => hg_.block k hk (by simp)⟩
          have HIN6 := Aside0.mk (HIN4.out.below hbb)
          have HSE6 := Aside0.mk (HSE4.out.step hbb)
          have HX6 := Aside0.mk ((hbb.block _ (blk_lt HX4.out)).trans HX4.out)
          have HCE6 := Aside0.mk (pw_cell_below hbb HCE4.out)
          have HRO6 := Aside0.mk (Kd.R_below HRO4.out hbb)
          have HBW6 := Aside0.mk hb
          obtain ⟨A8, c8, e8, hle8, hC8⟩ := Kd.R_reads ho
          subst e8
          have HC8 := Aside0.mk hC8
          clear ho hb hg_ hnew hbb HIN4 HSE4 HX4 HCE4 HRO4 HBW4 hle8 hC8
          refine hK.out _ _ ⟨(blk_cell HIN6.out.cell 0).trans rfl, (blk_cell HX6.out 1).trans rfl, (blk_cell HX6.out 2).trans rfl, HCE6.out⟩ (fun hHeld => ?_)
          clear hK K
          refine norm_ (a' := ?_) ?_ ?_
          rotate_left
          · show Act.put _ (some 37) _ = _
            simp only [Act.put, List.setIfInBounds_toArray, List.set_cons_zero, List.set_cons_succ, i64_w, i32_w]
            rfl
          refine one_ (i := 15) (N := some 38) #[tt,tt,tt,tt,tt,tt,tt,tt,tt,tt,tt,tt,tt,tt,tt,tt,ff,ff] rfl rfl (one_of HT_.out (by kernel_rfl)) (by decide) (fun K hK => ?_)
          refine Kd.R_append_rows_step kRd (w0 := w) w.heap.size ?hw (.tmp 30) (.tmp 37) 23 40 (.agg #[.int .i64 0, .int .i64 0, .int .i64 0]) 24 rfl Try.underlying23 infoRd rfl (by decide) (by omega) (.slice sA l.length sc) l [(t, (i : Int), co)] A8 1 c8 (fun _ => True) (fun _ => False) rfl rfl HRO6.out HC8.out (fun _ _ h => kRd_K h) (fun _ h => h.elim) (fun _ _ => trivial) HBW6.out HBW6.out.size (by have := HSH.out; have := HL.out; omega) ?_
          case hw => rfl
          intro v67 w7 ho hb hg_ hat
          obtain ⟨A9, c9, e9⟩ := Kd.R_slice ho
          obtain ⟨l9, hl9⟩ : ∃ l9, l9 = (l ++ [(t, (i : Int), co)]).length := ⟨_, rfl⟩
          rw [← hl9] at e9
          subst e9
          have hty : ∀ k, (encH (sA, l.length, sc)).ownBlock = some k → ∃ cs, w6.heap[k]? = some (.cells cs 40 (0, 0)) := fun k hk => R_ty HRO6.out k hk
          have HCE7 : Aside0 (w7.cell? ⟨go, t.toNat, none⟩ = some (.slice sA l.length sc)) := ⟨hg_.cell HCE6.out (fun e => by
            obtain ⟨cs, hcs⟩ := hty go e.symm
            obtain ⟨cs2, hcs2⟩ := R_ty HIN6.out.ows go (by simp [Value.ownBlock])
            rw [hcs2] at hcs
            cases hcs)⟩
          have HC7 := Aside0.mk (keep_blk HIN6.out.cell hg_ (t := 40) (by decide) hty)
          have HX7 := Aside0.mk ((hg_.block gy (blk_lt HX6.out) (fun e => by
            have := HFY.out gy (Or.inr ⟨_, List.mem_of_getElem? HP.out.1, e.symm⟩)
            omega)).trans HX6.out)
          have HMO := Aside0.mk (HIN6.out.more HP.out.1 HP.out.2 hg_ (hd' := (A9, l9, c9)) ho hl9 hat)
          have hmc := InAt.more_chg (go := go) (hd' := (A9, l9, c9)) HP.out.1 hg_ hat (.slice A9 l9 c9)
          have HMC := Aside0.mk (And.intro hmc.1 (HSE6.out.chg hmc.1 hmc.2))
          have HFR : Aside0 (w7.frozen? ⟨go, t.toNat, none⟩ = false) := ⟨by
            have := keep_row flatHd HIN6.out.ows hg_ (t := 40) (by decide) hty
            exact (Kd.R_celln (n := n) (d := ((none, 0, 0) : Hd)) this t HTT.out.1 HTT.out.2).2⟩
          have HB7 := Aside0.mk hb
          have HGO : Aside0 (w.heap.size ≤ go) := ⟨(inF_lt HIN6.out go (Or.inl rfl)).1⟩
          clear ho hb hg_ hat hty hmc HIN6 HSE6 HX6 HCE6 HRO6 HC8
          refine hK.out _ _ ⟨(blk_cell HC7.out 0).trans rfl, (blk_cell HX7.out 1).trans rfl, (blk_cell HX7.out 2).trans rfl, HCE7.out⟩ (fun hHeld => ?_)
          clear hK K
          refine norm_ (a' := ?_) ?_ ?_
          rotate_left
          · show Act.put _ (some 38) _ = _
            simp only [Act.put, List.setIfInBounds_toArray, List.set_cons_zero, List.set_cons_succ, i64_w, i32_w]
            rfl
          refine pure_ (i := 16) (N := some 39) (v := ?_) (a' := ?_) #[tt,tt,tt,tt,tt,tt,tt,tt,tt,tt,tt,tt,tt,tt,tt,tt,tt,ff] rfl rfl (any_of HT_.out (by kernel_rfl)) (fun _ _ _ h => h) (Or.inl ⟨by rfl, ?_⟩) ?_ ?_
          rotate_left; exact slv; rotate_left; exact sla
          refine last_ (i := 17) (N := none) #[tt,tt,tt,tt,tt,tt,tt,tt,tt,tt,tt,tt,tt,tt,tt,tt,tt,tt] rfl rfl (one_of HT_.out (by kernel_rfl)) (by decide) (fun K hK => ?_)
          have hc1 : w7.cell? ⟨go, t.toNat, none⟩ = some (.slice sA l.length sc) := HCE7.out
          have hf1 : w7.frozen? ⟨go, t.toNat, none⟩ = false := HFR.out
          have ht0' : 0 ≤ t := HTT.out.1
          have htn' : t < n := HTT.out.2
          refine skip_ (w1 := (w7.setCell ⟨go, t.toNat, none⟩ (.slice A9 l9 c9))) (by rfl) rfl ?_ ?_
          · first | (go_simp; done) | (go_simp; rfl)
          clear hc1 hf1 ht0' htn'
          have HIN8 : Aside0 (InAt (w7.setCell ⟨go, t.toNat, none⟩ (.slice A9 l9 c9)) w.heap.size gi go oc n _ _) := HMO
          have HSE8 := Aside0.mk HMC.out.2
          have HBW8 : Aside0 (Below w.heap.size w (w7.setCell ⟨go, t.toNat, none⟩ (.slice A9 l9 c9))) := ⟨HB7.out.setCell HGO.out _⟩
          clear HMO HMC HB7 HCE7 HC7 HX7 HFR
          generalize (w7.setCell ⟨go, t.toNat, none⟩ (.slice A9 l9 c9)) = w8 at HIN8 HSE8 HBW8 ⊢
          refine hK.out _ _ ?_
          clear hK K
          refine done_ (done_of HT_.out (by kernel_rfl)) ?_
          try clear hHeld
          have hwk := HWK.out
          go_wp2
          go_roundg gk3
          case measure => omega
          case rel => exact ⟨k + 1, _, _, by first | rfl | (simp; done) | (rw [hwk]; rfl), ⟨by have := HK.out; omega⟩, HIN8, ⟨by
            have := HRV.out.step HG.out (by rw [← HN.out]) (by have := HI.out; omega) HLX.out (t := t.toNat) (by rw [← HTX.out.1]; omega) HP.out.2
            rw [← HTX.out.2] at this
            rw [show ((t.toNat : Nat) : Int) = t by have := HTT.out; omega] at this
            exact this⟩, HSE8, HBW8⟩
end Go.Proofs.Ytgbfhhmmkhjhhaa.Paths
