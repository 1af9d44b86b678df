/- Roads: Node of a point that is there, of a point more. Conditions: those that stand in each theorem. Written by wip/gen/netnode.py. -/
import Derived.Test.YtgbfhhmmkhjhhaaCRoadsA
import Derived.Test.YtgbfhhmmkhjhhaaWTab
import Derived.Test.YtgbfhhmmkhjhhaaWInvWords
import Derived.Test.YtgbfhhmmkhjhhaaCSl
namespace Go.Proofs.Ytgbfhhmmkhjhhaa.Roads
open Go.RowKit Go.Proofs.YtgbfhhmmkhjhhaaW.PrintWords Go.Proofs.YtgbfhhmmkhjhhaaW.PrintLast Go.Proofs.YtgbfhhmmkhjhhaaW.PrintMore Go.Proofs.Ytgbfhhmmkhjhhaa.HeapW Go.Proofs.Ytgbfhhmmkhjhhaa.MapAt Go.Proofs.Ytgbfhhmmkhjhhaa.Copy
set_option linter.unusedVariables false
set_option linter.unusedSimpArgs false
theorem zero_int (W : World) : (zeroValue 3).run Try.prog W = .ok (.int .i64 0) W := by
  kernel_rfl
theorem infoPtz : (Try.prog.info? 59).map (fun i => (i.zero, i.size, i.bytes)) = some (some (.agg #[.int .i16 0, .int .i16 0]), 2, 4) := by kernel_rfl
theorem infoHdz : (Try.prog.info? 23).map (fun i => (i.zero, i.size, i.bytes)) = some (some (.slice none 0 0), 1, 24) := by kernel_rfl
theorem kPt_mk (w : World) (base : Nat) (ok : Nat → Prop) (p : Pt) : kPt.M w base ok p [.int .i16 p.1, .int .i16 p.2] := ⟨[_], [_], rfl, rfl, rfl⟩
theorem reps_single {α : Type} {R : α → List Value → Prop} {size : Nat} {x : α} {cs : List Value} (h : R x cs) (hl : cs.length = size) : Reps R size [x] cs := by
  have := (Reps.none R size).snoc h hl
  simpa using this
theorem kPt_K {w w' : World} {base : Nat} {x : Pt} {c : List Value} (h : kPt.K w x c) : kPt.M w' base (fun _ => False) x c := by
  obtain ⟨_, _, rfl, h0, h1⟩ := h
  cases h0; cases h1
  exact ⟨[_], [_], rfl, rfl, rfl⟩
theorem own_nfp {g b n oc : Nat} {PA OA : Option Addr} {hs : List Hd} {k : Nat} (hk : some k = (Value.slice OA n oc).ownBlock) : nfp g b PA OA hs k := by
  cases OA with
  | none => simp [Value.ownBlock] at hk
  | some a =>
    have e : k = a.block := by simpa [Value.ownBlock] using hk
    exact Or.inr (Or.inr (Or.inr (Or.inl ⟨a, rfl, e⟩)))
theorem own_at {A A0 : Option Addr} {n n0 c c0 z z0 : Nat} (h : (Value.slice A n c).ownBlock = (Value.slice A0 n0 c0).ownBlock ∨ ∃ b, (Value.slice A n c).ownBlock = some b ∧ z ≤ b) (hz : z0 ≤ z) (a : Addr) (ha : A = some a) : (∃ a0 : Addr, A0 = some a0 ∧ a.block = a0.block) ∨ z0 ≤ a.block := by
  subst ha
  rcases h with h1 | ⟨b1, h1, h2⟩
  · cases A0 with
    | none => simp [Value.ownBlock] at h1
    | some a0 =>
      left
      refine ⟨a0, rfl, ?_⟩
      simpa [Value.ownBlock] using h1
  · right
    have e : a.block = b1 := by simpa [Value.ownBlock] using h1
    omega
theorem kHd_mk (w : World) (base : Nat) (ok : Nat → Prop) (h : Hd) : kHd.M w base ok h [encH h] := rfl
def node.T5 : Bool × List (List Nat × List Nat) := (true, [([], []), ([0], [0]), ([1], [1]), ([2], [2]), ([], []), ([3, 4], [3, 4]), ([5], [5]), ([6], [6]), ([6], [6]), ([7, 0, 1, 2, 3, 4, 5, 6, 7], [7]), ([8, 9, 0, 1, 2, 3, 4, 5, 6, 7, 8, 9], [8])])
def node.B5 : List Nat := [0, 1, 3, 7, 0, 31, 63, 127, 127, 255, 1023]
theorem node.tab5 : rtab .any (opsOf Try.f25 5) = node.T5 := by kernel_rfl
theorem node.bits5 : waitsOk node.T5.2 node.B5 = true := by kernel_rfl
def node.T9 : Bool × List (List Nat × List Nat) := (true, [([], []), ([0], [0]), ([1], [1]), ([2], [2]), ([], []), ([], []), ([3, 4, 5, 0, 1, 2, 3, 4, 5], [3, 4, 5])])
def node.B9 : List Nat := [0, 1, 3, 7, 0, 0, 63]
theorem node.tab9 : rtab .any (opsOf Try.f25 9) = node.T9 := by kernel_rfl
theorem node.bits9 : waitsOk node.T9.2 node.B9 = true := by kernel_rfl
def node.T10 : Bool × List (List Nat × List Nat) := (true, [([], []), ([], []), ([1], [1]), ([2], [2]), ([3], [3]), ([], []), ([5], [5]), ([4, 6], [4, 6]), ([0, 0, 1, 2, 3, 4, 5, 6, 7], [0]), ([8, 0, 1, 2, 3, 4, 5, 6, 7], [8]), ([9, 7, 7, 0, 1, 2, 3, 4, 5, 6, 7], [7, 9])])
def node.B10 : List Nat := [0, 0, 2, 6, 14, 0, 32, 126, 255, 511, 1023]
theorem node.tab10 : rtab .any (opsOf Try.f25 10) = node.T10 := by kernel_rfl
theorem node.bits10 : waitsOk node.T10.2 node.B10 = true := by kernel_rfl
set_option maxHeartbeats 3200000 in
set_option maxRecDepth 100000 in
theorem NetAt.node_twice {w : World} {base g : Nat} {PA : Option Addr} {pc : Nat} {OA : Option Addr} {oc b : Nat} {ps : List Pt} {hs : List Hd} {out : List (List Rd)} (h : NetAt w base g PA pc OA oc b ps hs out) (p : Pt) (hp : okP p) (hf : ps.length < 4096) (hin : p ∈ ps) : Calls Try.prog 25 #[.pointer (some ⟨g, 0, none⟩), .agg #[.int .i16 p.1, .int .i16 p.2]] w fun e w' => e = .returned (.tuple #[.int .i64 0, .int .i64 130]) ∧ Below w.heap.size w w' := by
  have H := Aside0.mk h
  have HF : Aside0 (ps.length < 4096) := ⟨hf⟩
  have HP := Aside0.mk hp
  have hf1 : ¬ ((4096 : Int) ≤ ps.length) := by omega
  have hf2 : decide ((4096 : Int) ≤ ps.length) = false := decide_eq_false hf1
  obtain ⟨ix, hix⟩ : ∃ ix, idxP ps p = some ix := by
    cases hc : idxP ps p with
    | some i => exact ⟨i, rfl⟩
    | none => exact absurd hin (idxP_none.1 hc)
  have HIX := Aside0.mk hix
  clear hix hin
  clear h hf hp
  go_enter Try.func25, Try.ntmps25
  go_wp2_with fail
  have HB : Aside0 (Below w.heap.size w (w.alloc (.cells #[.int .i16 p.1, .int .i16 p.2] 59))) := ⟨below_alloc (Below.refl _ _) _⟩
  have HQ := Aside0.mk (H.out.below HB.out)
  have HX := Aside0.mk (blk_new w (.cells #[.int .i16 p.1, .int .i16 p.2] 59))
  obtain ⟨gx, hgx⟩ : ∃ gx, gx = w.heap.size := ⟨_, rfl⟩
  have HGX := Aside0.mk hgx
  rw [← hgx] at HX
  generalize w.alloc (.cells #[.int .i16 p.1, .int .i16 p.2] 59) = wB at HB HQ HX ⊢
  rw [← hgx]
  clear hgx
  refine HQ.out.there.mono ?_
  rintro e w1 ⟨rfl, rfl⟩
  have hc0 : w1.cell? ⟨g, 0, none⟩ = some (.slice PA ps.length pc) := (blk_cell HQ.out.blk 0).trans rfl
  go_wp2_with fail
  clear hc0
  refine start_ (n := 11) (S := fun w' => w'.cell? ⟨g, 2, none⟩ = some (.map (some b)) ∧ w'.cell? ⟨gx, 0, none⟩ = some (.int .i16 p.1) ∧ w'.cell? ⟨gx, 1, none⟩ = some (.int .i16 p.2)) (ds := []) #[ff,ff,ff,ff,ff,ff,ff,ff,ff,ff,ff] (by kernel_rfl) rfl rfl ⟨(blk_cell HQ.out.blk 2).trans rfl, (blk_cell HX.out 0).trans rfl, (blk_cell HX.out 1).trans rfl⟩ (fun hHeld => ?_)
  refine with_tabW node.tab5 node.bits5 (fun HT_ HW_ => ?_)
  have HQ2 : Aside0 (NetAt w1.drew base g PA pc OA oc b ps hs out) := ⟨HQ.out.below (below_drew1 (Below.refl _ _))⟩
  have HB2 : Aside0 (Below w.heap.size w w1.drew) := ⟨below_drew HB.out⟩
  have HX2 : Aside0 (w1.drew.heap[gx]? = _) := ⟨HX.out⟩
  generalize w1.drew = w2 at HQ2 HB2 HX2 hHeld ⊢
  refine pure_ (i := 0) (N := some 19) (v := ?_) (a' := ?_) #[tt,ff,ff,ff,ff,ff,ff,ff,ff,ff,ff] rfl rfl (any_of HT_.out (by kernel_rfl)) (fun _ _ _ h => h) (Or.inl ⟨by rfl, ?_⟩) ?_ ?_
  rotate_left; exact slv; rotate_left; exact sla
  refine pure_ (i := 1) (N := some 20) (v := ?_) (a' := ?_) #[tt,tt,ff,ff,ff,ff,ff,ff,ff,ff,ff] rfl rfl (any_of HT_.out (by kernel_rfl)) (fun _ _ _ h => h) (Or.inl ⟨by rfl, ?_⟩) ?_ ?_
  rotate_left; exact slv; rotate_left; exact sla
  refine pure_ (i := 2) (N := some 21) (v := ?_) (a' := ?_) #[tt,tt,tt,ff,ff,ff,ff,ff,ff,ff,ff] rfl rfl (any_of HT_.out (by kernel_rfl)) (fun _ _ _ h => h) (Or.inl ⟨by rfl, ?_⟩) ?_ ?_
  rotate_left; exact slv; rotate_left; exact sla
  refine take_ (i := 3) (N := some 22) (v := ?_) (a' := ?_) #[tt,tt,tt,tt,ff,ff,ff,ff,ff,ff,ff] rfl rfl (take_ofW HT_.out HW_.out (by kernel_rfl)) (fun _ _ _ h => h) (Or.inl ⟨by rfl, ?_⟩) hHeld ?_ ?_
  rotate_left; exact slt3; rotate_left; exact sla
  refine take_ (i := 4) (N := some 23) (v := ?_) (a' := ?_) #[tt,tt,tt,tt,tt,ff,ff,ff,ff,ff,ff] rfl rfl (take_ofW HT_.out HW_.out (by kernel_rfl)) (fun _ _ _ h => h) (Or.inl ⟨by rfl, ?_⟩) hHeld ?_ ?_
  rotate_left; exact slt3; rotate_left; exact sla
  refine one_ (i := 5) (N := some 24) #[tt,tt,tt,tt,tt,tt,ff,ff,ff,ff,ff] rfl rfl (one_of HT_.out (by kernel_rfl)) (by decide) (fun K hK => ?_)
  have hm := HQ2.out.map.look keyLaw Try.underlying70 (zero_int w2) HP.out
  unfold encP at hm
  rw [HIX.out] at hm
  simp only [Option.getD_some, Option.isSome_some] at hm
  refine value_ (w1 := ?_) (v := ?_) (by rfl) rfl ?_ ?_
  rotate_left 2
  · go_simp
    constructor
    · rfl
    · rfl
  clear hm
  refine hK.out _ _ ⟨(blk_cell HQ2.out.blk 2).trans rfl, (blk_cell HX2.out 0).trans rfl, (blk_cell HX2.out 1).trans rfl⟩ (fun hHeld => ?_)
  clear hK K
  refine norm_ (a' := ?_) ?_ ?_
  rotate_left
  · show Act.put _ (some 24) _ = _
    simp only [Act.put, List.setIfInBounds_toArray, List.set_cons_zero, List.set_cons_succ, i64_w, i32_w]
    rfl
  refine pure_ (i := 6) (N := some 18) (v := ?_) (a' := ?_) #[tt,tt,tt,tt,tt,tt,tt,ff,ff,ff,ff] rfl rfl (any_of HT_.out (by kernel_rfl)) (fun _ _ _ h => h) (Or.inl ⟨by rfl, ?_⟩) ?_ ?_
  rotate_left; exact slv; rotate_left; exact sla
  refine pure_ (i := 7) (N := some 25) (v := ?_) (a' := ?_) #[tt,tt,tt,tt,tt,tt,tt,tt,ff,ff,ff] rfl rfl (any_of HT_.out (by kernel_rfl)) (fun _ _ _ h => h) (Or.inl ⟨by rfl, ?_⟩) ?_ ?_
  rotate_left; exact slv; rotate_left; exact sla
  refine pure_ (i := 8) (N := some 26) (v := ?_) (a' := ?_) #[tt,tt,tt,tt,tt,tt,tt,tt,tt,ff,ff] rfl rfl (any_of HT_.out (by kernel_rfl)) (fun _ _ _ h => h) (Or.inl ⟨by rfl, ?_⟩) ?_ ?_
  rotate_left; exact slv; rotate_left; exact sla
  refine pure_ (i := 9) (N := some 6) (v := ?_) (a' := ?_) #[tt,tt,tt,tt,tt,tt,tt,tt,tt,tt,ff] rfl rfl (any_of HT_.out (by kernel_rfl)) (fun _ _ _ h => h) (Or.inl ⟨by rfl, ?_⟩) ?_ ?_
  rotate_left; exact slv; rotate_left; exact sla
  refine pure_ (i := 10) (N := some 7) (v := ?_) (a' := ?_) #[tt,tt,tt,tt,tt,tt,tt,tt,tt,tt,tt] rfl rfl (any_of HT_.out (by kernel_rfl)) (fun _ _ _ h => h) (Or.inl ⟨by rfl, ?_⟩) ?_ ?_
  rotate_left; exact slv; rotate_left; exact sla
  refine done_ (done_of HT_.out (by kernel_rfl)) ?_
  try clear hHeld
  go_wp2
  refine bodyPost_ret (results_list (rs := [.tmp 4, .tmp 5]) rfl (by simp) (.tmp (.tmp .nil))) rfl ?_
  exact ⟨rfl, HB2.out⟩
set_option maxHeartbeats 3200000 in
set_option maxRecDepth 100000 in
theorem NetAt.node_new {w : World} {base g : Nat} {PA : Option Addr} {pc : Nat} {OA : Option Addr} {oc b : Nat} {ps : List Pt} {hs : List Hd} {out : List (List Rd)} (h : NetAt w base g PA pc OA oc b ps hs out) (p : Pt) (hp : okP p) (hf : ps.length < 4096) (hin : p ∉ ps) (hbs : base ≤ w.heap.size) : Calls Try.prog 25 #[.pointer (some ⟨g, 0, none⟩), .agg #[.int .i16 p.1, .int .i16 p.2]] w fun e w' => e = .returned (.tuple #[.int .i64 ps.length, .int .i64 0]) ∧ ∃ PA' pc' OA' oc', NetAt w' base g PA' pc' OA' oc' b (ps ++ [p]) (hs ++ [(none, 0, 0)]) (out ++ [[]]) ∧ Chg (nfp g b PA OA hs) w w' ∧ ∀ k, nfp g b PA' OA' (hs ++ [(none, 0, 0)]) k → nfp g b PA OA hs k ∨ w.heap.size ≤ k := by
  have H := Aside0.mk h
  have HF : Aside0 (ps.length < 4096) := ⟨hf⟩
  have HP := Aside0.mk hp
  have hf1 : ¬ ((4096 : Int) ≤ ps.length) := by omega
  have hf2 : decide ((4096 : Int) ≤ ps.length) = false := decide_eq_false hf1
  have HIN := Aside0.mk hin
  have HIX : Aside0 (idxP ps p = none) := ⟨idxP_none.2 hin⟩
  have HBS := Aside0.mk hbs
  clear hin hbs
  clear h hf hp
  go_enter Try.func25, Try.ntmps25
  go_wp2_with fail
  have HB : Aside0 (Below w.heap.size w (w.alloc (.cells #[.int .i16 p.1, .int .i16 p.2] 59))) := ⟨below_alloc (Below.refl _ _) _⟩
  have HQ := Aside0.mk (H.out.below HB.out)
  have HX := Aside0.mk (blk_new w (.cells #[.int .i16 p.1, .int .i16 p.2] 59))
  obtain ⟨gx, hgx⟩ : ∃ gx, gx = w.heap.size := ⟨_, rfl⟩
  have HGX := Aside0.mk hgx
  rw [← hgx] at HX
  generalize w.alloc (.cells #[.int .i16 p.1, .int .i16 p.2] 59) = wB at HB HQ HX ⊢
  rw [← hgx]
  clear hgx
  refine HQ.out.there.mono ?_
  rintro e w1 ⟨rfl, rfl⟩
  have hc0 : w1.cell? ⟨g, 0, none⟩ = some (.slice PA ps.length pc) := (blk_cell HQ.out.blk 0).trans rfl
  go_wp2_with fail
  clear hc0
  refine start_ (n := 11) (S := fun w' => w'.cell? ⟨g, 2, none⟩ = some (.map (some b)) ∧ w'.cell? ⟨gx, 0, none⟩ = some (.int .i16 p.1) ∧ w'.cell? ⟨gx, 1, none⟩ = some (.int .i16 p.2)) (ds := []) #[ff,ff,ff,ff,ff,ff,ff,ff,ff,ff,ff] (by kernel_rfl) rfl rfl ⟨(blk_cell HQ.out.blk 2).trans rfl, (blk_cell HX.out 0).trans rfl, (blk_cell HX.out 1).trans rfl⟩ (fun hHeld => ?_)
  refine with_tabW node.tab5 node.bits5 (fun HT_ HW_ => ?_)
  have HQ2 : Aside0 (NetAt w1.drew base g PA pc OA oc b ps hs out) := ⟨HQ.out.below (below_drew1 (Below.refl _ _))⟩
  have HB2 : Aside0 (Below w.heap.size w w1.drew) := ⟨below_drew HB.out⟩
  have HX2 : Aside0 (w1.drew.heap[gx]? = _) := ⟨HX.out⟩
  generalize w1.drew = w2 at HQ2 HB2 HX2 hHeld ⊢
  refine pure_ (i := 0) (N := some 19) (v := ?_) (a' := ?_) #[tt,ff,ff,ff,ff,ff,ff,ff,ff,ff,ff] rfl rfl (any_of HT_.out (by kernel_rfl)) (fun _ _ _ h => h) (Or.inl ⟨by rfl, ?_⟩) ?_ ?_
  rotate_left; exact slv; rotate_left; exact sla
  refine pure_ (i := 1) (N := some 20) (v := ?_) (a' := ?_) #[tt,tt,ff,ff,ff,ff,ff,ff,ff,ff,ff] rfl rfl (any_of HT_.out (by kernel_rfl)) (fun _ _ _ h => h) (Or.inl ⟨by rfl, ?_⟩) ?_ ?_
  rotate_left; exact slv; rotate_left; exact sla
  refine pure_ (i := 2) (N := some 21) (v := ?_) (a' := ?_) #[tt,tt,tt,ff,ff,ff,ff,ff,ff,ff,ff] rfl rfl (any_of HT_.out (by kernel_rfl)) (fun _ _ _ h => h) (Or.inl ⟨by rfl, ?_⟩) ?_ ?_
  rotate_left; exact slv; rotate_left; exact sla
  refine take_ (i := 3) (N := some 22) (v := ?_) (a' := ?_) #[tt,tt,tt,tt,ff,ff,ff,ff,ff,ff,ff] rfl rfl (take_ofW HT_.out HW_.out (by kernel_rfl)) (fun _ _ _ h => h) (Or.inl ⟨by rfl, ?_⟩) hHeld ?_ ?_
  rotate_left; exact slt3; rotate_left; exact sla
  refine take_ (i := 4) (N := some 23) (v := ?_) (a' := ?_) #[tt,tt,tt,tt,tt,ff,ff,ff,ff,ff,ff] rfl rfl (take_ofW HT_.out HW_.out (by kernel_rfl)) (fun _ _ _ h => h) (Or.inl ⟨by rfl, ?_⟩) hHeld ?_ ?_
  rotate_left; exact slt3; rotate_left; exact sla
  refine one_ (i := 5) (N := some 24) #[tt,tt,tt,tt,tt,tt,ff,ff,ff,ff,ff] rfl rfl (one_of HT_.out (by kernel_rfl)) (by decide) (fun K hK => ?_)
  have hm := HQ2.out.map.look keyLaw Try.underlying70 (zero_int w2) HP.out
  unfold encP at hm
  rw [HIX.out] at hm
  simp only [Option.getD_none, Option.isSome_none] at hm
  refine value_ (w1 := ?_) (v := ?_) (by rfl) rfl ?_ ?_
  rotate_left 2
  · go_simp
    constructor
    · rfl
    · rfl
  clear hm
  refine hK.out _ _ ⟨(blk_cell HQ2.out.blk 2).trans rfl, (blk_cell HX2.out 0).trans rfl, (blk_cell HX2.out 1).trans rfl⟩ (fun hHeld => ?_)
  clear hK K
  refine norm_ (a' := ?_) ?_ ?_
  rotate_left
  · show Act.put _ (some 24) _ = _
    simp only [Act.put, List.setIfInBounds_toArray, List.set_cons_zero, List.set_cons_succ, i64_w, i32_w]
    rfl
  refine pure_ (i := 6) (N := some 18) (v := ?_) (a' := ?_) #[tt,tt,tt,tt,tt,tt,tt,ff,ff,ff,ff] rfl rfl (any_of HT_.out (by kernel_rfl)) (fun _ _ _ h => h) (Or.inl ⟨by rfl, ?_⟩) ?_ ?_
  rotate_left; exact slv; rotate_left; exact sla
  refine pure_ (i := 7) (N := some 25) (v := ?_) (a' := ?_) #[tt,tt,tt,tt,tt,tt,tt,tt,ff,ff,ff] rfl rfl (any_of HT_.out (by kernel_rfl)) (fun _ _ _ h => h) (Or.inl ⟨by rfl, ?_⟩) ?_ ?_
  rotate_left; exact slv; rotate_left; exact sla
  refine pure_ (i := 8) (N := some 26) (v := ?_) (a' := ?_) #[tt,tt,tt,tt,tt,tt,tt,tt,tt,ff,ff] rfl rfl (any_of HT_.out (by kernel_rfl)) (fun _ _ _ h => h) (Or.inl ⟨by rfl, ?_⟩) ?_ ?_
  rotate_left; exact slv; rotate_left; exact sla
  refine pure_ (i := 9) (N := some 6) (v := ?_) (a' := ?_) #[tt,tt,tt,tt,tt,tt,tt,tt,tt,tt,ff] rfl rfl (any_of HT_.out (by kernel_rfl)) (fun _ _ _ h => h) (Or.inl ⟨by rfl, ?_⟩) ?_ ?_
  rotate_left; exact slv; rotate_left; exact sla
  refine pure_ (i := 10) (N := some 7) (v := ?_) (a' := ?_) #[tt,tt,tt,tt,tt,tt,tt,tt,tt,tt,tt] rfl rfl (any_of HT_.out (by kernel_rfl)) (fun _ _ _ h => h) (Or.inl ⟨by rfl, ?_⟩) ?_ ?_
  rotate_left; exact slv; rotate_left; exact sla
  refine done_ (done_of HT_.out (by kernel_rfl)) ?_
  try clear hHeld
  have hc0 : w2.cell? ⟨g, 0, none⟩ = some (.slice PA ps.length pc) := (blk_cell HQ2.out.blk 0).trans rfl
  go_wp2_with fail
  clear hc0
  have HR2 := Aside0.mk HQ2.out.raw
  have HC2 : Aside0 (Chg (nfp g b PA OA hs) w w2) := ⟨Chg.of_below HB2.out⟩
  obtain ⟨n, hn⟩ : ∃ n, n = ps.length := ⟨_, rfl⟩
  have HN := Aside0.mk hn
  refine start_ (n := 7) (S := fun w' => w'.cell? ⟨g, 2, none⟩ = some (.map (some b)) ∧ w'.cell? ⟨gx, 0, none⟩ = some (.int .i16 p.1) ∧ w'.cell? ⟨gx, 1, none⟩ = some (.int .i16 p.2)) (ds := [6]) #[false, false, false, false, false, false, false] (by kernel_rfl) rfl rfl ⟨(blk_cell HR2.out.blk 2).trans rfl, (blk_cell HX2.out 0).trans rfl, (blk_cell HX2.out 1).trans rfl⟩ (fun hHeld => ?_)
  refine with_tabW node.tab9 node.bits9 (fun HT_ HW_ => ?_)
  have HR3 : Aside0 (RawAt w2.drew base g (.slice PA ps.length pc) (.slice OA ps.length oc) (.slice PA ps.length pc) (.slice OA ps.length oc) b ps hs hs out (idxP ps)) := ⟨HR2.out.below (below_drew1 (Below.refl _ _))⟩
  have HC3 : Aside0 (Chg (nfp g b PA OA hs) w w2.drew) := ⟨HC2.out.trans (Chg.of_below (below_drew1 (Below.refl _ _)))⟩
  have HX3 : Aside0 (w2.drew.heap[gx]? = _) := ⟨HX2.out⟩
  clear HR2 HC2
  generalize w2.drew = w3 at HR3 HC3 HX3 hHeld ⊢
  refine pure_ (i := 0) (N := some 33) (v := ?_) (a' := ?_) #[true, false, false, false, false, false, false] rfl rfl (any_of HT_.out (by kernel_rfl)) (fun _ _ _ h => h) (Or.inl ⟨by rfl, ?_⟩) ?_ ?_
  rotate_left; exact slv; rotate_left; exact sla
  refine pure_ (i := 1) (N := some 34) (v := ?_) (a' := ?_) #[true, true, false, false, false, false, false] rfl rfl (any_of HT_.out (by kernel_rfl)) (fun _ _ _ h => h) (Or.inl ⟨by rfl, ?_⟩) ?_ ?_
  rotate_left; exact slv; rotate_left; exact sla
  refine pure_ (i := 2) (N := some 35) (v := ?_) (a' := ?_) #[true, true, true, false, false, false, false] rfl rfl (any_of HT_.out (by kernel_rfl)) (fun _ _ _ h => h) (Or.inl ⟨by rfl, ?_⟩) ?_ ?_
  rotate_left; exact slv; rotate_left; exact sla
  refine pure_ (i := 5) (N := some 38) (v := ?_) (a' := ?_) #[true, true, true, false, false, true, false] rfl rfl (any_of HT_.out (by kernel_rfl)) (fun _ _ _ h => h) (Or.inl ⟨by rfl, ?_⟩) ?_ ?_
  rotate_left; exact slv; rotate_left; exact sla
  refine take_ (i := 3) (N := some 36) (v := ?_) (a' := ?_) #[true, true, true, true, false, true, false] rfl rfl (take_ofW HT_.out HW_.out (by kernel_rfl)) (fun _ _ _ h => h) (Or.inl ⟨by rfl, ?_⟩) hHeld ?_ ?_
  rotate_left; exact slt3; rotate_left; exact sla
  refine take_ (i := 4) (N := some 37) (v := ?_) (a' := ?_) #[true, true, true, true, true, true, false] rfl rfl (take_ofW HT_.out HW_.out (by kernel_rfl)) (fun _ _ _ h => h) (Or.inl ⟨by rfl, ?_⟩) hHeld ?_ ?_
  rotate_left; exact slt3; rotate_left; exact sla
  refine last_ (i := 6) (N := none) #[true, true, true, true, true, true, true] rfl rfl (one_of HT_.out (by kernel_rfl)) (by decide) (fun K hK => ?_)
  obtain ⟨w4, hrun, hm4, hg4⟩ := HR3.out.map.put keyLaw Try.underlying70 HP.out ps.length
  unfold encP at hrun
  refine skip_ (w1 := w4) (by rfl) rfl ?_ ?_
  · first | (go_simp; done) | (go_simp; rfl)
  have HR4 := Aside0.mk (HR3.out.mapped hm4 hg4)
  have HC4 : Aside0 (Chg (nfp g b PA OA hs) w w4) := ⟨HC3.out.trans (Chg.keep (Chg.of_grown hg4) (fun k hk _ => by cases hk; exact Or.inr (Or.inl rfl)))⟩
  have HX4 := Aside0.mk ((hg4.block gx (blk_lt HX3.out) (fun e => by cases e; exact HR3.out.map.ne HX3.out rfl)).trans HX3.out)
  clear hrun hm4 hg4 HR3 HC3 HX3
  refine hK.out _ _ ?_
  clear hK K
  refine done_ (done_of HT_.out (by kernel_rfl)) ?_
  try clear hHeld
  go_wp2_with fail
  refine start_ (n := 11) (S := fun w' => w'.cell? ⟨g, 0, none⟩ = some (.slice PA ps.length pc) ∧ w'.cell? ⟨gx, 0, none⟩ = some (.int .i16 p.1) ∧ w'.cell? ⟨gx, 1, none⟩ = some (.int .i16 p.2)) (ds := [10]) #[ff,ff,ff,ff,ff,ff,ff,ff,ff,ff,ff] (by kernel_rfl) rfl rfl ⟨(blk_cell HR4.out.blk 0).trans rfl, (blk_cell HX4.out 0).trans rfl, (blk_cell HX4.out 1).trans rfl⟩ (fun hHeld => ?_)
  refine with_tabW node.tab10 node.bits10 (fun HT_ HW_ => ?_)
  have HR5 : Aside0 (RawAt w4.drew base g (.slice PA ps.length pc) (.slice OA ps.length oc) (.slice PA ps.length pc) (.slice OA ps.length oc) b ps hs hs out (upd (idxP ps) p ps.length)) := ⟨HR4.out.below (below_drew1 (Below.refl _ _))⟩
  have HC5 : Aside0 (Chg (nfp g b PA OA hs) w w4.drew) := ⟨HC4.out.trans (Chg.of_below (below_drew1 (Below.refl _ _)))⟩
  have HX5 : Aside0 (w4.drew.heap[gx]? = _) := ⟨HX4.out⟩
  clear HR4 HC4 HX4
  generalize w4.drew = w5 at HR5 HC5 HX5 hHeld ⊢
  have HBB5 : Aside0 (Below base w w5) := ⟨HC5.out.below HBS.out (fun k hk => (H.out.fp_ge k hk).1)⟩
  refine pure_ (i := 0) (N := some 39) (v := ?_) (a' := ?_) #[tt,ff,ff,ff,ff,ff,ff,ff,ff,ff,ff] rfl rfl (any_of HT_.out (by kernel_rfl)) (fun _ _ _ h => h) (Or.inl ⟨by rfl, ?_⟩) ?_ ?_
  rotate_left; exact slv; rotate_left; exact sla
  refine pure_ (i := 1) (N := some 40) (v := ?_) (a' := ?_) #[tt,tt,ff,ff,ff,ff,ff,ff,ff,ff,ff] rfl rfl (any_of HT_.out (by kernel_rfl)) (fun _ _ _ h => h) (Or.inl ⟨by rfl, ?_⟩) ?_ ?_
  rotate_left; exact slv; rotate_left; exact sla
  refine pure_ (i := 2) (N := some 41) (v := ?_) (a' := ?_) #[tt,tt,tt,ff,ff,ff,ff,ff,ff,ff,ff] rfl rfl (any_of HT_.out (by kernel_rfl)) (fun _ _ _ h => h) (Or.inl ⟨by rfl, ?_⟩) ?_ ?_
  rotate_left; exact slv; rotate_left; exact sla
  refine pure_ (i := 3) (N := some 42) (v := ?_) (a' := ?_) #[tt,tt,tt,tt,ff,ff,ff,ff,ff,ff,ff] rfl rfl (any_of HT_.out (by kernel_rfl)) (fun _ _ _ h => h) (Or.inl ⟨by rfl, ?_⟩) ?_ ?_
  rotate_left; exact slv; rotate_left; exact sla
  refine take_ (i := 4) (N := some 43) (v := ?_) (a' := ?_) #[tt,tt,tt,tt,tt,ff,ff,ff,ff,ff,ff] rfl rfl (take_ofW HT_.out HW_.out (by kernel_rfl)) (fun _ _ _ h => h) (Or.inl ⟨by rfl, ?_⟩) hHeld ?_ ?_
  rotate_left; exact slt3; rotate_left; exact sla
  refine take_ (i := 5) (N := some 44) (v := ?_) (a' := ?_) #[tt,tt,tt,tt,tt,tt,ff,ff,ff,ff,ff] rfl rfl (take_ofW HT_.out HW_.out (by kernel_rfl)) (fun _ _ _ h => h) (Or.inl ⟨by rfl, ?_⟩) hHeld ?_ ?_
  rotate_left; exact slt3; rotate_left; exact sla
  refine one_ (i := 6) (N := some 45) #[tt,tt,tt,tt,tt,tt,tt,ff,ff,ff,ff] rfl rfl (one_of HT_.out (by kernel_rfl)) (by decide) (fun K hK => ?_)
  refine Kd.R_lit_step kPt (w0 := w) base 59 ?hw (N := 45) ?hd (xs := [p]) (inner := [.int .i16 p.1, .int .i16 p.2]) (ok := fun _ => True) (okp := fun _ => True) ?hr ?hp (fun _ hk => hk) trivial HBB5.out (Nat.le_trans HBS.out HC5.out.size) (by simp) ?_
  case hw => rfl
  case hd => rfl
  case hr => first | (go_simp; done) | (go_simp; rfl)
  case hp => exact reps_single (kPt_mk _ _ _ p) rfl
  intro v66 w6 ho hb hg_ hnew
  have hbb : Below w5.heap.size w5 w6 := ⟨hg_.os, hg_.tape, hg_.output, hg_.size, fun k hk => hg_.block k hk (by simp)⟩
  have HR6 := Aside0.mk (HR5.out.below hbb)
  have HC6 := Aside0.mk (HC5.out.trans (Chg.of_below hbb))
  have HX6 := Aside0.mk ((hbb.block _ (blk_lt HX5.out)).trans HX5.out)
  have HBB6 := Aside0.mk hb
  obtain ⟨A8, c8, e8, hle8, hC8⟩ := Kd.R_reads ho
  subst e8
  have HC8 := Aside0.mk hC8
  clear ho hb hg_ hnew hbb HR5 HC5 HX5 HBB5 hle8 hC8
  refine hK.out _ _ ⟨(blk_cell HR6.out.blk 0).trans rfl, (blk_cell HX6.out 0).trans rfl, (blk_cell HX6.out 1).trans rfl⟩ (fun hHeld => ?_)
  clear hK K
  refine norm_ (a' := ?_) ?_ ?_
  rotate_left
  · show Act.put _ (some 45) _ = _
    simp only [Act.put, List.setIfInBounds_toArray, List.set_cons_zero, List.set_cons_succ, i64_w, i32_w]
    rfl
  refine one_ (i := 7) (N := some 46) #[tt,tt,tt,tt,tt,tt,tt,tt,ff,ff,ff] rfl rfl (one_of HT_.out (by kernel_rfl)) (by decide) (fun K hK => ?_)
  refine Kd.R_append_rows_step kPt (w0 := w) base ?hw (.tmp 43) (.tmp 45) 22 59 (.agg #[.int .i16 0, .int .i16 0]) 4 rfl Try.underlying22 infoPtz rfl (by decide) (by omega) (.slice PA ps.length pc) ps [p] A8 1 c8 (fun _ => True) (fun _ => False) rfl rfl HR6.out.pts HC8.out (fun _ _ h => kPt_K h) (fun _ h => h.elim) (fun _ _ => trivial) HBB6.out (Nat.le_trans HBS.out HC6.out.size) (by have := HF.out; omega) ?_
  case hw => rfl
  intro v67 w7 ho hb hg_ hat
  have HR7 := Aside0.mk (HR6.out.pts' ho hg_)
  have HX7 := Aside0.mk ((hg_.block gx (blk_lt HX6.out) (fun e => by
    have h1 := Kd.R_lt H.out.pts gx e.symm
    have := HGX.out
    omega)).trans HX6.out)
  have HC7 : Aside0 (Chg (nfp g b PA OA hs) w w7) := ⟨HC6.out.trans (Chg.keep (Chg.of_grown hg_) (fun k hk _ => by
    cases PA with
    | none => simp [Value.ownBlock] at hk
    | some a =>
      have e : k = a.block := by simpa [Value.ownBlock] using hk
      exact Or.inr (Or.inr (Or.inl ⟨a, rfl, e⟩))))⟩
  obtain ⟨A9, c9, e9⟩ := Kd.R_slice ho
  subst e9
  have HAT : Aside0 (∀ a, A9 = some a → (∃ a0 : Addr, PA = some a0 ∧ a.block = a0.block) ∨ w.heap.size ≤ a.block) := ⟨fun a ha => by
    subst ha
    rcases hat with h1 | ⟨b1, h1, h2⟩
    · cases PA with
      | none => simp [Value.ownBlock] at h1
      | some a0 =>
        left
        refine ⟨a0, rfl, ?_⟩
        simpa [Value.ownBlock] using h1
    · right
      have e : a.block = b1 := by simpa [Value.ownBlock] using h1
      have := HC6.out.size
      omega⟩
  clear ho hb hg_ hat HR6 HC6 HX6 HBB6 HC8
  refine hK.out _ _ ⟨(blk_cell HR7.out.blk 0).trans rfl, (blk_cell HX7.out 0).trans rfl, (blk_cell HX7.out 1).trans rfl⟩ (fun hHeld => ?_)
  clear hK K
  refine norm_ (a' := ?_) ?_ ?_
  rotate_left
  · show Act.put _ (some 46) _ = _
    simp only [Act.put, List.setIfInBounds_toArray, List.set_cons_zero, List.set_cons_succ, i64_w, i32_w]
    rfl
  refine pure_ (i := 8) (N := some 47) (v := ?_) (a' := ?_) #[tt,tt,tt,tt,tt,tt,tt,tt,tt,ff,ff] rfl rfl (any_of HT_.out (by kernel_rfl)) (fun _ _ _ h => h) (Or.inl ⟨by rfl, ?_⟩) ?_ ?_
  rotate_left; exact slv; rotate_left; exact sla
  refine pure_ (i := 9) (N := some 48) (v := ?_) (a' := ?_) #[tt,tt,tt,tt,tt,tt,tt,tt,tt,tt,ff] rfl rfl (any_of HT_.out (by kernel_rfl)) (fun _ _ _ h => h) (Or.inl ⟨by rfl, ?_⟩) ?_ ?_
  rotate_left; exact slv; rotate_left; exact sla
  refine last_ (i := 10) (N := none) #[tt,tt,tt,tt,tt,tt,tt,tt,tt,tt,tt] rfl rfl (one_of HT_.out (by kernel_rfl)) (by decide) (fun K hK => ?_)
  have hc1 : w7.cell? ⟨g, 0, none⟩ = some (.slice PA ps.length pc) := (blk_cell HR7.out.blk 0).trans rfl
  have hf1 := blk_frozen HR7.out.blk 0
  refine skip_ (w1 := (w7.setCell ⟨g, 0, none⟩ (.slice A9 (ps ++ [p]).length c9))) (by rfl) rfl ?_ ?_
  · first | (go_simp; done) | (go_simp; rfl)
  clear hc1 hf1
  have HR8 := Aside0.mk (HR7.out.set 0 (.slice A9 (ps ++ [p]).length c9) (.slice A9 (ps ++ [p]).length c9) (.slice OA ps.length oc) rfl)
  have HC8 : Aside0 (Chg (nfp g b PA OA hs) w (w7.setCell ⟨g, 0, none⟩ (.slice A9 (ps ++ [p]).length c9))) := ⟨HC7.out.setCell (Or.inl (Or.inl rfl)) _⟩
  clear HR7 HC7 HX7
  generalize (w7.setCell ⟨g, 0, none⟩ (.slice A9 (ps ++ [p]).length c9)) = w8 at HR8 HC8 ⊢
  refine hK.out _ _ ?_
  clear hK K
  refine done_ (done_of HT_.out (by kernel_rfl)) ?_
  try clear hHeld
  have HBB8 : Aside0 (Below base w w8) := ⟨HC8.out.below HBS.out (fun k hk => (H.out.fp_ge k hk).1)⟩
  have hc1 : w8.cell? ⟨g, 1, none⟩ = some (.slice OA ps.length oc) := (blk_cell HR8.out.blk 1).trans rfl
  obtain ⟨m, hm⟩ : ∃ m, m = (ps ++ [p]).length := ⟨_, rfl⟩
  have HMM := Aside0.mk hm
  have HLL : Aside0 ((hs ++ [((none, 0, 0) : Hd)]).length = m) := ⟨by rw [hm, List.length_append, List.length_append, H.out.len.1]; rfl⟩
  have HLH : Aside0 (hs.length = ps.length) := ⟨H.out.len.1⟩
  clear hm
  go_wp2_with ((with_reducible refine gate_builtin (b := .append) (xs := #[.tmp 53, .tmp 54]) rfl ?_); at_builtin; refine Kd.R_append kHd (w0 := w) base rfl (.tmp 53) (.tmp 54) 69 23 (.slice none 0 0) 24 rfl Try.underlying69 infoHdz rfl (by decide) (by omega) (.slice OA ps.length oc) hs ((none, 0, 0) : Hd) [.slice none 0 0] (fun _ => True) (fun _ => False) rfl rfl (kHd_mk _ _ _ ((none, 0, 0) : Hd)) (fun _ hk => hk.elim) (fun _ _ => trivial) HR8.out.ows HBB8.out (Nat.le_trans HBS.out HC8.out.size) (by have := HF.out; have := HLH.out; omega) ?_; intro v9 w9 ho hb hg_ hat; have HR9 := Aside0.mk (HR8.out.ows' ho hg_); have HC9 : Aside0 (Chg (nfp g b PA OA hs) w w9) := ⟨HC8.out.trans (Chg.keep (Chg.of_grown hg_) (fun k hk _ => own_nfp hk))⟩; obtain ⟨A10, c10, e10⟩ := Kd.R_slice ho; rw [HLL.out] at e10; subst e10; have HAT2 := Aside0.mk (own_at hat HC8.out.size); clear ho hb hg_ hat HR8 hc1 HBB8 HC8; have hc1 : w9.cell? ⟨g, 1, none⟩ = some (.slice OA ps.length oc) := (blk_cell HR9.out.blk 1).trans rfl; have hf1 := blk_frozen HR9.out.blk 1)
  have HR10 := HR9.out.set 1 (.slice A10 m c10) (.slice A9 (ps ++ [p]).length c9) (.slice A10 m c10) rfl
  have HC10 := HC9.out.setCell (p := ⟨g, 1, none⟩) (Or.inl (Or.inl rfl)) (.slice A10 m c10)
  rw [HMM.out] at HR10 HC10 ⊢
  refine bodyPost_ret (results_list (rs := [.tmp 4, .tmp 5]) rfl (by simp) (.tmp (.tmp .nil))) rfl ?_
  have hl := H.out.len
  refine ⟨rfl, A9, c9, A10, c10, ⟨HR10.blk, HR10.pts, HR10.ows, ?_, ?_, ?_, HR10.map.congr (fun k _ => idxP_snoc HIX.out k), H.out.ge, ?_, ?_, ?_, ?_⟩, HC10, ?_⟩
  · intro j hd l h1 h2
    rcases Nat.lt_or_ge j hs.length with hj | hj
    · rw [List.getElem?_append_left hj] at h1
      rw [List.getElem?_append_left (by omega)] at h2
      exact HR10.rows j hd l h1 h2
    · rw [List.getElem?_append_right hj] at h1
      rw [List.getElem?_append_right (by omega)] at h2
      have hj0 : j - hs.length = 0 := by
        have := (List.getElem?_eq_some_iff.1 h1).1
        simp at this
        omega
      have hj1 : j - out.length = 0 := by omega
      rw [hj0] at h1
      rw [hj1] at h2
      simp at h1 h2
      subst h1
      subst h2
      exact ⟨rfl, Kd.R_nil _ _ _ _ _⟩
  · simp
    exact hl
  · intro i j h k hij h1 h2 x hx
    rcases Nat.lt_or_ge i hs.length with hi | hi
    · rw [List.getElem?_append_left hi] at h1
      rcases Nat.lt_or_ge j hs.length with hj | hj
      · rw [List.getElem?_append_left hj] at h2
        exact H.out.apart i j h k hij h1 h2 x hx
      · rw [List.getElem?_append_right hj] at h2
        have hj0 : j - hs.length = 0 := by
          have := (List.getElem?_eq_some_iff.1 h2).1
          simp at this
          omega
        rw [hj0] at h2
        simp at h2
        subst h2
        simp [encH, Value.ownBlock]
    · rw [List.getElem?_append_right hi] at h1
      have hi0 : i - hs.length = 0 := by
        have := (List.getElem?_eq_some_iff.1 h1).1
        simp at this
        omega
      rw [hi0] at h1
      simp at h1
      subst h1
      simp [encH, Value.ownBlock] at hx
  · intro q hq
    rcases List.mem_append.1 hq with q1 | q1
    · exact H.out.okp q q1
    · simp at q1
      subst q1
      exact HP.out
  · rw [List.nodup_append]
    refine ⟨H.out.nodup, by simp, fun a ha c hc => ?_⟩
    simp at hc
    subst hc
    rintro rfl
    exact HIN.out ha
  · have := HF.out
    simp
    omega
  · intro l hl'
    rcases List.mem_append.1 hl' with q1 | q1
    · exact H.out.short l q1
    · simp at q1
      subst q1
      simp
  · rintro k (rfl | rfl | ⟨a, ha, rfl⟩ | ⟨a, ha, rfl⟩ | ⟨hd, hm, hk⟩)
    · exact Or.inl (Or.inl rfl)
    · exact Or.inl (Or.inr (Or.inl rfl))
    · rcases HAT.out a ha with ⟨a0, e0, e1⟩ | q
      · exact Or.inl (Or.inr (Or.inr (Or.inl ⟨a0, e0, e1⟩)))
      · exact Or.inr q
    · rcases HAT2.out a ha with ⟨a0, e0, e1⟩ | q
      · exact Or.inl (Or.inr (Or.inr (Or.inr (Or.inl ⟨a0, e0, e1⟩))))
      · exact Or.inr q
    · rcases List.mem_append.1 hm with q | q
      · exact Or.inl (Or.inr (Or.inr (Or.inr (Or.inr ⟨hd, q, hk⟩))))
      · simp at q
        subst q
        simp [encH, Value.ownBlock] at hk
end Go.Proofs.Ytgbfhhmmkhjhhaa.Roads
