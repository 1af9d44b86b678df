/- Paths: laid. Conditions: those that stand in each theorem. Written by wip/gen/netlaid.py. -/
import Derived.Test.YtgbfhhmmkhjhhaaCPathsEVA
import Derived.Test.YtgbfhhmmkhjhhaaWEqStruct
import Derived.Test.YtgbfhhmmkhjhhaaCSl
namespace Go.Proofs.Ytgbfhhmmkhjhhaa.Paths
open Go.RowKit Go.Proofs.YtgbfhhmmkhjhhaaW.PrintWords Go.Proofs.YtgbfhhmmkhjhhaaW.PrintLast Go.Proofs.YtgbfhhmmkhjhhaaW.PrintMore Go.Proofs.Ytgbfhhmmkhjhhaa.HeapW Go.Proofs.Ytgbfhhmmkhjhhaa.HeapP Go.Proofs.Ytgbfhhmmkhjhhaa.MapAt Go.Proofs.Ytgbfhhmmkhjhhaa.Dij
open Go.Proofs.Ytgbfhhmmkhjhhaa.HeapIR hiding It Pt kIt_K infoZ reps_single
open Go.Proofs.Ytgbfhhmmkhjhhaa.Roads (NetS outOf isN isN_iff nodeP roadP okP kPt kRd flat_keep Flat flatPt flatRd rd_at infoPtz infoRd kPt_mk reps_single kPt_K kRd_K)
set_option linter.unusedVariables false
set_option linter.unusedSimpArgs false
theorem infoNet : (Try.prog.info? 28).map (·.size) = some 2 := by kernel_rfl
theorem ty_ne {α : Type} {d : Kd α} {e base : Nat} {w : World} {ok : Nat → Prop} {v : Value} {xs : List α} (h : d.R e w base ok v xs) {g : Nat} {cs : Array Value} {t : TypeId} (ho : w.heap[g]? = some (.cells cs t (0, 0))) (ht : e ≠ t) : v.ownBlock ≠ some g := fun hk => by
  obtain ⟨c1, h1⟩ := Roads.R_ty h g hk
  rw [h1] at ho
  cases ho
  exact ht rfl
theorem far_app {W : World} {base g : Nat} {ps : List Roads.Pt} {out : List (List Rd)} {F : Nat → Prop} {v v8 : Value} (hn : NetS W base g ps out F) (h : ∀ k, v.ownBlock = some k → ¬ F k) (hat : v8.ownBlock = v.ownBlock ∨ ∃ b, v8.ownBlock = some b ∧ W.heap.size ≤ b) : ∀ k, v8.ownBlock = some k → ¬ F k := fun k hk q => by
  rcases hat with e1 | ⟨b, e1, hle⟩
  · exact h k (e1 ▸ hk) q
  · rw [e1] at hk
    cases hk
    have := (hn.ge k q).2
    omega
theorem start_fresh (m : Nat) (ps : List Roads.Pt) (x : Roads.Pt) : decide ((m : Int) < 4096) = (decide (m < 4096) && !decide (x ∈ ps.take 0)) := by
  rw [List.take_zero]
  by_cases q : m < 4096
  · rw [decide_eq_true (show (m : Int) < 4096 by omega), decide_eq_true q]; simp
  · rw [decide_eq_false (show ¬ (m : Int) < 4096 by omega), decide_eq_false q]; simp
theorem next_stale {m k : Nat} {ps : List Roads.Pt} {x : Roads.Pt} (h : false = (decide (m < 4096) && !decide (x ∈ ps.take k))) : false = (decide (m < 4096) && !decide (x ∈ ps.take (k + 1))) := by
  have h := h.symm
  rw [Bool.and_eq_false_iff] at h
  symm
  rw [Bool.and_eq_false_iff]
  rcases h with q | q
  · exact Or.inl q
  · right
    rw [Bool.not_eq_false', decide_eq_true_iff] at q ⊢
    rw [List.take_add_one]
    exact List.mem_append.2 (Or.inl q)
theorem next_fresh {m k : Nat} {ps : List Roads.Pt} {x y : Roads.Pt} (h : true = (decide (m < 4096) && !decide (x ∈ ps.take k))) (hy : ps[k]? = some y) : (!(y.1 == x.1 && y.2 == x.2)) = (decide (m < 4096) && !decide (x ∈ ps.take (k + 1))) := by
  have h := h.symm
  rw [Bool.and_eq_true, Bool.not_eq_true', decide_eq_false_iff_not] at h
  rw [h.1, Bool.true_and]
  congr 1
  rw [List.take_add_one, hy]
  by_cases q : y = x
  · subst q; simp
  · have e : (y.1 == x.1 && y.2 == x.2) = false := by
      rw [Bool.and_eq_false_iff, beq_eq_false_iff_ne, beq_eq_false_iff_ne]
      by_cases e1 : y.1 = x.1
      · exact Or.inr (fun e2 => q (Prod.ext e1 e2))
      · exact Or.inl e1
    rw [e]
    symm
    rw [decide_eq_false_iff_not]
    intro hm
    rcases List.mem_append.1 hm with q1 | q1
    · exact h.2 q1
    · simp at q1; exact q q1.symm
theorem eqi (k : IntKind) {t : TypeId} (ht : Try.prog.underlying t = some (.int k)) (x y : Int) (d : Nat) (W : World) : (Op.equalIn (d + 1) t (.int k x) (.int k y)).run Try.prog W = .ok (x == y) W := by
  rw [run_equalIn_int (P := Try.prog) W d t k k x y ht]
theorem parti {t : TypeId} (h : ∀ W, (isAgg t).run Try.prog W = .ok false W) (xs : Array Value) (i : Nat) (u : Value) (W : World) (hx : xs[i]? = some u) : (part t xs i).run Try.prog W = .ok u W := by
  simp [part, Sem.run_bind, h W, hx]
theorem agg16 (W : World) : (isAgg 57).run Try.prog W = .ok false W := by kernel_rfl
theorem neq_point (a b c d : Int) (W : World) : (binOp .neq 59 (.agg #[.int .i16 a, .int .i16 b]) (.agg #[.int .i16 c, .int .i16 d])).run Try.prog W = .ok (.bool (!(a == c && b == d))) W := by
  have h := eqA_of (P := Try.prog) (d := 9999) (w := W) (xs := #[.int .i16 a, .int .i16 b]) (ys := #[.int .i16 c, .int .i16 d]) Try.underlying59 (by kernel_rfl) (eqf_cons (by rfl) (parti agg16 _ 0 _ W rfl) (parti agg16 _ 0 _ W rfl) (eqi .i16 Try.underlying57 a c 9998 W) (eqf_last (by rfl) (parti agg16 _ 1 _ W rfl) (parti agg16 _ 1 _ W rfl) (eqi .i16 Try.underlying57 b d 9998 W)))
  simp only [binOp]
  have e : (Op.equal 59 (.agg #[.int .i16 a, .int .i16 b]) (.agg #[.int .i16 c, .int .i16 d])).run Try.prog W = .ok (a == c && b == d) W := h
  simp [e]
def laid.T4 : Bool × List (List Nat × List Nat) := (true, [([], []), ([], []), ([0, 1, 0, 1], [0]), ([2, 0, 1, 2], [])])
def laid.B4 : List Nat := [0, 0, 3, 7]
theorem laid.tab4 : rtab .any (opsOf Try.f9 4) = laid.T4 := by kernel_rfl
theorem laid.bits4 : waitsOk laid.T4.2 laid.B4 = true := by kernel_rfl
def laid.T13 : Bool × List (List Nat × List Nat) := (true, [([], []), ([0], [0]), ([1], [1]), ([1], [1]), ([2, 3, 1], [1, 2, 3]), ([4, 1], [1, 4]), ([1], [1]), ([6, 1], [1, 6]), ([1], [1]), ([7, 8, 1], [1, 7, 8]), ([9, 1], [1, 9]), ([5, 10, 1], [1, 5, 10]), ([1, 11], [1, 11]), ([12, 1, 0, 1, 2, 3, 4, 5, 6, 7, 8, 9, 10, 11, 12], [0, 12])])
def laid.B13 : List Nat := [0, 1, 3, 3, 15, 31, 3, 67, 3, 451, 963, 2047, 4095, 8191]
theorem laid.tab13 : rtab .any (opsOf Try.f9 13) = laid.T13 := by kernel_rfl
theorem laid.bits13 : waitsOk laid.T13.2 laid.B13 = true := by kernel_rfl
def laid.T16 : Bool × List (List Nat × List Nat) := (true, [([], []), ([], []), ([0, 1, 0, 1], [0]), ([2, 0, 1, 2], [])])
def laid.B16 : List Nat := [0, 0, 3, 7]
theorem laid.tab16 : rtab .any (opsOf Try.f9 16) = laid.T16 := by kernel_rfl
theorem laid.bits16 : waitsOk laid.T16.2 laid.B16 = true := by kernel_rfl
def laid.T28 : Bool × List (List Nat × List Nat) := (true, [([], []), ([0], [0]), ([1], [1]), ([2, 1], [1, 2]), ([1], [1]), ([3, 4, 1], [1, 3, 4]), ([5, 1], [1, 5]), ([6, 1], [1, 6]), ([1], [1]), ([8, 1], [1, 8]), ([7, 9, 1], [1, 7, 9]), ([10, 1, 1], [1, 10]), ([11], [11]), ([12, 11], [11, 12]), ([11], [11]), ([13, 14, 11], [11, 13, 14]), ([15, 11], [11, 15]), ([16, 11], [11, 16]), ([11], [11]), ([18, 11], [11, 18]), ([17, 19, 11], [11, 17, 19]), ([11, 20, 1], [1, 11, 20]), ([1, 21], [1, 21]), ([22, 11, 0, 1, 2, 3, 4, 5, 6, 7, 8, 9, 10, 11, 12, 13, 14, 15, 16, 17, 18, 19, 20, 21, 22], [0, 22])])
def laid.B28 : List Nat := [0, 1, 3, 7, 3, 31, 63, 127, 3, 259, 1023, 2047, 4095, 8191, 4095, 32767, 65535, 131071, 4095, 266239, 1048575, 2097151, 4194303, 8388607]
theorem laid.tab28 : rtab .any (opsOf Try.f9 28) = laid.T28 := by kernel_rfl
theorem laid.bits28 : waitsOk laid.T28.2 laid.B28 = true := by kernel_rfl
def laid.T30 : Bool × List (List Nat × List Nat) := (true, [([], []), ([], []), ([0, 1, 0, 1], [0]), ([2, 0, 1, 2], [])])
def laid.B30 : List Nat := [0, 0, 3, 7]
theorem laid.tab30 : rtab .any (opsOf Try.f9 30) = laid.T30 := by kernel_rfl
theorem laid.bits30 : waitsOk laid.T30.2 laid.B30 = true := by kernel_rfl
def laid.T33 : Bool × List (List Nat × List Nat) := (true, [([], []), ([], []), ([0, 0], [0]), ([1, 2, 0, 1, 2], [1]), ([3, 0, 1, 2, 3], [])])
def laid.B33 : List Nat := [0, 0, 1, 7, 15]
theorem laid.tab33 : rtab .any (opsOf Try.f9 33) = laid.T33 := by kernel_rfl
theorem laid.bits33 : waitsOk laid.T33.2 laid.B33 = true := by kernel_rfl
set_option maxHeartbeats 16000000 in
set_option maxRecDepth 100000 in
theorem laid_calls (PA RA : Option Addr) (pc rc : Nat) (pl : List Roads.Pt) (rl : List Rd) (w : World) (hP : Kd.C kPt w PA pl.length pl) (hR : Kd.C kRd w RA rl.length rl) (hp : ∀ p ∈ pl, okP p) (hpl : pl.length ≤ 100000000000000) (hrl : rl.length ≤ 5864062014634) :
    Calls Try.prog 9 #[.agg #[.slice PA pl.length pc, .slice RA rl.length rc]] w fun e w' => ∃ g F ps out RB rb R, e = .returned (.tuple #[.pointer (some ⟨g, 0, none⟩), .agg #[.int .i64 (ps.length : Nat), .slice RB R.length rb], .bool true]) ∧ Beside kRd 40 w w' g F (.slice RB R.length rb) R ps out ∧ NetRel R out := by
  have HP := Aside0.mk hP
  have HR := Aside0.mk hR
  have HOK := Aside0.mk hp
  have HLN := Aside0.mk (And.intro hpl hrl)
  have qe := eql_ptr
  obtain ⟨pn, hpn⟩ : ∃ pn, pn = pl.length := ⟨_, rfl⟩
  obtain ⟨rn, hrn⟩ : ∃ rn, rn = rl.length := ⟨_, rfl⟩
  have HPN := Aside0.mk (And.intro hpn hrn)
  rw [← hpn, ← hrn]
  clear hP hR hp hpl hrl hpn hrn
  go_enter Try.func9, Try.ntmps9
  go_wp2_with fail
  have hb0 : Below w.heap.size w ((w.alloc (.cells #[.slice PA pn pc, .slice RA rn rc] 25)).alloc (.cells #[.int .i64 0, .slice none 0 0] 28)) := below_alloc (below_alloc (Below.refl _ _) _) _
  have HT0 : Aside0 (((w.alloc (.cells #[.slice PA pn pc, .slice RA rn rc] 25)).alloc (.cells #[.int .i64 0, .slice none 0 0] 28)).heap[w.heap.size]? = some (.cells #[.slice PA pn pc, .slice RA rn rc] 25)) := ⟨blk_alloc (blk_new w _) _⟩
  have HS0 : Aside0 (((w.alloc (.cells #[.slice PA pn pc, .slice RA rn rc] 25)).alloc (.cells #[.int .i64 0, .slice none 0 0] 28)).heap[w.heap.size + 1]? = some (.cells #[.int .i64 0, .slice none 0 0] 28)) := ⟨by have := blk_new (w.alloc (.cells #[.slice PA pn pc, .slice RA rn rc] 25)) (.cells #[.int .i64 0, .slice none 0 0] 28); rwa [World.size_alloc] at this⟩
  refine (Roads.new_net _).mono ?_
  rintro e w1 ⟨g, F0, rfl, hn, hb⟩
  have HT1 := Aside0.mk ((hb.block _ (blk_lt HT0.out)).trans HT0.out)
  have HS1 := Aside0.mk ((hb.block _ (blk_lt HS0.out)).trans HS0.out)
  have HB1 := Aside0.mk (below_step hb0 hb)
  have HN1 := Aside0.mk (net_lower hn hb0.size)
  have HG1 : Aside0 (∀ k, F0 k → w.heap.size + 2 ≤ k) := ⟨fun k hk => by have := (hn.ge k hk).1; rw [World.size_alloc, World.size_alloc] at this; exact this⟩
  clear hn hb hb0 HT0 HS0
  go_wp2_with ((with_reducible refine gate_upon ?_); go_simp)
  have hb2 : Below w1.heap.size w1 (w1.alloc (.cells #[.int .i64 0, .slice none 0 0] 28)) := below_alloc (Below.refl _ _) _
  have HTH : Aside0 (Three (w1.alloc (.cells #[.int .i64 0, .slice none 0 0] 28)) F0 w.heap.size (w.heap.size + 1) w1.heap.size (.cells #[.slice PA pn pc, .slice RA rn rc] 25) (.cells #[.int .i64 0, .slice none 0 0] 28) (.cells #[.int .i64 0, .slice none 0 0] 28)) := ⟨(hb2.block _ (blk_lt HT1.out)).trans HT1.out, (hb2.block _ (blk_lt HS1.out)).trans HS1.out, blk_new w1 _, fun q => by have := HG1.out _ q; omega, fun q => by have := HG1.out _ q; omega, fun q => by have := (HN1.out.ge _ q).2; omega⟩
  have HBE : Aside0 (Beside kPt 59 w (w1.alloc (.cells #[.int .i64 0, .slice none 0 0] 28)) g F0 (.slice none 0 0) [] [] (List.replicate 0 [])) := ⟨HN1.out.below hb2, Kd.R_nil _ _ _ _ _, below_step HB1.out hb2, fun k hk => by simp [Value.ownBlock] at hk⟩
  have HGN1 := Aside0.mk (blk_lt HS1.out)
  obtain ⟨gn, hgn⟩ : ∃ gn, gn = w1.heap.size := ⟨_, rfl⟩
  have HGN : Aside0 (w.heap.size + 1 < gn) := ⟨by rw [hgn]; exact HGN1.out⟩
  clear HGN1
  rw [← hgn] at HTH
  rw [← hgn]
  clear hb2 hgn HT1 HS1 HB1 HN1 HG1
  generalize w1.alloc (.cells #[.int .i64 0, .slice none 0 0] 28) = w2 at HTH HBE ⊢
  go_loopg [2, 4, 7, 8] pn (fun kq v2 v4 v7 v8 w' => ∃ (i : Nat) (F : Nat → Prop) (ps : List Roads.Pt), v2 = .pointer none ∧ v4 = .bool false ∧ v8 = .int .i64 i ∧ Aside0 (i + kq = pn) ∧ Aside0 (Beside kPt 59 w w' g F v7 ps ps (List.replicate ps.length [])) ∧ Aside0 (Three w' F w.heap.size (w.heap.size + 1) gn (.cells #[.slice PA pn pc, .slice RA rn rc] 25) (.cells #[.int .i64 0, .slice none 0 0] 28) (.cells #[.int .i64 0, .slice none 0 0] 28)))
  case atStart => exact ⟨0, F0, [], rfl, rfl, rfl, ⟨by omega⟩, HBE, HTH⟩
  case round =>
   as_aux_lemma =>
    clear HBE HTH
    obtain ⟨i, F1, ps, rfl, rfl, rfl, HI, HBE, HTH⟩ := hrel
    have hct := (blk_cell HTH.out.t 0).trans rfl
    obtain ⟨A7, c7, e7⟩ := Kd.R_slice HBE.out.row
    subst e7
    obtain ⟨m, hm⟩ : ∃ m, m = ps.length := ⟨_, rfl⟩
    have HM := Aside0.mk hm
    rw [← hm]
    have HRO : Aside0 (kPt.R 59 wr w.heap.size (fun _ => True) (.slice A7 m c7) ps) := ⟨by rw [hm]; exact HBE.out.row⟩
    have HFR : Aside0 (∀ k, Value.ownBlock (.slice A7 m c7) = some k → ¬ F1 k) := ⟨by rw [hm]; exact HBE.out.far⟩
    have HNE : Aside0 (NetS wr w.heap.size g ps (List.replicate m []) F1) := ⟨by rw [hm]; exact HBE.out.net⟩
    have HBW := Aside0.mk HBE.out.below
    clear HBE hm
    cases gk with
    | zero =>
     as_aux_lemma =>
      have hi : pn = i := by have := HI.out; omega
      subst hi
      have hgt : decide (pn < pn) = false := decide_eq_false (by omega)
      have HTH2 : Aside0 (Three (wr.setCell ⟨gn, 0, none⟩ (.int .i64 (m : Nat))) F1 w.heap.size (w.heap.size + 1) gn (.cells #[.slice PA pn pc, .slice RA rn rc] 25) (.cells #[.int .i64 0, .slice none 0 0] 28) (.cells #[.int .i64 (m : Nat), (.slice none 0 0)] 28)) := ⟨HTH.out.set (by have := HGN.out; omega) (by have := HGN.out; omega) 0 _⟩
      have HB0 : Aside0 (Beside kRd 40 w wr g F1 (.slice none 0 0) [] ps (List.replicate m [])) := ⟨HNE.out, Kd.R_nil _ _ _ _ _, HBW.out, fun k hk => by simp [Value.ownBlock] at hk⟩
      have HBE2 := Aside0.mk (HB0.out.box (d := kRd) flatRd (gn := gn) (i := 0) (.int .i64 (m : Nat)) HTH.out.fn (by simp [Value.ownBlock]) (by have := HGN.out; omega))
      have hcn0 := (blk_cell HTH.out.n 0).trans rfl
      have hfn0 := blk_frozen HTH.out.n 0
      have HML : Aside0 (ps.length = m) := ⟨HM.out.symm⟩
      clear HB0 HTH HRO HFR HNE HBW HM
      go_wp2_with ((with_reducible refine gate_upon ?_); go_simp)
      clear hcn0 hfn0
      try clear hct
      generalize wr.setCell ⟨gn, 0, none⟩ (.int .i64 (m : Nat)) = w3 at HTH2 HBE2 ⊢
      go_loopg [2, 4, 13] rn (fun kq v2 v4 v13 w' => ∃ (i : Nat) (F : Nat → Prop) (R : List Rd) (rA : Option Addr) (L lc : Nat) (out : List (List Rd)), v2 = .pointer none ∧ v4 = .bool false ∧ v13 = .int .i64 i ∧ Aside0 (i + kq = rn) ∧ Aside0 (L = R.length ∧ L ≤ i) ∧ Aside0 (Beside kRd 40 w w' g F (.slice rA L lc) R ps out) ∧ Aside0 (Three w' F w.heap.size (w.heap.size + 1) gn (.cells #[.slice PA pn pc, .slice RA rn rc] 25) (.cells #[.int .i64 0, .slice none 0 0] 28) (.cells #[.int .i64 (m : Nat), (.slice rA L lc)] 28)) ∧ Aside0 (NetRel R out))
      case atStart => exact ⟨0, F1, [], none, 0, 0, List.replicate m [], rfl, rfl, rfl, ⟨by omega⟩, ⟨rfl, Nat.le_refl _⟩, HBE2, HTH2, ⟨NetRel.start m⟩⟩
      case round =>
       as_aux_lemma =>
        clear HBE2 HTH2
        obtain ⟨i, F2, R, rA, L, lc, out, rfl, rfl, rfl, HI, HL, HBE, HTH, HNR⟩ := hrel
        have hct := (blk_cell HTH.out.t 1).trans rfl
        cases gk with
        | zero =>
         as_aux_lemma =>
          have hi : rn = i := by have := HI.out; omega
          subst hi
          have hgt : decide (rn < rn) = false := decide_eq_false (by omega)
          go_wp2_with ((with_reducible refine gate_upon ?_); go_simp)
          have hn0 : wr.drew.cell? ⟨gn, 0, none⟩ = some (.int .i64 (m : Nat)) := (blk_cell HTH.out.n 0).trans rfl
          have hn1 : wr.drew.cell? ⟨gn, 1, none⟩ = some (.slice rA L lc) := (blk_cell HTH.out.n 1).trans rfl
          refine start_ (n := 5) (S := fun w' => w'.cell? ⟨gn, 0, none⟩ = some (.int .i64 (m : Nat)) ∧ w'.cell? ⟨gn, 1, none⟩ = some (.slice rA L lc)) (ds := []) #[false, false, false, false, false] (by kernel_rfl) rfl rfl ⟨hn0, hn1⟩ (fun hHeld => ?_)
          refine with_tabW laid.tab33 laid.bits33 (fun HT_ HW_ => ?_)
          have HTH3 := Aside0.mk (HTH.out.step (below_drew1 (Below.refl wr.heap.size wr)))
          have HBE3 := Aside0.mk (HBE.out.step (below_drew1 (Below.refl wr.heap.size wr)))
          clear HTH HBE hn0 hn1
          try clear hct
          generalize wr.drew = w5 at HTH3 HBE3 hHeld ⊢
          refine pure_ (i := 0) (N := some 186) (v := ?_) (a' := ?_) #[true, false, false, false, false] rfl rfl (any_of HT_.out (by kernel_rfl)) (fun _ _ _ h => h) (Or.inl ⟨by rfl, ?_⟩) ?_ ?_
          rotate_left; exact slv; rotate_left; exact sla
          refine pure_ (i := 2) (N := some 2) (v := ?_) (a' := ?_) #[true, false, true, false, false] rfl rfl (any_of HT_.out (by kernel_rfl)) (fun _ _ _ h => h) (Or.inl ⟨by rfl, ?_⟩) ?_ ?_
          rotate_left; exact slv; rotate_left; exact sla
          refine take_ (i := 1) (N := some 187) (v := ?_) (a' := ?_) #[true, true, true, false, false] rfl rfl (take_ofW HT_.out HW_.out (by kernel_rfl)) (fun _ _ _ h => h) (Or.inl ⟨by rfl, ?_⟩) hHeld ?_ ?_
          rotate_left; exact slt2; rotate_left; exact sla
          refine one_ (i := 3) (N := none) #[true, true, true, true, false] rfl rfl (one_of HT_.out (by kernel_rfl)) (by decide) (fun K hK => ?_)
          refine rowstore_ (by rfl) rfl 28 (.tmp 3) (.tmp 187) rfl (w.heap.size + 1) #[.int .i64 (m : Nat), .slice rA L lc] (by rfl) (by rfl) _ _ HTH3.out.r infoNet rfl (by simp [Value.oneCell']) ?_
          have hs := chg_row (cs := #[.int .i64 (m : Nat), .slice rA L lc]) HTH3.out.r
          have HX4 := Aside0.mk hs.1
          have HBE4 := Aside0.mk (HBE3.out.other (d := kRd) flatRd hs.2 (fun k hk q => HTH3.out.fr (by have e : k = w.heap.size + 1 := q; rw [← e]; exact hk)) (fun k hk q => ty_ne HBE3.out.row HTH3.out.r (by decide) (by have e : k = w.heap.size + 1 := q; rw [← e]; exact hk)) (((Chg.of_below (F := (· = w.heap.size + 1)) HBE3.out.below).trans hs.2).below (Nat.le_refl _) (fun k hk => by have e : k = w.heap.size + 1 := hk; omega)))
          have HNX : Aside0 ((w5.setRow (w.heap.size + 1) #[.int .i64 (m : Nat), .slice rA L lc]).heap[gn]? = some (.cells #[.int .i64 (m : Nat), .slice rA L lc] 28 (0, 0))) := ⟨hs.2.heap HTH3.out.n (fun q => by have e : gn = w.heap.size + 1 := q; have := HGN.out; omega)⟩
          clear hs HTH3 HBE3
          generalize w5.setRow (w.heap.size + 1) #[.int .i64 (m : Nat), .slice rA L lc] = w4 at HX4 HBE4 HNX ⊢
          refine hK.out _ _ ⟨(blk_cell HNX.out 0).trans rfl, (blk_cell HNX.out 1).trans rfl⟩ (fun hHeld => ?_)
          clear hK K
          refine pure_ (i := 4) (N := some 4) (v := ?_) (a' := ?_) #[true, true, true, true, true] rfl rfl (any_of HT_.out (by kernel_rfl)) (fun _ _ _ h => h) (Or.inl ⟨by rfl, ?_⟩) ?_ ?_
          rotate_left; exact slv; rotate_left; exact sla
          refine done_ (done_of HT_.out (by kernel_rfl)) ?_
          try clear hHeld
          try go_wp2
          refine bodyPost_ret (results_list (rs := [.tmp 2, .cell 3 28, .tmp 4]) rfl (by simp) (.tmp (.cell (w.heap.size + 1) 28 _ (0, 0) _ rfl HX4.out Try.underlying28 rfl infoNet (.tmp .nil)))) rfl ?_
          exact ⟨g, F2, ps, out, rA, lc, R, by rw [HML.out, ← HL.out.1]; rfl, by rw [← HL.out.1]; exact HBE4.out, HNR.out⟩
        | succ gk2 =>
         as_aux_lemma =>
          have hlt : decide (i < rn) = true := decide_eq_true (by have := HI.out; omega)
          have hltI : (i : Int) < rn := by have := HI.out; omega
          have HI1 : Aside0 (i + 1 + gk2 = rn) := ⟨by have := HI.out; omega⟩
          have HWI : Aside0 (wrap64 ((i : Int) + 1) = (i : Int) + 1) := ⟨by unfold wrap64; have := HI.out; have := HPN.out; have := HLN.out; omega⟩
          obtain ⟨a, x, ha, hlx, hcx⟩ := rd_at HR.out rfl (j := i) (by have := HI.out; have := HPN.out; omega)
          obtain ⟨q0, q1, q2⟩ := hcx wr HBE.out.below
          have HXA := Aside0.mk (blk_new wr (.cells #[.int .i64 0, .int .i64 0, .int .i64 0] 40))
          subst ha
          clear hlx hcx
          go_upto_region 24 with (first | ((with_reducible refine gate_store (t := 40) (p := 14) (v := .tmp 97) rfl ?_); refine wpList_store_row rfl 40 (.tmp 14) (.tmp 97) rfl wr.heap.size #[.int .i64 x.1, .int .i64 x.2.1, .int .i64 x.2.2] rfl rfl _ _ HXA.out infoRo rfl (by simp [Value.oneCell']) ?_; have hs := chg_row (cs := #[.int .i64 x.1, .int .i64 x.2.1, .int .i64 x.2.2]) HXA.out; have HXB := Aside0.mk hs.1; have hbx := (Chg.of_below (F := (fun _ => False)) (below_alloc (Below.refl wr.heap.size wr) (.cells #[.int .i64 0, .int .i64 0, .int .i64 0] 40))).then hs.2 (fun i hi => Or.inr (Nat.le_of_eq (Eq.symm hi))); have HBB : Aside0 (Below wr.heap.size wr ((wr.alloc (.cells #[.int .i64 0, .int .i64 0, .int .i64 0] 40)).setRow wr.heap.size #[.int .i64 x.1, .int .i64 x.2.1, .int .i64 x.2.2])) := ⟨hbx.below (Nat.le_refl _) (fun _ q => q.elim)⟩; clear hs hbx; generalize (wr.alloc (.cells #[.int .i64 0, .int .i64 0, .int .i64 0] 40)).setRow wr.heap.size #[.int .i64 x.1, .int .i64 x.2.1, .int .i64 x.2.2] = wB at HXB HBB ⊢) | ((with_reducible refine gate_upon ?_); go_simp))
          clear q0 q1 q2
          try clear hct
          have HBEB := Aside0.mk (HBE.out.step HBB.out)
          have HTHB := Aside0.mk (HTH.out.step HBB.out)
          have HXF : Aside0 (¬ F2 wr.heap.size ∧ (∀ k, Value.ownBlock (.slice rA L lc) = some k → k ≠ wr.heap.size)) := ⟨fun q => by have := (HBE.out.net.ge _ q).2; omega, fun k hk e => by have := Kd.R_lt HBE.out.row k hk; omega⟩
          obtain ⟨gx, hgx⟩ : ∃ gx, gx = wr.heap.size := ⟨_, rfl⟩
          rw [← hgx] at HXB HXF
          rw [← hgx]
          clear hgx HXA HBB HBE HTH
          have hx0 : wB.cell? ⟨gx, 0, none⟩ = some (.int .i64 x.1) := (blk_cell HXB.out 0).trans rfl
          have hx1 : wB.cell? ⟨gx, 1, none⟩ = some (.int .i64 x.2.1) := (blk_cell HXB.out 1).trans rfl
          have hx2 : wB.cell? ⟨gx, 2, none⟩ = some (.int .i64 x.2.2) := (blk_cell HXB.out 2).trans rfl
          have hn0 : wB.cell? ⟨gn, 0, none⟩ = some (.int .i64 (m : Nat)) := (blk_cell HTHB.out.n 0).trans rfl
          simp only [Act.put, List.setIfInBounds_toArray, List.set_cons_succ, List.set_cons_zero]
          go_cut [15, 98, 99, 100, 101, 102, 103, 104, 105, 106, 107, 108, 109, 110, 111, 112, 113, 114, 115, 116, 117, 118, 119, 120, 121, 122, 123, 124, 125, 126, 127, 128, 129, 130, 131, 132, 133, 134, 135, 136] (fun v15 v98 v99 v100 v101 v102 v103 v104 v105 v106 v107 v108 v109 v110 v111 v112 v113 v114 v115 v116 v117 v118 v119 v120 v121 v122 v123 v124 v125 v126 v127 v128 v129 v130 v131 v132 v133 v134 v135 v136 wc => ∃ b : Bool, v15 = .bool b ∧ Aside0 (b = mayK m R x 0) ∧ Aside0 (wc = wB))
          case first =>
           as_aux_lemma =>
            by_cases e0 : 0 ≤ x.1
            · have d0 : decide (0 ≤ x.1) = true := decide_eq_true e0
              have H0 := Aside0.mk e0
              clear e0
              by_cases e1 : x.1 < (m : Int)
              · have d1 : decide (x.1 < (m : Int)) = true := decide_eq_true e1
                have H1 := Aside0.mk e1
                clear e1
                by_cases e2 : 0 ≤ x.2.1
                · have d2 : decide (0 ≤ x.2.1) = true := decide_eq_true e2
                  have H2 := Aside0.mk e2
                  clear e2
                  by_cases e3 : x.2.1 < (m : Int)
                  · have d3 : decide (x.2.1 < (m : Int)) = true := decide_eq_true e3
                    have H3 := Aside0.mk e3
                    clear e3
                    by_cases e4 : x.1 ≠ x.2.1
                    · have d4 : (x.1 != x.2.1) = true := by rw [bne_iff_ne]; exact e4
                      have H4 := Aside0.mk e4
                      clear e4
                      by_cases e5 : 1 ≤ x.2.2
                      · have d5 : decide (1 ≤ x.2.2) = true := decide_eq_true e5
                        have H5 := Aside0.mk e5
                        clear e5
                        by_cases e6 : x.2.2 ≤ 1048576
                        · have d6 : decide (x.2.2 ≤ 1048576) = true := decide_eq_true e6
                          have H6 := Aside0.mk e6
                          clear e6
                          go_wp2_with ((with_reducible refine gate_upon ?_); go_simp)
                          go_meet
                          case rel => exact ⟨true, rfl, ⟨mayK_zero ⟨H0.out, H1.out, H2.out, H3.out, H4.out, H5.out, H6.out⟩⟩, ⟨rfl⟩⟩
                        · have d6 : decide (x.2.2 ≤ 1048576) = false := decide_eq_false e6
                          have H6 := Aside0.mk e6
                          clear e6
                          go_wp2_with ((with_reducible refine gate_upon ?_); go_simp)
                          go_meet
                          case rel => exact ⟨false, rfl, ⟨mayK_no (fun q => by have h1 := H6.out; have h2 := q.2.2.2.2.2.2; omega)⟩, ⟨rfl⟩⟩
                      · have d5 : decide (1 ≤ x.2.2) = false := decide_eq_false e5
                        have H5 := Aside0.mk e5
                        clear e5
                        go_wp2_with ((with_reducible refine gate_upon ?_); go_simp)
                        go_meet
                        case rel => exact ⟨false, rfl, ⟨mayK_no (fun q => by have h1 := H5.out; have h2 := q.2.2.2.2.2.1; omega)⟩, ⟨rfl⟩⟩
                    · have d4 : (x.1 != x.2.1) = false := by rw [bne_eq_false_iff_eq]; exact Classical.not_not.1 e4
                      have H4 := Aside0.mk e4
                      clear e4
                      go_wp2_with ((with_reducible refine gate_upon ?_); go_simp)
                      go_meet
                      case rel => exact ⟨false, rfl, ⟨mayK_no (fun q => by have h1 := H4.out; have h2 := q.2.2.2.2.1; omega)⟩, ⟨rfl⟩⟩
                  · have d3 : decide (x.2.1 < (m : Int)) = false := decide_eq_false e3
                    have H3 := Aside0.mk e3
                    clear e3
                    go_wp2_with ((with_reducible refine gate_upon ?_); go_simp)
                    go_meet
                    case rel => exact ⟨false, rfl, ⟨mayK_no (fun q => by have h1 := H3.out; have h2 := q.2.2.2.1; omega)⟩, ⟨rfl⟩⟩
                · have d2 : decide (0 ≤ x.2.1) = false := decide_eq_false e2
                  have H2 := Aside0.mk e2
                  clear e2
                  go_wp2_with ((with_reducible refine gate_upon ?_); go_simp)
                  go_meet
                  case rel => exact ⟨false, rfl, ⟨mayK_no (fun q => by have h1 := H2.out; have h2 := q.2.2.1; omega)⟩, ⟨rfl⟩⟩
              · have d1 : decide (x.1 < (m : Int)) = false := decide_eq_false e1
                have H1 := Aside0.mk e1
                clear e1
                go_wp2_with ((with_reducible refine gate_upon ?_); go_simp)
                go_meet
                case rel => exact ⟨false, rfl, ⟨mayK_no (fun q => by have h1 := H1.out; have h2 := q.2.1; omega)⟩, ⟨rfl⟩⟩
            · have d0 : decide (0 ≤ x.1) = false := decide_eq_false e0
              have H0 := Aside0.mk e0
              clear e0
              go_wp2_with ((with_reducible refine gate_upon ?_); go_simp)
              go_meet
              case rel => exact ⟨false, rfl, ⟨mayK_no (fun q => by have h1 := H0.out; have h2 := q.1; omega)⟩, ⟨rfl⟩⟩
          case rest =>
           as_aux_lemma =>
            obtain ⟨b, rfl, HMK, HWC⟩ := hcut
            have hwc := HWC.out.symm
            subst hwc
            clear HWC hx0 hx1 hx2 hn0
            go_wp2_with ((with_reducible refine gate_upon ?_); go_simp)
            go_loopg [15, 16] L (fun kq v15 v16 w' => ∃ (k : Nat) (b : Bool), v15 = .bool b ∧ v16 = .int .i64 k ∧ Aside0 (k + kq = L) ∧ Aside0 (b = mayK m R x k) ∧ Aside0 (Beside kRd 40 w w' g F2 (.slice rA L lc) R ps out) ∧ Aside0 (Three w' F2 w.heap.size (w.heap.size + 1) gn (.cells #[.slice PA pn pc, .slice (some a) rn rc] 25) (.cells #[.int .i64 0, .slice none 0 0] 28) (.cells #[.int .i64 (m : Nat), (.slice rA L lc)] 28)) ∧ Aside0 (w'.heap[gx]? = some (.cells #[.int .i64 x.1, .int .i64 x.2.1, .int .i64 x.2.2] 40 (0, 0))))
            case atStart => exact ⟨0, b, rfl, rfl, ⟨by omega⟩, HMK, HBEB, HTHB, HXB⟩
            case round =>
             as_aux_lemma =>
              clear HMK HBEB HTHB HXB
              obtain ⟨k, b, rfl, rfl, HK, HMK, HBE, HTH, HXB⟩ := hrel
              have hn1 : wr.cell? ⟨gn, 1, none⟩ = some (.slice rA L lc) := (blk_cell HTH.out.n 1).trans rfl
              have hx0 : wr.cell? ⟨gx, 0, none⟩ = some (.int .i64 x.1) := (blk_cell HXB.out 0).trans rfl
              have hx1 : wr.cell? ⟨gx, 1, none⟩ = some (.int .i64 x.2.1) := (blk_cell HXB.out 1).trans rfl
              cases gk with
              | zero =>
               as_aux_lemma =>
                have hk : L = k := by have := HK.out; omega
                subst hk
                have hgt : decide (L < L) = false := decide_eq_false (by omega)
                have HMP : Aside0 (b = mayP m R x) := ⟨by rw [HMK.out, HL.out.1, mayK_full]⟩
                have hx2 : wr.cell? ⟨gx, 2, none⟩ = some (.int .i64 x.2.2) := (blk_cell HXB.out 2).trans rfl
                obtain ⟨ev, hev⟩ : ∃ ev, ev = (roadP out x.1 x.2.1 x.2.2).1 := ⟨_, rfl⟩
                obtain ⟨o2, ho2⟩ : ∃ o2, o2 = (roadP out x.1 x.2.1 x.2.2).2 := ⟨_, rfl⟩
                have hnd := HBE.out.net.road HBE.out.below.size x.1 x.2.1 x.2.2
                have hon : out.length = m := by rw [← HML.out]; exact HBE.out.net.len.1
                have hG : Roads.Good m out := by rw [← hon]; exact HBE.out.net.good
                have hmr := may_road hG hon HNR.out x
                rw [← hev, ← ho2] at hnd hmr
                have HND := Aside0.mk hnd
                clear hnd hev ho2 hon hG
                cases b with
                | true =>
                 as_aux_lemma =>
                  obtain ⟨he0, hnr2⟩ : ev = 0 ∧ NetRel (R ++ [x]) o2 := by
                    rcases hmr with ⟨_, q1, q2⟩ | ⟨q0, _, _⟩
                    · exact ⟨q1, q2⟩
                    · have h1 := HMP.out; rw [q0] at h1; cases h1
                  subst he0
                  have HNR2 := Aside0.mk hnr2
                  clear hmr hnr2
                  go_wp2_with (first | fail | ((with_reducible refine gate_upon ?_); go_simp))
                  refine HND.out.mono ?_
                  rintro e w5 ⟨rfl, F5, hn5, hc5, hf5⟩
                  have HBE5 := Aside0.mk (HBE.out.laid (d := kRd) flatRd hn5 hc5 hf5)
                  have HTH5 := Aside0.mk (HTH.out.laid hc5 hf5)
                  have HXB5 := Aside0.mk (hc5.heap HXB.out HXF.out.1)
                  clear hn5 hc5 hf5 HND HBE HTH HXB hx0 hx1 hx2 hn1
                  have hx0 : w5.cell? ⟨gx, 0, none⟩ = some (.int .i64 x.1) := (blk_cell HXB5.out 0).trans rfl
                  have hx1 : w5.cell? ⟨gx, 1, none⟩ = some (.int .i64 x.2.1) := (blk_cell HXB5.out 1).trans rfl
                  have hx2 : w5.cell? ⟨gx, 2, none⟩ = some (.int .i64 x.2.2) := (blk_cell HXB5.out 2).trans rfl
                  have hn1 : w5.cell? ⟨gn, 1, none⟩ = some (.slice rA L lc) := (blk_cell HTH5.out.n 1).trans rfl
                  obtain ⟨L8, hL8⟩ : ∃ L8, L8 = (R ++ [x]).length := ⟨_, rfl⟩
                  have HL8 := Aside0.mk hL8
                  clear hL8
                  have hwi := HWI.out
                  go_wp2_with (first | ((with_reducible refine gate_dst (N := 184) rfl ?_); refine Kd.R_append kRd (w0 := w) w.heap.size rfl (.tmp 181) (.tmp 183) 23 40 (.agg #[.int .i64 0, .int .i64 0, .int .i64 0]) 24 rfl Try.underlying23 infoRd rfl (by decide) (by omega) (.slice rA L lc) R x [.int .i64 x.1, .int .i64 x.2.1, .int .i64 x.2.2] (fun _ => True) (fun _ => False) rfl rfl (kRd_mk _ _ _ x) (fun _ hk => hk.elim) (fun _ _ => trivial) HBE5.out.row HBE5.out.below HBE5.out.below.size (by have := HL.out; have := HI.out; have := HPN.out; have := HLN.out; omega) ?_; intro v8 w8 ho hb8 hg8 hat; obtain ⟨A8, c8, e8⟩ := Kd.R_slice ho; rw [← HL8.out] at e8; have HBE8 := Aside0.mk (HBE5.out.app ho hb8 hg8 hat); have HTH8 := Aside0.mk (HTH5.out.grown hg8 (ty_ne HBE5.out.row HTH5.out.t (by decide)) (ty_ne HBE5.out.row HTH5.out.r (by decide)) (ty_ne HBE5.out.row HTH5.out.n (by decide))); subst e8; clear ho hb8 hg8 hat HBE5 HTH5 HXB5 hx0 hx1 hx2 hn1; have hcn1 := (blk_cell HTH8.out.n 1).trans rfl; have hfn1 := blk_frozen HTH8.out.n 1) | ((with_reducible refine gate_upon ?_); go_simp))
                  go_roundg gk2
                  case measure => first | exact Nat.lt_succ_self _ | omega
                  case rel => exact ⟨i + 1, F5, R ++ [x], A8, L8, c8, o2, rfl, rfl, by first | rfl | (simp; done) | (rw [hwi]; rfl), HI1, ⟨HL8.out, by rw [HL8.out, List.length_append, List.length_singleton, ← HL.out.1]; have := HL.out.2; omega⟩, ⟨HBE8.out.box (d := kRd) flatRd (gn := gn) (i := 1) (.slice A8 L8 c8) HTH8.out.fn (ty_ne HBE8.out.row HTH8.out.n (by decide)) (by have := HGN.out; omega)⟩, ⟨HTH8.out.set (by have := HGN.out; omega) (by have := HGN.out; omega) 1 (.slice A8 L8 c8)⟩, HNR2⟩
                | false =>
                 as_aux_lemma =>
                  obtain ⟨he0, ho⟩ : (ev == 0) = false ∧ o2 = out := by
                    rcases hmr with ⟨q0, _, _⟩ | ⟨_, q1, q2⟩
                    · have h1 := HMP.out; rw [q0] at h1; cases h1
                    · exact ⟨by rw [beq_eq_false_iff_ne]; exact q1, q2⟩
                  subst ho
                  clear hmr
                  have hwi := HWI.out
                  go_wp2_with (first | fail | ((with_reducible refine gate_upon ?_); go_simp))
                  refine HND.out.mono ?_
                  rintro e w5 ⟨rfl, F5, hn5, hc5, hf5⟩
                  have HBE5 := Aside0.mk (HBE.out.laid (d := kRd) flatRd hn5 hc5 hf5)
                  have HTH5 := Aside0.mk (HTH.out.laid hc5 hf5)
                  clear hn5 hc5 hf5 HND HBE HTH HXB hx0 hx1 hx2 hn1
                  go_wp2_with (first | fail | ((with_reducible refine gate_upon ?_); go_simp))
                  go_roundg gk2
                  case measure => first | exact Nat.lt_succ_self _ | omega
                  case rel => exact ⟨i + 1, F5, R, rA, L, lc, o2, rfl, rfl, by first | rfl | (simp; done) | (rw [hwi]; rfl), HI1, ⟨HL.out.1, Nat.le_succ_of_le HL.out.2⟩, HBE5, HTH5, HNR⟩
              | succ gk3 =>
               as_aux_lemma =>
                have hkl : k < L := by have := HK.out; omega
                have hlt : decide (k < L) = true := decide_eq_true hkl
                have hltk : (k : Int) < L := by omega
                have HK1 : Aside0 (k + 1 + gk3 = L) := ⟨by have := HK.out; omega⟩
                have HWK : Aside0 (wrap64 ((k : Int) + 1) = (k : Int) + 1) := ⟨by unfold wrap64; have := HK.out; have := HL.out; have := HI.out; have := HPN.out; have := HLN.out; omega⟩
                obtain ⟨ra, y, hra, hly, hcy⟩ := rd_at (Kd.R_reads' HBE.out.row).2.2 rfl (j := k) (by rw [← HL.out.1]; exact hkl)
                have HLY := Aside0.mk hly
                obtain ⟨qy0, qy1, -⟩ := hcy wr (Below.refl _ _)
                subst hra
                clear hly hcy
                cases b with
                | false =>
                  go_wp2_with ((with_reducible refine gate_upon ?_); go_simp)
                  refine start_ (n := 24) (S := fun w' => w'.cell? ⟨gn, 1, none⟩ = some (.slice (some ra) L lc) ∧ w'.cell? (ra.add (k * 3)) = some (.int .i64 y.1) ∧ w'.cell? ⟨(ra.add (k * 3)).block, (ra.add (k * 3)).off + 1, none⟩ = some (.int .i64 y.2.1) ∧ w'.cell? ⟨gx, 0, none⟩ = some (.int .i64 x.1) ∧ w'.cell? ⟨gx, 1, none⟩ = some (.int .i64 x.2.1)) (ds := []) #[ff,ff,ff,ff,ff,ff,ff,ff,ff,ff,ff,ff,ff,ff,ff,ff,ff,ff,ff,ff,ff,ff,ff,ff] (by kernel_rfl) rfl rfl ⟨hn1, qy0, qy1, hx0, hx1⟩ (fun hHeld => ?_)
                  refine with_tabW laid.tab28 laid.bits28 (fun HT_ HW_ => ?_)
                  have HBE4 := Aside0.mk (HBE.out.step (below_drew1 (Below.refl wr.heap.size wr)))
                  have HTH4 := Aside0.mk (HTH.out.step (below_drew1 (Below.refl wr.heap.size wr)))
                  have HXB4 : Aside0 (wr.drew.heap[gx]? = _) := ⟨HXB.out⟩
                  clear HTH HBE HXB
                  try clear hn1 hx0 hx1 qy0 qy1
                  generalize wr.drew = w4 at HBE4 HTH4 HXB4 hHeld ⊢
                  refine pure_ (i := 0) (N := some 144) (v := ?_) (a' := ?_) #[tt,ff,ff,ff,ff,ff,ff,ff,ff,ff,ff,ff,ff,ff,ff,ff,ff,ff,ff,ff,ff,ff,ff,ff] rfl rfl (any_of HT_.out (by kernel_rfl)) (fun _ _ _ h => h) (Or.inl ⟨by rfl, ?_⟩) ?_ ?_
                  rotate_left; exact slv; rotate_left; exact sla
                  refine pure_ (i := 1) (N := some 145) (v := ?_) (a' := ?_) #[tt,tt,ff,ff,ff,ff,ff,ff,ff,ff,ff,ff,ff,ff,ff,ff,ff,ff,ff,ff,ff,ff,ff,ff] rfl rfl (any_of HT_.out (by kernel_rfl)) (fun _ _ _ h => h) (Or.inl ⟨by rfl, ?_⟩) ?_ ?_
                  rotate_left; exact slv; rotate_left; exact sla
                  refine pure_ (i := 2) (N := some 146) (v := undef) (a' := ?_) #[tt,tt,tt,ff,ff,ff,ff,ff,ff,ff,ff,ff,ff,ff,ff,ff,ff,ff,ff,ff,ff,ff,ff,ff] rfl rfl (any_of HT_.out (by kernel_rfl)) (fun _ _ _ h => h) (Or.inr ⟨by rfl, rfl⟩) ?_ ?_
                  rotate_left
                  · exact sla
                  refine pure_ (i := 3) (N := some 147) (v := undef) (a' := ?_) #[tt,tt,tt,tt,ff,ff,ff,ff,ff,ff,ff,ff,ff,ff,ff,ff,ff,ff,ff,ff,ff,ff,ff,ff] rfl rfl (any_of HT_.out (by kernel_rfl)) (fun _ _ _ h => h) (Or.inr ⟨by rfl, rfl⟩) ?_ ?_
                  rotate_left
                  · exact sla
                  refine pure_ (i := 4) (N := some 148) (v := undef) (a' := ?_) #[tt,tt,tt,tt,tt,ff,ff,ff,ff,ff,ff,ff,ff,ff,ff,ff,ff,ff,ff,ff,ff,ff,ff,ff] rfl rfl (any_of HT_.out (by kernel_rfl)) (fun _ _ _ h => h) (Or.inr ⟨by rfl, rfl⟩) ?_ ?_
                  rotate_left
                  · exact sla
                  refine pure_ (i := 5) (N := some 149) (v := undef) (a' := ?_) #[tt,tt,tt,tt,tt,tt,ff,ff,ff,ff,ff,ff,ff,ff,ff,ff,ff,ff,ff,ff,ff,ff,ff,ff] rfl rfl (any_of HT_.out (by kernel_rfl)) (fun _ _ _ h => h) (Or.inr ⟨by rfl, rfl⟩) ?_ ?_
                  rotate_left
                  · exact sla
                  refine pure_ (i := 6) (N := some 150) (v := undef) (a' := ?_) #[tt,tt,tt,tt,tt,tt,tt,ff,ff,ff,ff,ff,ff,ff,ff,ff,ff,ff,ff,ff,ff,ff,ff,ff] rfl rfl (any_of HT_.out (by kernel_rfl)) (fun _ _ _ h => h) (Or.inr ⟨by rfl, rfl⟩) ?_ ?_
                  rotate_left
                  · exact sla
                  refine pure_ (i := 7) (N := some 151) (v := undef) (a' := ?_) #[tt,tt,tt,tt,tt,tt,tt,tt,ff,ff,ff,ff,ff,ff,ff,ff,ff,ff,ff,ff,ff,ff,ff,ff] rfl rfl (any_of HT_.out (by kernel_rfl)) (fun _ _ _ h => h) (Or.inr ⟨by rfl, rfl⟩) ?_ ?_
                  rotate_left
                  · exact sla
                  refine pure_ (i := 8) (N := some 152) (v := undef) (a' := ?_) #[tt,tt,tt,tt,tt,tt,tt,tt,tt,ff,ff,ff,ff,ff,ff,ff,ff,ff,ff,ff,ff,ff,ff,ff] rfl rfl (any_of HT_.out (by kernel_rfl)) (fun _ _ _ h => h) (Or.inr ⟨by rfl, rfl⟩) ?_ ?_
                  rotate_left
                  · exact sla
                  refine pure_ (i := 9) (N := some 153) (v := undef) (a' := ?_) #[tt,tt,tt,tt,tt,tt,tt,tt,tt,tt,ff,ff,ff,ff,ff,ff,ff,ff,ff,ff,ff,ff,ff,ff] rfl rfl (any_of HT_.out (by kernel_rfl)) (fun _ _ _ h => h) (Or.inr ⟨by rfl, rfl⟩) ?_ ?_
                  rotate_left
                  · exact sla
                  refine pure_ (i := 10) (N := some 154) (v := undef) (a' := ?_) #[tt,tt,tt,tt,tt,tt,tt,tt,tt,tt,tt,ff,ff,ff,ff,ff,ff,ff,ff,ff,ff,ff,ff,ff] rfl rfl (any_of HT_.out (by kernel_rfl)) (fun _ _ _ h => h) (Or.inr ⟨by rfl, rfl⟩) ?_ ?_
                  rotate_left
                  · exact sla
                  refine pure_ (i := 11) (N := some 155) (v := undef) (a' := ?_) #[tt,tt,tt,tt,tt,tt,tt,tt,tt,tt,tt,tt,ff,ff,ff,ff,ff,ff,ff,ff,ff,ff,ff,ff] rfl rfl (any_of HT_.out (by kernel_rfl)) (fun _ _ _ h => h) (Or.inr ⟨by rfl, rfl⟩) ?_ ?_
                  rotate_left
                  · exact sla
                  refine pure_ (i := 12) (N := some 156) (v := undef) (a' := ?_) #[tt,tt,tt,tt,tt,tt,tt,tt,tt,tt,tt,tt,tt,ff,ff,ff,ff,ff,ff,ff,ff,ff,ff,ff] rfl rfl (any_of HT_.out (by kernel_rfl)) (fun _ _ _ h => h) (Or.inr ⟨by rfl, rfl⟩) ?_ ?_
                  rotate_left
                  · exact sla
                  refine pure_ (i := 13) (N := some 157) (v := undef) (a' := ?_) #[tt,tt,tt,tt,tt,tt,tt,tt,tt,tt,tt,tt,tt,tt,ff,ff,ff,ff,ff,ff,ff,ff,ff,ff] rfl rfl (any_of HT_.out (by kernel_rfl)) (fun _ _ _ h => h) (Or.inr ⟨by rfl, rfl⟩) ?_ ?_
                  rotate_left
                  · exact sla
                  refine pure_ (i := 14) (N := some 158) (v := undef) (a' := ?_) #[tt,tt,tt,tt,tt,tt,tt,tt,tt,tt,tt,tt,tt,tt,tt,ff,ff,ff,ff,ff,ff,ff,ff,ff] rfl rfl (any_of HT_.out (by kernel_rfl)) (fun _ _ _ h => h) (Or.inr ⟨by rfl, rfl⟩) ?_ ?_
                  rotate_left
                  · exact sla
                  refine pure_ (i := 15) (N := some 159) (v := undef) (a' := ?_) #[tt,tt,tt,tt,tt,tt,tt,tt,tt,tt,tt,tt,tt,tt,tt,tt,ff,ff,ff,ff,ff,ff,ff,ff] rfl rfl (any_of HT_.out (by kernel_rfl)) (fun _ _ _ h => h) (Or.inr ⟨by rfl, rfl⟩) ?_ ?_
                  rotate_left
                  · exact sla
                  refine pure_ (i := 16) (N := some 160) (v := undef) (a' := ?_) #[tt,tt,tt,tt,tt,tt,tt,tt,tt,tt,tt,tt,tt,tt,tt,tt,tt,ff,ff,ff,ff,ff,ff,ff] rfl rfl (any_of HT_.out (by kernel_rfl)) (fun _ _ _ h => h) (Or.inr ⟨by rfl, rfl⟩) ?_ ?_
                  rotate_left
                  · exact sla
                  refine pure_ (i := 17) (N := some 161) (v := undef) (a' := ?_) #[tt,tt,tt,tt,tt,tt,tt,tt,tt,tt,tt,tt,tt,tt,tt,tt,tt,tt,ff,ff,ff,ff,ff,ff] rfl rfl (any_of HT_.out (by kernel_rfl)) (fun _ _ _ h => h) (Or.inr ⟨by rfl, rfl⟩) ?_ ?_
                  rotate_left
                  · exact sla
                  refine pure_ (i := 18) (N := some 162) (v := undef) (a' := ?_) #[tt,tt,tt,tt,tt,tt,tt,tt,tt,tt,tt,tt,tt,tt,tt,tt,tt,tt,tt,ff,ff,ff,ff,ff] rfl rfl (any_of HT_.out (by kernel_rfl)) (fun _ _ _ h => h) (Or.inr ⟨by rfl, rfl⟩) ?_ ?_
                  rotate_left
                  · exact sla
                  refine pure_ (i := 19) (N := some 163) (v := undef) (a' := ?_) #[tt,tt,tt,tt,tt,tt,tt,tt,tt,tt,tt,tt,tt,tt,tt,tt,tt,tt,tt,tt,ff,ff,ff,ff] rfl rfl (any_of HT_.out (by kernel_rfl)) (fun _ _ _ h => h) (Or.inr ⟨by rfl, rfl⟩) ?_ ?_
                  rotate_left
                  · exact sla
                  refine pure_ (i := 20) (N := some 164) (v := undef) (a' := ?_) #[tt,tt,tt,tt,tt,tt,tt,tt,tt,tt,tt,tt,tt,tt,tt,tt,tt,tt,tt,tt,tt,ff,ff,ff] rfl rfl (any_of HT_.out (by kernel_rfl)) (fun _ _ _ h => h) (Or.inr ⟨by rfl, rfl⟩) ?_ ?_
                  rotate_left
                  · exact sla
                  refine pure_ (i := 21) (N := some 165) (v := undef) (a' := ?_) #[tt,tt,tt,tt,tt,tt,tt,tt,tt,tt,tt,tt,tt,tt,tt,tt,tt,tt,tt,tt,tt,tt,ff,ff] rfl rfl (any_of HT_.out (by kernel_rfl)) (fun _ _ _ h => h) (Or.inr ⟨by rfl, rfl⟩) ?_ ?_
                  rotate_left
                  · exact sla
                  refine pure_ (i := 22) (N := some 166) (v := ?_) (a' := ?_) #[tt,tt,tt,tt,tt,tt,tt,tt,tt,tt,tt,tt,tt,tt,tt,tt,tt,tt,tt,tt,tt,tt,tt,ff] rfl rfl (any_of HT_.out (by kernel_rfl)) (fun _ _ _ h => h) (Or.inl ⟨by rfl, ?_⟩) ?_ ?_
                  rotate_left; exact slv; rotate_left; exact sla
                  refine pure_ (i := 23) (N := some 15) (v := ?_) (a' := ?_) #[tt,tt,tt,tt,tt,tt,tt,tt,tt,tt,tt,tt,tt,tt,tt,tt,tt,tt,tt,tt,tt,tt,tt,tt] rfl rfl (any_of HT_.out (by kernel_rfl)) (fun _ _ _ h => h) (Or.inl ⟨by rfl, ?_⟩) ?_ ?_
                  rotate_left; exact slv; rotate_left; exact sla
                  refine done_ (done_of HT_.out (by kernel_rfl)) ?_
                  try clear hHeld
                  have hwk := HWK.out
                  go_wp2
                  go_roundg gk3
                  case measure => first | exact Nat.lt_succ_self _ | omega
                  case rel => exact ⟨k + 1, false, by first | rfl | (simp; done), by first | rfl | (simp; done) | (rw [hwk]; rfl), HK1, ⟨mayK_stays HMK.out⟩, HBE4, HTH4, HXB4⟩
                | true =>
                  by_cases e1 : y.1 = x.1
                  · have d1 : (y.1 != x.1) = false := by rw [bne_eq_false_iff_eq]; exact e1
                    by_cases e2 : y.2.1 = x.2.1
                    · have d2 : (y.2.1 != x.2.1) = false := by rw [bne_eq_false_iff_eq]; exact e2
                      have HE : Aside0 (¬ (y.1 ≠ x.1 ∨ y.2.1 ≠ x.2.1)) := ⟨fun q => q.elim (fun q => q e1) (fun q => q e2)⟩
                      clear e1 e2
                      go_wp2_with ((with_reducible refine gate_upon ?_); go_simp)
                      refine start_ (n := 24) (S := fun w' => w'.cell? ⟨gn, 1, none⟩ = some (.slice (some ra) L lc) ∧ w'.cell? (ra.add (k * 3)) = some (.int .i64 y.1) ∧ w'.cell? ⟨(ra.add (k * 3)).block, (ra.add (k * 3)).off + 1, none⟩ = some (.int .i64 y.2.1) ∧ w'.cell? ⟨gx, 0, none⟩ = some (.int .i64 x.1) ∧ w'.cell? ⟨gx, 1, none⟩ = some (.int .i64 x.2.1)) (ds := []) #[ff,ff,ff,ff,ff,ff,ff,ff,ff,ff,ff,ff,ff,ff,ff,ff,ff,ff,ff,ff,ff,ff,ff,ff] (by kernel_rfl) rfl rfl ⟨hn1, qy0, qy1, hx0, hx1⟩ (fun hHeld => ?_)
                      refine with_tabW laid.tab28 laid.bits28 (fun HT_ HW_ => ?_)
                      have HBE4 := Aside0.mk (HBE.out.step (below_drew1 (Below.refl wr.heap.size wr)))
                      have HTH4 := Aside0.mk (HTH.out.step (below_drew1 (Below.refl wr.heap.size wr)))
                      have HXB4 : Aside0 (wr.drew.heap[gx]? = _) := ⟨HXB.out⟩
                      clear HTH HBE HXB
                      try clear hn1 hx0 hx1 qy0 qy1
                      generalize wr.drew = w4 at HBE4 HTH4 HXB4 hHeld ⊢
                      refine pure_ (i := 0) (N := some 144) (v := ?_) (a' := ?_) #[tt,ff,ff,ff,ff,ff,ff,ff,ff,ff,ff,ff,ff,ff,ff,ff,ff,ff,ff,ff,ff,ff,ff,ff] rfl rfl (any_of HT_.out (by kernel_rfl)) (fun _ _ _ h => h) (Or.inl ⟨by rfl, ?_⟩) ?_ ?_
                      rotate_left; exact slv; rotate_left; exact sla
                      refine pure_ (i := 1) (N := some 145) (v := ?_) (a' := ?_) #[tt,tt,ff,ff,ff,ff,ff,ff,ff,ff,ff,ff,ff,ff,ff,ff,ff,ff,ff,ff,ff,ff,ff,ff] rfl rfl (any_of HT_.out (by kernel_rfl)) (fun _ _ _ h => h) (Or.inl ⟨by rfl, ?_⟩) ?_ ?_
                      rotate_left; exact slv; rotate_left; exact sla
                      refine pure_ (i := 2) (N := some 146) (v := ?_) (a' := ?_) #[tt,tt,tt,ff,ff,ff,ff,ff,ff,ff,ff,ff,ff,ff,ff,ff,ff,ff,ff,ff,ff,ff,ff,ff] rfl rfl (any_of HT_.out (by kernel_rfl)) (fun _ _ _ h => h) (Or.inl ⟨by rfl, ?_⟩) ?_ ?_
                      rotate_left; exact slv; rotate_left; exact sla
                      refine pure_ (i := 4) (N := some 148) (v := ?_) (a' := ?_) #[tt,tt,tt,ff,tt,ff,ff,ff,ff,ff,ff,ff,ff,ff,ff,ff,ff,ff,ff,ff,ff,ff,ff,ff] rfl rfl (any_of HT_.out (by kernel_rfl)) (fun _ _ _ h => h) (Or.inl ⟨by rfl, ?_⟩) ?_ ?_
                      rotate_left; exact slv; rotate_left; exact sla
                      refine pure_ (i := 8) (N := some 152) (v := ?_) (a' := ?_) #[tt,tt,tt,ff,tt,ff,ff,ff,tt,ff,ff,ff,ff,ff,ff,ff,ff,ff,ff,ff,ff,ff,ff,ff] rfl rfl (any_of HT_.out (by kernel_rfl)) (fun _ _ _ h => h) (Or.inl ⟨by rfl, ?_⟩) ?_ ?_
                      rotate_left; exact slv; rotate_left; exact sla
                      refine take_ (i := 3) (N := some 147) (v := ?_) (a' := ?_) #[tt,tt,tt,tt,tt,ff,ff,ff,tt,ff,ff,ff,ff,ff,ff,ff,ff,ff,ff,ff,ff,ff,ff,ff] rfl rfl (take_ofW HT_.out HW_.out (by kernel_rfl)) (fun _ _ _ h => h) (Or.inl ⟨by rfl, ?_⟩) hHeld ?_ ?_
                      rotate_left; exact slt5; rotate_left; exact sla
                      refine pure_ (i := 5) (N := some 149) (v := ?_) (a' := ?_) #[tt,tt,tt,tt,tt,tt,ff,ff,tt,ff,ff,ff,ff,ff,ff,ff,ff,ff,ff,ff,ff,ff,ff,ff] rfl rfl (any_of HT_.out (by kernel_rfl)) (fun _ _ _ h => h) (Or.inl ⟨by rfl, ?_⟩) ?_ ?_
                      rotate_left; exact slv; rotate_left; exact sla
                      refine pure_ (i := 6) (N := some 150) (v := ?_) (a' := ?_) #[tt,tt,tt,tt,tt,tt,tt,ff,tt,ff,ff,ff,ff,ff,ff,ff,ff,ff,ff,ff,ff,ff,ff,ff] rfl rfl (any_of HT_.out (by kernel_rfl)) (fun _ _ _ h => h) (Or.inl ⟨by rfl, ?_⟩) ?_ ?_
                      rotate_left; exact slv; rotate_left; exact sla
                      refine take_ (i := 7) (N := some 151) (v := ?_) (a' := ?_) #[tt,tt,tt,tt,tt,tt,tt,tt,tt,ff,ff,ff,ff,ff,ff,ff,ff,ff,ff,ff,ff,ff,ff,ff] rfl rfl (take_ofW HT_.out HW_.out (by kernel_rfl)) (fun _ _ _ h => h) (Or.inl ⟨by rfl, ?_⟩) hHeld ?_ ?_
                      rotate_left; exact slt5; rotate_left; exact sla
                      refine take_ (i := 9) (N := some 153) (v := ?_) (a' := ?_) #[tt,tt,tt,tt,tt,tt,tt,tt,tt,tt,ff,ff,ff,ff,ff,ff,ff,ff,ff,ff,ff,ff,ff,ff] rfl rfl (take_ofW HT_.out HW_.out (by kernel_rfl)) (fun _ _ _ h => h) (Or.inl ⟨by rfl, ?_⟩) hHeld ?_ ?_
                      rotate_left; exact slt5; rotate_left; exact sla
                      refine pure_ (i := 10) (N := some 154) (v := ?_) (a' := ?_) #[tt,tt,tt,tt,tt,tt,tt,tt,tt,tt,tt,ff,ff,ff,ff,ff,ff,ff,ff,ff,ff,ff,ff,ff] rfl rfl (any_of HT_.out (by kernel_rfl)) (fun _ _ _ h => h) (Or.inl ⟨by rfl, ?_⟩) ?_ ?_
                      rotate_left; exact slv; rotate_left; exact sla
                      refine pure_ (i := 11) (N := some 155) (v := ?_) (a' := ?_) #[tt,tt,tt,tt,tt,tt,tt,tt,tt,tt,tt,tt,ff,ff,ff,ff,ff,ff,ff,ff,ff,ff,ff,ff] rfl rfl (any_of HT_.out (by kernel_rfl)) (fun _ _ _ h => h) (Or.inl ⟨by rfl, ?_⟩) ?_ ?_
                      rotate_left; exact slv; rotate_left; exact sla
                      refine pure_ (i := 12) (N := some 156) (v := ?_) (a' := ?_) #[tt,tt,tt,tt,tt,tt,tt,tt,tt,tt,tt,tt,tt,ff,ff,ff,ff,ff,ff,ff,ff,ff,ff,ff] rfl rfl (any_of HT_.out (by kernel_rfl)) (fun _ _ _ h => h) (Or.inl ⟨by rfl, ?_⟩) ?_ ?_
                      rotate_left; exact slv; rotate_left; exact sla
                      refine pure_ (i := 14) (N := some 158) (v := ?_) (a' := ?_) #[tt,tt,tt,tt,tt,tt,tt,tt,tt,tt,tt,tt,tt,ff,tt,ff,ff,ff,ff,ff,ff,ff,ff,ff] rfl rfl (any_of HT_.out (by kernel_rfl)) (fun _ _ _ h => h) (Or.inl ⟨by rfl, ?_⟩) ?_ ?_
                      rotate_left; exact slv; rotate_left; exact sla
                      refine pure_ (i := 18) (N := some 162) (v := ?_) (a' := ?_) #[tt,tt,tt,tt,tt,tt,tt,tt,tt,tt,tt,tt,tt,ff,tt,ff,ff,ff,tt,ff,ff,ff,ff,ff] rfl rfl (any_of HT_.out (by kernel_rfl)) (fun _ _ _ h => h) (Or.inl ⟨by rfl, ?_⟩) ?_ ?_
                      rotate_left; exact slv; rotate_left; exact sla
                      refine take_ (i := 13) (N := some 157) (v := ?_) (a' := ?_) #[tt,tt,tt,tt,tt,tt,tt,tt,tt,tt,tt,tt,tt,tt,tt,ff,ff,ff,tt,ff,ff,ff,ff,ff] rfl rfl (take_ofW HT_.out HW_.out (by kernel_rfl)) (fun _ _ _ h => h) (Or.inl ⟨by rfl, ?_⟩) hHeld ?_ ?_
                      rotate_left; exact slt5; rotate_left; exact sla
                      refine pure_ (i := 15) (N := some 159) (v := ?_) (a' := ?_) #[tt,tt,tt,tt,tt,tt,tt,tt,tt,tt,tt,tt,tt,tt,tt,tt,ff,ff,tt,ff,ff,ff,ff,ff] rfl rfl (any_of HT_.out (by kernel_rfl)) (fun _ _ _ h => h) (Or.inl ⟨by rfl, ?_⟩) ?_ ?_
                      rotate_left; exact slv; rotate_left; exact sla
                      refine pure_ (i := 16) (N := some 160) (v := ?_) (a' := ?_) #[tt,tt,tt,tt,tt,tt,tt,tt,tt,tt,tt,tt,tt,tt,tt,tt,tt,ff,tt,ff,ff,ff,ff,ff] rfl rfl (any_of HT_.out (by kernel_rfl)) (fun _ _ _ h => h) (Or.inl ⟨by rfl, ?_⟩) ?_ ?_
                      rotate_left; exact slv; rotate_left; exact sla
                      refine take_ (i := 17) (N := some 161) (v := ?_) (a' := ?_) #[tt,tt,tt,tt,tt,tt,tt,tt,tt,tt,tt,tt,tt,tt,tt,tt,tt,tt,tt,ff,ff,ff,ff,ff] rfl rfl (take_ofW HT_.out HW_.out (by kernel_rfl)) (fun _ _ _ h => h) (Or.inl ⟨by rfl, ?_⟩) hHeld ?_ ?_
                      rotate_left; exact slt5; rotate_left; exact sla
                      refine take_ (i := 19) (N := some 163) (v := ?_) (a' := ?_) #[tt,tt,tt,tt,tt,tt,tt,tt,tt,tt,tt,tt,tt,tt,tt,tt,tt,tt,tt,tt,ff,ff,ff,ff] rfl rfl (take_ofW HT_.out HW_.out (by kernel_rfl)) (fun _ _ _ h => h) (Or.inl ⟨by rfl, ?_⟩) hHeld ?_ ?_
                      rotate_left; exact slt5; rotate_left; exact sla
                      refine pure_ (i := 20) (N := some 164) (v := ?_) (a' := ?_) #[tt,tt,tt,tt,tt,tt,tt,tt,tt,tt,tt,tt,tt,tt,tt,tt,tt,tt,tt,tt,tt,ff,ff,ff] rfl rfl (any_of HT_.out (by kernel_rfl)) (fun _ _ _ h => h) (Or.inl ⟨by rfl, ?_⟩) ?_ ?_
                      rotate_left; exact slv; rotate_left; exact sla
                      refine pure_ (i := 21) (N := some 165) (v := ?_) (a' := ?_) #[tt,tt,tt,tt,tt,tt,tt,tt,tt,tt,tt,tt,tt,tt,tt,tt,tt,tt,tt,tt,tt,tt,ff,ff] rfl rfl (any_of HT_.out (by kernel_rfl)) (fun _ _ _ h => h) (Or.inl ⟨by rfl, ?_⟩) ?_ ?_
                      rotate_left; exact slv; rotate_left; exact sla
                      refine pure_ (i := 22) (N := some 166) (v := ?_) (a' := ?_) #[tt,tt,tt,tt,tt,tt,tt,tt,tt,tt,tt,tt,tt,tt,tt,tt,tt,tt,tt,tt,tt,tt,tt,ff] rfl rfl (any_of HT_.out (by kernel_rfl)) (fun _ _ _ h => h) (Or.inl ⟨by rfl, ?_⟩) ?_ ?_
                      rotate_left; exact slv; rotate_left; exact sla
                      refine pure_ (i := 23) (N := some 15) (v := ?_) (a' := ?_) #[tt,tt,tt,tt,tt,tt,tt,tt,tt,tt,tt,tt,tt,tt,tt,tt,tt,tt,tt,tt,tt,tt,tt,tt] rfl rfl (any_of HT_.out (by kernel_rfl)) (fun _ _ _ h => h) (Or.inl ⟨by rfl, ?_⟩) ?_ ?_
                      rotate_left; exact slv; rotate_left; exact sla
                      refine done_ (done_of HT_.out (by kernel_rfl)) ?_
                      try clear hHeld
                      have hwk := HWK.out
                      go_wp2
                      go_roundg gk3
                      case measure => first | exact Nat.lt_succ_self _ | omega
                      case rel => exact ⟨k + 1, false, by first | rfl | (simp; done) | (simp [d1, d2]; done), by first | rfl | (simp; done) | (rw [hwk]; rfl), HK1, ⟨mayK_hit HLY.out HE.out⟩, HBE4, HTH4, HXB4⟩
                    · have d2 : (y.2.1 != x.2.1) = true := by rw [bne_iff_ne]; exact e2
                      have HE : Aside0 (y.1 ≠ x.1 ∨ y.2.1 ≠ x.2.1) := ⟨Or.inr e2⟩
                      clear e1 e2
                      go_wp2_with ((with_reducible refine gate_upon ?_); go_simp)
                      refine start_ (n := 24) (S := fun w' => w'.cell? ⟨gn, 1, none⟩ = some (.slice (some ra) L lc) ∧ w'.cell? (ra.add (k * 3)) = some (.int .i64 y.1) ∧ w'.cell? ⟨(ra.add (k * 3)).block, (ra.add (k * 3)).off + 1, none⟩ = some (.int .i64 y.2.1) ∧ w'.cell? ⟨gx, 0, none⟩ = some (.int .i64 x.1) ∧ w'.cell? ⟨gx, 1, none⟩ = some (.int .i64 x.2.1)) (ds := []) #[ff,ff,ff,ff,ff,ff,ff,ff,ff,ff,ff,ff,ff,ff,ff,ff,ff,ff,ff,ff,ff,ff,ff,ff] (by kernel_rfl) rfl rfl ⟨hn1, qy0, qy1, hx0, hx1⟩ (fun hHeld => ?_)
                      refine with_tabW laid.tab28 laid.bits28 (fun HT_ HW_ => ?_)
                      have HBE4 := Aside0.mk (HBE.out.step (below_drew1 (Below.refl wr.heap.size wr)))
                      have HTH4 := Aside0.mk (HTH.out.step (below_drew1 (Below.refl wr.heap.size wr)))
                      have HXB4 : Aside0 (wr.drew.heap[gx]? = _) := ⟨HXB.out⟩
                      clear HTH HBE HXB
                      try clear hn1 hx0 hx1 qy0 qy1
                      generalize wr.drew = w4 at HBE4 HTH4 HXB4 hHeld ⊢
                      refine pure_ (i := 0) (N := some 144) (v := ?_) (a' := ?_) #[tt,ff,ff,ff,ff,ff,ff,ff,ff,ff,ff,ff,ff,ff,ff,ff,ff,ff,ff,ff,ff,ff,ff,ff] rfl rfl (any_of HT_.out (by kernel_rfl)) (fun _ _ _ h => h) (Or.inl ⟨by rfl, ?_⟩) ?_ ?_
                      rotate_left; exact slv; rotate_left; exact sla
                      refine pure_ (i := 1) (N := some 145) (v := ?_) (a' := ?_) #[tt,tt,ff,ff,ff,ff,ff,ff,ff,ff,ff,ff,ff,ff,ff,ff,ff,ff,ff,ff,ff,ff,ff,ff] rfl rfl (any_of HT_.out (by kernel_rfl)) (fun _ _ _ h => h) (Or.inl ⟨by rfl, ?_⟩) ?_ ?_
                      rotate_left; exact slv; rotate_left; exact sla
                      refine pure_ (i := 2) (N := some 146) (v := ?_) (a' := ?_) #[tt,tt,tt,ff,ff,ff,ff,ff,ff,ff,ff,ff,ff,ff,ff,ff,ff,ff,ff,ff,ff,ff,ff,ff] rfl rfl (any_of HT_.out (by kernel_rfl)) (fun _ _ _ h => h) (Or.inl ⟨by rfl, ?_⟩) ?_ ?_
                      rotate_left; exact slv; rotate_left; exact sla
                      refine pure_ (i := 4) (N := some 148) (v := ?_) (a' := ?_) #[tt,tt,tt,ff,tt,ff,ff,ff,ff,ff,ff,ff,ff,ff,ff,ff,ff,ff,ff,ff,ff,ff,ff,ff] rfl rfl (any_of HT_.out (by kernel_rfl)) (fun _ _ _ h => h) (Or.inl ⟨by rfl, ?_⟩) ?_ ?_
                      rotate_left; exact slv; rotate_left; exact sla
                      refine pure_ (i := 8) (N := some 152) (v := ?_) (a' := ?_) #[tt,tt,tt,ff,tt,ff,ff,ff,tt,ff,ff,ff,ff,ff,ff,ff,ff,ff,ff,ff,ff,ff,ff,ff] rfl rfl (any_of HT_.out (by kernel_rfl)) (fun _ _ _ h => h) (Or.inl ⟨by rfl, ?_⟩) ?_ ?_
                      rotate_left; exact slv; rotate_left; exact sla
                      refine take_ (i := 3) (N := some 147) (v := ?_) (a' := ?_) #[tt,tt,tt,tt,tt,ff,ff,ff,tt,ff,ff,ff,ff,ff,ff,ff,ff,ff,ff,ff,ff,ff,ff,ff] rfl rfl (take_ofW HT_.out HW_.out (by kernel_rfl)) (fun _ _ _ h => h) (Or.inl ⟨by rfl, ?_⟩) hHeld ?_ ?_
                      rotate_left; exact slt5; rotate_left; exact sla
                      refine pure_ (i := 5) (N := some 149) (v := ?_) (a' := ?_) #[tt,tt,tt,tt,tt,tt,ff,ff,tt,ff,ff,ff,ff,ff,ff,ff,ff,ff,ff,ff,ff,ff,ff,ff] rfl rfl (any_of HT_.out (by kernel_rfl)) (fun _ _ _ h => h) (Or.inl ⟨by rfl, ?_⟩) ?_ ?_
                      rotate_left; exact slv; rotate_left; exact sla
                      refine pure_ (i := 6) (N := some 150) (v := ?_) (a' := ?_) #[tt,tt,tt,tt,tt,tt,tt,ff,tt,ff,ff,ff,ff,ff,ff,ff,ff,ff,ff,ff,ff,ff,ff,ff] rfl rfl (any_of HT_.out (by kernel_rfl)) (fun _ _ _ h => h) (Or.inl ⟨by rfl, ?_⟩) ?_ ?_
                      rotate_left; exact slv; rotate_left; exact sla
                      refine take_ (i := 7) (N := some 151) (v := ?_) (a' := ?_) #[tt,tt,tt,tt,tt,tt,tt,tt,tt,ff,ff,ff,ff,ff,ff,ff,ff,ff,ff,ff,ff,ff,ff,ff] rfl rfl (take_ofW HT_.out HW_.out (by kernel_rfl)) (fun _ _ _ h => h) (Or.inl ⟨by rfl, ?_⟩) hHeld ?_ ?_
                      rotate_left; exact slt5; rotate_left; exact sla
                      refine take_ (i := 9) (N := some 153) (v := ?_) (a' := ?_) #[tt,tt,tt,tt,tt,tt,tt,tt,tt,tt,ff,ff,ff,ff,ff,ff,ff,ff,ff,ff,ff,ff,ff,ff] rfl rfl (take_ofW HT_.out HW_.out (by kernel_rfl)) (fun _ _ _ h => h) (Or.inl ⟨by rfl, ?_⟩) hHeld ?_ ?_
                      rotate_left; exact slt5; rotate_left; exact sla
                      refine pure_ (i := 10) (N := some 154) (v := ?_) (a' := ?_) #[tt,tt,tt,tt,tt,tt,tt,tt,tt,tt,tt,ff,ff,ff,ff,ff,ff,ff,ff,ff,ff,ff,ff,ff] rfl rfl (any_of HT_.out (by kernel_rfl)) (fun _ _ _ h => h) (Or.inl ⟨by rfl, ?_⟩) ?_ ?_
                      rotate_left; exact slv; rotate_left; exact sla
                      refine pure_ (i := 11) (N := some 155) (v := ?_) (a' := ?_) #[tt,tt,tt,tt,tt,tt,tt,tt,tt,tt,tt,tt,ff,ff,ff,ff,ff,ff,ff,ff,ff,ff,ff,ff] rfl rfl (any_of HT_.out (by kernel_rfl)) (fun _ _ _ h => h) (Or.inl ⟨by rfl, ?_⟩) ?_ ?_
                      rotate_left; exact slv; rotate_left; exact sla
                      refine pure_ (i := 12) (N := some 156) (v := ?_) (a' := ?_) #[tt,tt,tt,tt,tt,tt,tt,tt,tt,tt,tt,tt,tt,ff,ff,ff,ff,ff,ff,ff,ff,ff,ff,ff] rfl rfl (any_of HT_.out (by kernel_rfl)) (fun _ _ _ h => h) (Or.inl ⟨by rfl, ?_⟩) ?_ ?_
                      rotate_left; exact slv; rotate_left; exact sla
                      refine pure_ (i := 14) (N := some 158) (v := ?_) (a' := ?_) #[tt,tt,tt,tt,tt,tt,tt,tt,tt,tt,tt,tt,tt,ff,tt,ff,ff,ff,ff,ff,ff,ff,ff,ff] rfl rfl (any_of HT_.out (by kernel_rfl)) (fun _ _ _ h => h) (Or.inl ⟨by rfl, ?_⟩) ?_ ?_
                      rotate_left; exact slv; rotate_left; exact sla
                      refine pure_ (i := 18) (N := some 162) (v := ?_) (a' := ?_) #[tt,tt,tt,tt,tt,tt,tt,tt,tt,tt,tt,tt,tt,ff,tt,ff,ff,ff,tt,ff,ff,ff,ff,ff] rfl rfl (any_of HT_.out (by kernel_rfl)) (fun _ _ _ h => h) (Or.inl ⟨by rfl, ?_⟩) ?_ ?_
                      rotate_left; exact slv; rotate_left; exact sla
                      refine take_ (i := 13) (N := some 157) (v := ?_) (a' := ?_) #[tt,tt,tt,tt,tt,tt,tt,tt,tt,tt,tt,tt,tt,tt,tt,ff,ff,ff,tt,ff,ff,ff,ff,ff] rfl rfl (take_ofW HT_.out HW_.out (by kernel_rfl)) (fun _ _ _ h => h) (Or.inl ⟨by rfl, ?_⟩) hHeld ?_ ?_
                      rotate_left; exact slt5; rotate_left; exact sla
                      refine pure_ (i := 15) (N := some 159) (v := ?_) (a' := ?_) #[tt,tt,tt,tt,tt,tt,tt,tt,tt,tt,tt,tt,tt,tt,tt,tt,ff,ff,tt,ff,ff,ff,ff,ff] rfl rfl (any_of HT_.out (by kernel_rfl)) (fun _ _ _ h => h) (Or.inl ⟨by rfl, ?_⟩) ?_ ?_
                      rotate_left; exact slv; rotate_left; exact sla
                      refine pure_ (i := 16) (N := some 160) (v := ?_) (a' := ?_) #[tt,tt,tt,tt,tt,tt,tt,tt,tt,tt,tt,tt,tt,tt,tt,tt,tt,ff,tt,ff,ff,ff,ff,ff] rfl rfl (any_of HT_.out (by kernel_rfl)) (fun _ _ _ h => h) (Or.inl ⟨by rfl, ?_⟩) ?_ ?_
                      rotate_left; exact slv; rotate_left; exact sla
                      refine take_ (i := 17) (N := some 161) (v := ?_) (a' := ?_) #[tt,tt,tt,tt,tt,tt,tt,tt,tt,tt,tt,tt,tt,tt,tt,tt,tt,tt,tt,ff,ff,ff,ff,ff] rfl rfl (take_ofW HT_.out HW_.out (by kernel_rfl)) (fun _ _ _ h => h) (Or.inl ⟨by rfl, ?_⟩) hHeld ?_ ?_
                      rotate_left; exact slt5; rotate_left; exact sla
                      refine take_ (i := 19) (N := some 163) (v := ?_) (a' := ?_) #[tt,tt,tt,tt,tt,tt,tt,tt,tt,tt,tt,tt,tt,tt,tt,tt,tt,tt,tt,tt,ff,ff,ff,ff] rfl rfl (take_ofW HT_.out HW_.out (by kernel_rfl)) (fun _ _ _ h => h) (Or.inl ⟨by rfl, ?_⟩) hHeld ?_ ?_
                      rotate_left; exact slt5; rotate_left; exact sla
                      refine pure_ (i := 20) (N := some 164) (v := ?_) (a' := ?_) #[tt,tt,tt,tt,tt,tt,tt,tt,tt,tt,tt,tt,tt,tt,tt,tt,tt,tt,tt,tt,tt,ff,ff,ff] rfl rfl (any_of HT_.out (by kernel_rfl)) (fun _ _ _ h => h) (Or.inl ⟨by rfl, ?_⟩) ?_ ?_
                      rotate_left; exact slv; rotate_left; exact sla
                      refine pure_ (i := 21) (N := some 165) (v := ?_) (a' := ?_) #[tt,tt,tt,tt,tt,tt,tt,tt,tt,tt,tt,tt,tt,tt,tt,tt,tt,tt,tt,tt,tt,tt,ff,ff] rfl rfl (any_of HT_.out (by kernel_rfl)) (fun _ _ _ h => h) (Or.inl ⟨by rfl, ?_⟩) ?_ ?_
                      rotate_left; exact slv; rotate_left; exact sla
                      refine pure_ (i := 22) (N := some 166) (v := ?_) (a' := ?_) #[tt,tt,tt,tt,tt,tt,tt,tt,tt,tt,tt,tt,tt,tt,tt,tt,tt,tt,tt,tt,tt,tt,tt,ff] rfl rfl (any_of HT_.out (by kernel_rfl)) (fun _ _ _ h => h) (Or.inl ⟨by rfl, ?_⟩) ?_ ?_
                      rotate_left; exact slv; rotate_left; exact sla
                      refine pure_ (i := 23) (N := some 15) (v := ?_) (a' := ?_) #[tt,tt,tt,tt,tt,tt,tt,tt,tt,tt,tt,tt,tt,tt,tt,tt,tt,tt,tt,tt,tt,tt,tt,tt] rfl rfl (any_of HT_.out (by kernel_rfl)) (fun _ _ _ h => h) (Or.inl ⟨by rfl, ?_⟩) ?_ ?_
                      rotate_left; exact slv; rotate_left; exact sla
                      refine done_ (done_of HT_.out (by kernel_rfl)) ?_
                      try clear hHeld
                      have hwk := HWK.out
                      go_wp2
                      go_roundg gk3
                      case measure => first | exact Nat.lt_succ_self _ | omega
                      case rel => exact ⟨k + 1, true, by first | rfl | (simp; done) | (simp [d1, d2]; done), by first | rfl | (simp; done) | (rw [hwk]; rfl), HK1, ⟨mayK_next HMK.out HLY.out HE.out⟩, HBE4, HTH4, HXB4⟩
                  · have d1 : (y.1 != x.1) = true := by rw [bne_iff_ne]; exact e1
                    have HE : Aside0 (y.1 ≠ x.1 ∨ y.2.1 ≠ x.2.1) := ⟨Or.inl e1⟩
                    clear e1
                    go_wp2_with ((with_reducible refine gate_upon ?_); go_simp)
                    refine start_ (n := 24) (S := fun w' => w'.cell? ⟨gn, 1, none⟩ = some (.slice (some ra) L lc) ∧ w'.cell? (ra.add (k * 3)) = some (.int .i64 y.1) ∧ w'.cell? ⟨(ra.add (k * 3)).block, (ra.add (k * 3)).off + 1, none⟩ = some (.int .i64 y.2.1) ∧ w'.cell? ⟨gx, 0, none⟩ = some (.int .i64 x.1) ∧ w'.cell? ⟨gx, 1, none⟩ = some (.int .i64 x.2.1)) (ds := []) #[ff,ff,ff,ff,ff,ff,ff,ff,ff,ff,ff,ff,ff,ff,ff,ff,ff,ff,ff,ff,ff,ff,ff,ff] (by kernel_rfl) rfl rfl ⟨hn1, qy0, qy1, hx0, hx1⟩ (fun hHeld => ?_)
                    refine with_tabW laid.tab28 laid.bits28 (fun HT_ HW_ => ?_)
                    have HBE4 := Aside0.mk (HBE.out.step (below_drew1 (Below.refl wr.heap.size wr)))
                    have HTH4 := Aside0.mk (HTH.out.step (below_drew1 (Below.refl wr.heap.size wr)))
                    have HXB4 : Aside0 (wr.drew.heap[gx]? = _) := ⟨HXB.out⟩
                    clear HTH HBE HXB
                    try clear hn1 hx0 hx1 qy0 qy1
                    generalize wr.drew = w4 at HBE4 HTH4 HXB4 hHeld ⊢
                    refine pure_ (i := 0) (N := some 144) (v := ?_) (a' := ?_) #[tt,ff,ff,ff,ff,ff,ff,ff,ff,ff,ff,ff,ff,ff,ff,ff,ff,ff,ff,ff,ff,ff,ff,ff] rfl rfl (any_of HT_.out (by kernel_rfl)) (fun _ _ _ h => h) (Or.inl ⟨by rfl, ?_⟩) ?_ ?_
                    rotate_left; exact slv; rotate_left; exact sla
                    refine pure_ (i := 1) (N := some 145) (v := ?_) (a' := ?_) #[tt,tt,ff,ff,ff,ff,ff,ff,ff,ff,ff,ff,ff,ff,ff,ff,ff,ff,ff,ff,ff,ff,ff,ff] rfl rfl (any_of HT_.out (by kernel_rfl)) (fun _ _ _ h => h) (Or.inl ⟨by rfl, ?_⟩) ?_ ?_
                    rotate_left; exact slv; rotate_left; exact sla
                    refine pure_ (i := 2) (N := some 146) (v := ?_) (a' := ?_) #[tt,tt,tt,ff,ff,ff,ff,ff,ff,ff,ff,ff,ff,ff,ff,ff,ff,ff,ff,ff,ff,ff,ff,ff] rfl rfl (any_of HT_.out (by kernel_rfl)) (fun _ _ _ h => h) (Or.inl ⟨by rfl, ?_⟩) ?_ ?_
                    rotate_left; exact slv; rotate_left; exact sla
                    refine pure_ (i := 4) (N := some 148) (v := ?_) (a' := ?_) #[tt,tt,tt,ff,tt,ff,ff,ff,ff,ff,ff,ff,ff,ff,ff,ff,ff,ff,ff,ff,ff,ff,ff,ff] rfl rfl (any_of HT_.out (by kernel_rfl)) (fun _ _ _ h => h) (Or.inl ⟨by rfl, ?_⟩) ?_ ?_
                    rotate_left; exact slv; rotate_left; exact sla
                    refine pure_ (i := 8) (N := some 152) (v := ?_) (a' := ?_) #[tt,tt,tt,ff,tt,ff,ff,ff,tt,ff,ff,ff,ff,ff,ff,ff,ff,ff,ff,ff,ff,ff,ff,ff] rfl rfl (any_of HT_.out (by kernel_rfl)) (fun _ _ _ h => h) (Or.inl ⟨by rfl, ?_⟩) ?_ ?_
                    rotate_left; exact slv; rotate_left; exact sla
                    refine take_ (i := 3) (N := some 147) (v := ?_) (a' := ?_) #[tt,tt,tt,tt,tt,ff,ff,ff,tt,ff,ff,ff,ff,ff,ff,ff,ff,ff,ff,ff,ff,ff,ff,ff] rfl rfl (take_ofW HT_.out HW_.out (by kernel_rfl)) (fun _ _ _ h => h) (Or.inl ⟨by rfl, ?_⟩) hHeld ?_ ?_
                    rotate_left; exact slt5; rotate_left; exact sla
                    refine pure_ (i := 5) (N := some 149) (v := ?_) (a' := ?_) #[tt,tt,tt,tt,tt,tt,ff,ff,tt,ff,ff,ff,ff,ff,ff,ff,ff,ff,ff,ff,ff,ff,ff,ff] rfl rfl (any_of HT_.out (by kernel_rfl)) (fun _ _ _ h => h) (Or.inl ⟨by rfl, ?_⟩) ?_ ?_
                    rotate_left; exact slv; rotate_left; exact sla
                    refine pure_ (i := 6) (N := some 150) (v := ?_) (a' := ?_) #[tt,tt,tt,tt,tt,tt,tt,ff,tt,ff,ff,ff,ff,ff,ff,ff,ff,ff,ff,ff,ff,ff,ff,ff] rfl rfl (any_of HT_.out (by kernel_rfl)) (fun _ _ _ h => h) (Or.inl ⟨by rfl, ?_⟩) ?_ ?_
                    rotate_left; exact slv; rotate_left; exact sla
                    refine take_ (i := 7) (N := some 151) (v := ?_) (a' := ?_) #[tt,tt,tt,tt,tt,tt,tt,tt,tt,ff,ff,ff,ff,ff,ff,ff,ff,ff,ff,ff,ff,ff,ff,ff] rfl rfl (take_ofW HT_.out HW_.out (by kernel_rfl)) (fun _ _ _ h => h) (Or.inl ⟨by rfl, ?_⟩) hHeld ?_ ?_
                    rotate_left; exact slt5; rotate_left; exact sla
                    refine take_ (i := 9) (N := some 153) (v := ?_) (a' := ?_) #[tt,tt,tt,tt,tt,tt,tt,tt,tt,tt,ff,ff,ff,ff,ff,ff,ff,ff,ff,ff,ff,ff,ff,ff] rfl rfl (take_ofW HT_.out HW_.out (by kernel_rfl)) (fun _ _ _ h => h) (Or.inl ⟨by rfl, ?_⟩) hHeld ?_ ?_
                    rotate_left; exact slt5; rotate_left; exact sla
                    refine pure_ (i := 10) (N := some 154) (v := ?_) (a' := ?_) #[tt,tt,tt,tt,tt,tt,tt,tt,tt,tt,tt,ff,ff,ff,ff,ff,ff,ff,ff,ff,ff,ff,ff,ff] rfl rfl (any_of HT_.out (by kernel_rfl)) (fun _ _ _ h => h) (Or.inl ⟨by rfl, ?_⟩) ?_ ?_
                    rotate_left; exact slv; rotate_left; exact sla
                    refine pure_ (i := 11) (N := some 155) (v := ?_) (a' := ?_) #[tt,tt,tt,tt,tt,tt,tt,tt,tt,tt,tt,tt,ff,ff,ff,ff,ff,ff,ff,ff,ff,ff,ff,ff] rfl rfl (any_of HT_.out (by kernel_rfl)) (fun _ _ _ h => h) (Or.inl ⟨by rfl, ?_⟩) ?_ ?_
                    rotate_left; exact slv; rotate_left; exact sla
                    refine pure_ (i := 12) (N := some 156) (v := undef) (a' := ?_) #[tt,tt,tt,tt,tt,tt,tt,tt,tt,tt,tt,tt,tt,ff,ff,ff,ff,ff,ff,ff,ff,ff,ff,ff] rfl rfl (any_of HT_.out (by kernel_rfl)) (fun _ _ _ h => h) (Or.inr ⟨by rfl, rfl⟩) ?_ ?_
                    rotate_left
                    · exact sla
                    refine pure_ (i := 13) (N := some 157) (v := undef) (a' := ?_) #[tt,tt,tt,tt,tt,tt,tt,tt,tt,tt,tt,tt,tt,tt,ff,ff,ff,ff,ff,ff,ff,ff,ff,ff] rfl rfl (any_of HT_.out (by kernel_rfl)) (fun _ _ _ h => h) (Or.inr ⟨by rfl, rfl⟩) ?_ ?_
                    rotate_left
                    · exact sla
                    refine pure_ (i := 14) (N := some 158) (v := undef) (a' := ?_) #[tt,tt,tt,tt,tt,tt,tt,tt,tt,tt,tt,tt,tt,tt,tt,ff,ff,ff,ff,ff,ff,ff,ff,ff] rfl rfl (any_of HT_.out (by kernel_rfl)) (fun _ _ _ h => h) (Or.inr ⟨by rfl, rfl⟩) ?_ ?_
                    rotate_left
                    · exact sla
                    refine pure_ (i := 15) (N := some 159) (v := undef) (a' := ?_) #[tt,tt,tt,tt,tt,tt,tt,tt,tt,tt,tt,tt,tt,tt,tt,tt,ff,ff,ff,ff,ff,ff,ff,ff] rfl rfl (any_of HT_.out (by kernel_rfl)) (fun _ _ _ h => h) (Or.inr ⟨by rfl, rfl⟩) ?_ ?_
                    rotate_left
                    · exact sla
                    refine pure_ (i := 16) (N := some 160) (v := undef) (a' := ?_) #[tt,tt,tt,tt,tt,tt,tt,tt,tt,tt,tt,tt,tt,tt,tt,tt,tt,ff,ff,ff,ff,ff,ff,ff] rfl rfl (any_of HT_.out (by kernel_rfl)) (fun _ _ _ h => h) (Or.inr ⟨by rfl, rfl⟩) ?_ ?_
                    rotate_left
                    · exact sla
                    refine pure_ (i := 17) (N := some 161) (v := undef) (a' := ?_) #[tt,tt,tt,tt,tt,tt,tt,tt,tt,tt,tt,tt,tt,tt,tt,tt,tt,tt,ff,ff,ff,ff,ff,ff] rfl rfl (any_of HT_.out (by kernel_rfl)) (fun _ _ _ h => h) (Or.inr ⟨by rfl, rfl⟩) ?_ ?_
                    rotate_left
                    · exact sla
                    refine pure_ (i := 18) (N := some 162) (v := undef) (a' := ?_) #[tt,tt,tt,tt,tt,tt,tt,tt,tt,tt,tt,tt,tt,tt,tt,tt,tt,tt,tt,ff,ff,ff,ff,ff] rfl rfl (any_of HT_.out (by kernel_rfl)) (fun _ _ _ h => h) (Or.inr ⟨by rfl, rfl⟩) ?_ ?_
                    rotate_left
                    · exact sla
                    refine pure_ (i := 19) (N := some 163) (v := undef) (a' := ?_) #[tt,tt,tt,tt,tt,tt,tt,tt,tt,tt,tt,tt,tt,tt,tt,tt,tt,tt,tt,tt,ff,ff,ff,ff] rfl rfl (any_of HT_.out (by kernel_rfl)) (fun _ _ _ h => h) (Or.inr ⟨by rfl, rfl⟩) ?_ ?_
                    rotate_left
                    · exact sla
                    refine pure_ (i := 20) (N := some 164) (v := undef) (a' := ?_) #[tt,tt,tt,tt,tt,tt,tt,tt,tt,tt,tt,tt,tt,tt,tt,tt,tt,tt,tt,tt,tt,ff,ff,ff] rfl rfl (any_of HT_.out (by kernel_rfl)) (fun _ _ _ h => h) (Or.inr ⟨by rfl, rfl⟩) ?_ ?_
                    rotate_left
                    · exact sla
                    refine pure_ (i := 21) (N := some 165) (v := ?_) (a' := ?_) #[tt,tt,tt,tt,tt,tt,tt,tt,tt,tt,tt,tt,tt,tt,tt,tt,tt,tt,tt,tt,tt,tt,ff,ff] rfl rfl (any_of HT_.out (by kernel_rfl)) (fun _ _ _ h => h) (Or.inl ⟨by rfl, ?_⟩) ?_ ?_
                    rotate_left; exact slv; rotate_left; exact sla
                    refine pure_ (i := 22) (N := some 166) (v := ?_) (a' := ?_) #[tt,tt,tt,tt,tt,tt,tt,tt,tt,tt,tt,tt,tt,tt,tt,tt,tt,tt,tt,tt,tt,tt,tt,ff] rfl rfl (any_of HT_.out (by kernel_rfl)) (fun _ _ _ h => h) (Or.inl ⟨by rfl, ?_⟩) ?_ ?_
                    rotate_left; exact slv; rotate_left; exact sla
                    refine pure_ (i := 23) (N := some 15) (v := ?_) (a' := ?_) #[tt,tt,tt,tt,tt,tt,tt,tt,tt,tt,tt,tt,tt,tt,tt,tt,tt,tt,tt,tt,tt,tt,tt,tt] rfl rfl (any_of HT_.out (by kernel_rfl)) (fun _ _ _ h => h) (Or.inl ⟨by rfl, ?_⟩) ?_ ?_
                    rotate_left; exact slv; rotate_left; exact sla
                    refine done_ (done_of HT_.out (by kernel_rfl)) ?_
                    try clear hHeld
                    have hwk := HWK.out
                    go_wp2
                    go_roundg gk3
                    case measure => first | exact Nat.lt_succ_self _ | omega
                    case rel => exact ⟨k + 1, true, by first | rfl | (simp; done) | (simp [d1]; done), by first | rfl | (simp; done) | (rw [hwk]; rfl), HK1, ⟨mayK_next HMK.out HLY.out HE.out⟩, HBE4, HTH4, HXB4⟩
    | succ gk2 =>
     as_aux_lemma =>
      have hlt : decide (i < pn) = true := decide_eq_true (by have := HI.out; omega)
      have hltI : (i : Int) < pn := by have := HI.out; omega
      have HI1 : Aside0 (i + 1 + gk2 = pn) := ⟨by have := HI.out; omega⟩
      have HWI : Aside0 (wrap64 ((i : Int) + 1) = (i : Int) + 1) := ⟨by unfold wrap64; have := HI.out; have := HPN.out; have := HLN.out; omega⟩
      obtain ⟨a, x, ha, hlx, hcx⟩ := pt_at HP.out rfl (j := i) (by have := HI.out; have := HPN.out; omega)
      have HOX : Aside0 (okP x) := ⟨HOK.out x (List.mem_of_getElem? hlx)⟩
      have HCX := Aside0.mk hcx
      subst ha
      clear hlx hcx
      go_wp2_with ((with_reducible refine gate_upon ?_); go_simp)
      go_loopg [9, 10] m (fun kq v9 v10 w' => ∃ (k : Nat) (b : Bool), v9 = .bool b ∧ v10 = .int .i64 k ∧ Aside0 (k + kq = m) ∧ Aside0 (b = (decide (m < 4096) && !decide (x ∈ ps.take k))) ∧ Aside0 (kPt.R 59 w' w.heap.size (fun _ => True) (.slice A7 m c7) ps) ∧ Aside0 (NetS w' w.heap.size g ps (List.replicate m []) F1) ∧ Aside0 (Three w' F1 w.heap.size (w.heap.size + 1) gn (.cells #[.slice (some a) pn pc, .slice RA rn rc] 25) (.cells #[.int .i64 0, .slice none 0 0] 28) (.cells #[.int .i64 0, .slice none 0 0] 28)) ∧ Aside0 (Below w.heap.size w w'))
      case atStart => exact ⟨0, _, rfl, rfl, ⟨by omega⟩, ⟨start_fresh m ps x⟩, HRO, HNE, HTH, HBW⟩
      case round =>
       as_aux_lemma =>
        clear HRO HNE HTH HBW
        obtain ⟨k, b, rfl, rfl, HK, HB9, HRO, HNE, HTH, HBW⟩ := hrel
        have hct := (blk_cell HTH.out.t 0).trans rfl
        obtain ⟨qx0, qx1⟩ := HCX.out wr HBW.out
        cases gk with
        | zero =>
          have hk : m = k := by have := HK.out; omega
          subst hk
          have hgt : decide (m < m) = false := decide_eq_false (by omega)
          have HFP : Aside0 (b = freshP ps x) := ⟨by rw [HB9.out]; unfold freshP; rw [← HM.out, List.take_of_length_le (by rw [← HM.out]; exact Nat.le_refl _)]⟩
          have HCX5 := HCX
          cases b with
          | true =>
           as_aux_lemma =>
            have hv : nodeP ps (List.replicate m []) x = (((m : Int), (0 : Int)), ps ++ [x], List.replicate (m + 1) []) := by
              rw [node_fresh HFP.out.symm, ← HM.out, List.replicate_succ']
            have hnd := HNE.out.node HBW.out.size x HOX.out
            rw [hv] at hnd
            have HND := Aside0.mk hnd
            have hd2 : ((m : Int) != (m : Int)) = false := by simp
            have HM4 : Aside0 (m + 1 ≤ 4097) := ⟨by have := HNE.out.len; have := HM.out; omega⟩
            clear hv hnd
            go_wp2_with (first | fail | ((with_reducible refine gate_upon ?_); go_simp))
            refine HND.out.mono ?_
            rintro e w5 ⟨rfl, F5, hn5, hc5, hf5⟩
            have HNE5 := Aside0.mk hn5
            have HRO5 : Aside0 (kPt.R 59 w5 w.heap.size (fun _ => True) (.slice A7 m c7) ps) := ⟨flat_keep flatPt HRO.out (fun k hk => hc5.block k (Kd.R_lt HRO.out k hk) (HFR.out k hk)) (fun _ _ => trivial)⟩
            have HFR5 : Aside0 (∀ k, Value.ownBlock (.slice A7 m c7) = some k → ¬ F5 k) := ⟨fun k hk q => by
              rcases hf5 k q with q | q
              · exact HFR.out k hk q
              · have := Kd.R_lt HRO.out k hk; omega⟩
            have HTH5 := Aside0.mk (HTH.out.laid hc5 hf5)
            have HBW5 : Aside0 (Below w.heap.size w w5) := ⟨((Chg.of_below (F := F1) HBW.out).trans hc5).below (Nat.le_refl _) (fun k hk => (HNE.out.ge k hk).1)⟩
            clear hn5 hc5 hf5 HND HNE HRO HFR HTH HBW hct qx0 qx1
            have hct := (blk_cell HTH5.out.t 0).trans rfl
            obtain ⟨qx0, qx1⟩ := HCX.out w5 HBW5.out
            go_wp2_with (first | ((with_reducible refine gate_dst (N := 82) rfl ?_); refine Kd.R_append kPt (w0 := w) w.heap.size rfl (.tmp 75) (.tmp 81) 22 59 (.agg #[.int .i16 0, .int .i16 0]) 4 rfl Try.underlying22 infoPtz rfl (by decide) (by omega) (.slice A7 m c7) ps x [.int .i16 x.1, .int .i16 x.2] (fun _ => True) (fun _ => False) rfl rfl (kPt_mk _ _ _ x) (fun _ hk => hk.elim) (fun _ _ => trivial) HRO5.out HBW5.out HBW5.out.size (by have := HM4.out; have := HM.out; omega) ?_; intro v8 w8 ho hb8 hg8 hat; have HRO8 := Aside0.mk ho; have HBW8 := Aside0.mk hb8; have HNE8 := Aside0.mk (HNE5.out.chg (Chg.of_grown hg8) (fun k hk q => HFR5.out k q.symm hk)); have HTH8 := Aside0.mk (HTH5.out.grown hg8 (ty_ne HRO5.out HTH5.out.t (by decide)) (ty_ne HRO5.out HTH5.out.r (by decide)) (ty_ne HRO5.out HTH5.out.n (by decide))); have HFR8 := Aside0.mk (far_app HNE5.out HFR5.out hat); clear ho hb8 hg8 hat HNE5 HRO5 HFR5 HTH5 HBW5 hct qx0 qx1) | ((with_reducible refine gate_upon ?_); go_simp))
            have hwi := HWI.out
            go_wp2
            go_roundg gk2
            case measure => first | exact Nat.lt_succ_self _ | omega
            case rel => exact ⟨i + 1, F5, ps ++ [x], rfl, rfl, by first | rfl | (simp; done) | (rw [hwi]; rfl), HI1, ⟨⟨by rw [List.length_append, List.length_singleton, ← HM.out]; exact HNE8.out, HRO8.out, HBW8.out, HFR8.out⟩⟩, HTH8⟩
          | false =>
           as_aux_lemma =>
            obtain ⟨er, hv, he0⟩ : ∃ er, nodeP ps (List.replicate m []) x = (((0 : Int), er), ps, List.replicate m []) ∧ (er == 0) = false := by
              obtain ⟨h1, h2, h3⟩ := node_stale (out := List.replicate m []) HFP.out.symm
              refine ⟨(nodeP ps (List.replicate m []) x).1.2, Prod.ext (Prod.ext h2 rfl) h1, ?_⟩
              rw [beq_eq_false_iff_ne]
              omega
            have hnd := HNE.out.node HBW.out.size x HOX.out
            rw [hv] at hnd
            have HND := Aside0.mk hnd
            clear hv hnd
            go_wp2_with (first | fail | ((with_reducible refine gate_upon ?_); go_simp))
            refine HND.out.mono ?_
            rintro e w5 ⟨rfl, F5, hn5, hc5, hf5⟩
            have HNE5 := Aside0.mk hn5
            have HRO5 : Aside0 (kPt.R 59 w5 w.heap.size (fun _ => True) (.slice A7 m c7) ps) := ⟨flat_keep flatPt HRO.out (fun k hk => hc5.block k (Kd.R_lt HRO.out k hk) (HFR.out k hk)) (fun _ _ => trivial)⟩
            have HFR5 : Aside0 (∀ k, Value.ownBlock (.slice A7 m c7) = some k → ¬ F5 k) := ⟨fun k hk q => by
              rcases hf5 k q with q | q
              · exact HFR.out k hk q
              · have := Kd.R_lt HRO.out k hk; omega⟩
            have HTH5 := Aside0.mk (HTH.out.laid hc5 hf5)
            have HBW5 : Aside0 (Below w.heap.size w w5) := ⟨((Chg.of_below (F := F1) HBW.out).trans hc5).below (Nat.le_refl _) (fun k hk => (HNE.out.ge k hk).1)⟩
            clear hn5 hc5 hf5 HND HNE HRO HFR HTH HBW hct qx0 qx1
            have hwi := HWI.out
            go_wp2_with (first | fail | ((with_reducible refine gate_upon ?_); go_simp))
            go_roundg gk2
            case measure => first | exact Nat.lt_succ_self _ | omega
            case rel => exact ⟨i + 1, F5, ps, rfl, rfl, by first | rfl | (simp; done) | (rw [hwi]; rfl), HI1, ⟨⟨by rw [← HM.out]; exact HNE5.out, HRO5.out, HBW5.out, HFR5.out⟩⟩, HTH5⟩
        | succ gk3 =>
         as_aux_lemma =>
          have hkm : k < m := by have := HK.out; omega
          have hlt : decide (k < m) = true := decide_eq_true hkm
          have hltk : (k : Int) < m := by omega
          have HK1 : Aside0 (k + 1 + gk3 = m) := ⟨by have := HK.out; omega⟩
          have HWK : Aside0 (wrap64 ((k : Int) + 1) = (k : Int) + 1) := ⟨by unfold wrap64; have := HK.out; have := HNE.out.len; have := HM.out; omega⟩
          obtain ⟨a7, y, ha7, hly, hcy⟩ := pt_at (Kd.R_reads' HRO.out).2.2 rfl (j := k) (by have := HM.out; omega)
          have HLY := Aside0.mk hly
          obtain ⟨qy0, qy1⟩ := hcy wr (Below.refl _ _)
          subst ha7
          clear hly hcy
          cases b with
          | false =>
            go_wp2_with ((with_reducible refine gate_upon ?_); go_simp)
            refine start_ (n := 14) (S := fun w' => w'.cell? ⟨w.heap.size, 0, none⟩ = some (.slice (some a) pn pc) ∧ w'.cell? (a.add (i * 2)) = some (.int .i16 x.1) ∧ w'.cell? ⟨(a.add (i * 2)).block, (a.add (i * 2)).off + 1, none⟩ = some (.int .i16 x.2) ∧ w'.cell? (a7.add (k * 2)) = some (.int .i16 y.1) ∧ w'.cell? ⟨(a7.add (k * 2)).block, (a7.add (k * 2)).off + 1, none⟩ = some (.int .i16 y.2)) (ds := []) #[ff,ff,ff,ff,ff,ff,ff,ff,ff,ff,ff,ff,ff,ff] (by kernel_rfl) rfl rfl ⟨hct, qx0, qx1, qy0, qy1⟩ (fun hHeld => ?_)
            refine with_tabW laid.tab13 laid.bits13 (fun HT_ HW_ => ?_)
            have HNE4 := Aside0.mk (HNE.out.below (below_drew1 (Below.refl wr.heap.size wr)))
            have HTH4 := Aside0.mk (HTH.out.step (below_drew1 (Below.refl wr.heap.size wr)))
            have HRO4 := Aside0.mk (Kd.R_drew HRO.out)
            have HBW4 : Aside0 (Below w.heap.size w wr.drew) := ⟨below_drew HBW.out⟩
            clear HNE HTH HRO HBW
            try clear hct qx0 qx1 qy0 qy1
            generalize wr.drew = w4 at HNE4 HTH4 HRO4 HBW4 hHeld ⊢
            refine pure_ (i := 0) (N := some 37) (v := ?_) (a' := ?_) #[tt,ff,ff,ff,ff,ff,ff,ff,ff,ff,ff,ff,ff,ff] rfl rfl (any_of HT_.out (by kernel_rfl)) (fun _ _ _ h => h) (Or.inl ⟨by rfl, ?_⟩) ?_ ?_
            rotate_left; exact slv; rotate_left; exact sla
            refine pure_ (i := 1) (N := some 38) (v := ?_) (a' := ?_) #[tt,tt,ff,ff,ff,ff,ff,ff,ff,ff,ff,ff,ff,ff] rfl rfl (any_of HT_.out (by kernel_rfl)) (fun _ _ _ h => h) (Or.inl ⟨by rfl, ?_⟩) ?_ ?_
            rotate_left; exact slv; rotate_left; exact sla
            refine pure_ (i := 2) (N := some 39) (v := undef) (a' := ?_) #[tt,tt,tt,ff,ff,ff,ff,ff,ff,ff,ff,ff,ff,ff] rfl rfl (any_of HT_.out (by kernel_rfl)) (fun _ _ _ h => h) (Or.inr ⟨by rfl, rfl⟩) ?_ ?_
            rotate_left
            · exact sla
            refine pure_ (i := 3) (N := some 40) (v := undef) (a' := ?_) #[tt,tt,tt,tt,ff,ff,ff,ff,ff,ff,ff,ff,ff,ff] rfl rfl (any_of HT_.out (by kernel_rfl)) (fun _ _ _ h => h) (Or.inr ⟨by rfl, rfl⟩) ?_ ?_
            rotate_left
            · exact sla
            refine pure_ (i := 4) (N := some 41) (v := undef) (a' := ?_) #[tt,tt,tt,tt,tt,ff,ff,ff,ff,ff,ff,ff,ff,ff] rfl rfl (any_of HT_.out (by kernel_rfl)) (fun _ _ _ h => h) (Or.inr ⟨by rfl, rfl⟩) ?_ ?_
            rotate_left
            · exact sla
            refine pure_ (i := 5) (N := some 42) (v := undef) (a' := ?_) #[tt,tt,tt,tt,tt,tt,ff,ff,ff,ff,ff,ff,ff,ff] rfl rfl (any_of HT_.out (by kernel_rfl)) (fun _ _ _ h => h) (Or.inr ⟨by rfl, rfl⟩) ?_ ?_
            rotate_left
            · exact sla
            refine pure_ (i := 6) (N := some 43) (v := undef) (a' := ?_) #[tt,tt,tt,tt,tt,tt,tt,ff,ff,ff,ff,ff,ff,ff] rfl rfl (any_of HT_.out (by kernel_rfl)) (fun _ _ _ h => h) (Or.inr ⟨by rfl, rfl⟩) ?_ ?_
            rotate_left
            · exact sla
            refine pure_ (i := 7) (N := some 44) (v := undef) (a' := ?_) #[tt,tt,tt,tt,tt,tt,tt,tt,ff,ff,ff,ff,ff,ff] rfl rfl (any_of HT_.out (by kernel_rfl)) (fun _ _ _ h => h) (Or.inr ⟨by rfl, rfl⟩) ?_ ?_
            rotate_left
            · exact sla
            refine pure_ (i := 8) (N := some 45) (v := undef) (a' := ?_) #[tt,tt,tt,tt,tt,tt,tt,tt,tt,ff,ff,ff,ff,ff] rfl rfl (any_of HT_.out (by kernel_rfl)) (fun _ _ _ h => h) (Or.inr ⟨by rfl, rfl⟩) ?_ ?_
            rotate_left
            · exact sla
            refine pure_ (i := 9) (N := some 46) (v := undef) (a' := ?_) #[tt,tt,tt,tt,tt,tt,tt,tt,tt,tt,ff,ff,ff,ff] rfl rfl (any_of HT_.out (by kernel_rfl)) (fun _ _ _ h => h) (Or.inr ⟨by rfl, rfl⟩) ?_ ?_
            rotate_left
            · exact sla
            refine pure_ (i := 10) (N := some 47) (v := undef) (a' := ?_) #[tt,tt,tt,tt,tt,tt,tt,tt,tt,tt,tt,ff,ff,ff] rfl rfl (any_of HT_.out (by kernel_rfl)) (fun _ _ _ h => h) (Or.inr ⟨by rfl, rfl⟩) ?_ ?_
            rotate_left
            · exact sla
            refine pure_ (i := 11) (N := some 48) (v := undef) (a' := ?_) #[tt,tt,tt,tt,tt,tt,tt,tt,tt,tt,tt,tt,ff,ff] rfl rfl (any_of HT_.out (by kernel_rfl)) (fun _ _ _ h => h) (Or.inr ⟨by rfl, rfl⟩) ?_ ?_
            rotate_left
            · exact sla
            refine pure_ (i := 12) (N := some 49) (v := ?_) (a' := ?_) #[tt,tt,tt,tt,tt,tt,tt,tt,tt,tt,tt,tt,tt,ff] rfl rfl (any_of HT_.out (by kernel_rfl)) (fun _ _ _ h => h) (Or.inl ⟨by rfl, ?_⟩) ?_ ?_
            rotate_left; exact slv; rotate_left; exact sla
            refine pure_ (i := 13) (N := some 9) (v := ?_) (a' := ?_) #[tt,tt,tt,tt,tt,tt,tt,tt,tt,tt,tt,tt,tt,tt] rfl rfl (any_of HT_.out (by kernel_rfl)) (fun _ _ _ h => h) (Or.inl ⟨by rfl, ?_⟩) ?_ ?_
            rotate_left; exact slv; rotate_left; exact sla
            refine done_ (done_of HT_.out (by kernel_rfl)) ?_
            try clear hHeld
            have hwk := HWK.out
            go_wp2
            go_roundg gk3
            case measure => first | exact Nat.lt_succ_self _ | omega
            case rel => exact ⟨k + 1, false, rfl, by first | rfl | (simp; done) | (rw [hwk]; rfl), HK1, ⟨next_stale HB9.out⟩, HRO4, HNE4, HTH4, HBW4⟩
          | true =>
            have qnp := neq_point
            go_wp2_with ((with_reducible refine gate_upon ?_); go_simp)
            refine start_ (n := 14) (S := fun w' => w'.cell? ⟨w.heap.size, 0, none⟩ = some (.slice (some a) pn pc) ∧ w'.cell? (a.add (i * 2)) = some (.int .i16 x.1) ∧ w'.cell? ⟨(a.add (i * 2)).block, (a.add (i * 2)).off + 1, none⟩ = some (.int .i16 x.2) ∧ w'.cell? (a7.add (k * 2)) = some (.int .i16 y.1) ∧ w'.cell? ⟨(a7.add (k * 2)).block, (a7.add (k * 2)).off + 1, none⟩ = some (.int .i16 y.2)) (ds := []) #[ff,ff,ff,ff,ff,ff,ff,ff,ff,ff,ff,ff,ff,ff] (by kernel_rfl) rfl rfl ⟨hct, qx0, qx1, qy0, qy1⟩ (fun hHeld => ?_)
            refine with_tabW laid.tab13 laid.bits13 (fun HT_ HW_ => ?_)
            have HNE4 := Aside0.mk (HNE.out.below (below_drew1 (Below.refl wr.heap.size wr)))
            have HTH4 := Aside0.mk (HTH.out.step (below_drew1 (Below.refl wr.heap.size wr)))
            have HRO4 := Aside0.mk (Kd.R_drew HRO.out)
            have HBW4 : Aside0 (Below w.heap.size w wr.drew) := ⟨below_drew HBW.out⟩
            clear HNE HTH HRO HBW
            try clear hct qx0 qx1 qy0 qy1
            generalize wr.drew = w4 at HNE4 HTH4 HRO4 HBW4 hHeld ⊢
            refine pure_ (i := 0) (N := some 37) (v := ?_) (a' := ?_) #[tt,ff,ff,ff,ff,ff,ff,ff,ff,ff,ff,ff,ff,ff] rfl rfl (any_of HT_.out (by kernel_rfl)) (fun _ _ _ h => h) (Or.inl ⟨by rfl, ?_⟩) ?_ ?_
            rotate_left; exact slv; rotate_left; exact sla
            refine pure_ (i := 1) (N := some 38) (v := ?_) (a' := ?_) #[tt,tt,ff,ff,ff,ff,ff,ff,ff,ff,ff,ff,ff,ff] rfl rfl (any_of HT_.out (by kernel_rfl)) (fun _ _ _ h => h) (Or.inl ⟨by rfl, ?_⟩) ?_ ?_
            rotate_left; exact slv; rotate_left; exact sla
            refine pure_ (i := 2) (N := some 39) (v := ?_) (a' := ?_) #[tt,tt,tt,ff,ff,ff,ff,ff,ff,ff,ff,ff,ff,ff] rfl rfl (any_of HT_.out (by kernel_rfl)) (fun _ _ _ h => h) (Or.inl ⟨by rfl, ?_⟩) ?_ ?_
            rotate_left; exact slv; rotate_left; exact sla
            refine pure_ (i := 3) (N := some 40) (v := ?_) (a' := ?_) #[tt,tt,tt,tt,ff,ff,ff,ff,ff,ff,ff,ff,ff,ff] rfl rfl (any_of HT_.out (by kernel_rfl)) (fun _ _ _ h => h) (Or.inl ⟨by rfl, ?_⟩) ?_ ?_
            rotate_left; exact slv; rotate_left; exact sla
            refine pure_ (i := 4) (N := some 41) (v := ?_) (a' := ?_) #[tt,tt,tt,tt,tt,ff,ff,ff,ff,ff,ff,ff,ff,ff] rfl rfl (any_of HT_.out (by kernel_rfl)) (fun _ _ _ h => h) (Or.inl ⟨by rfl, ?_⟩) ?_ ?_
            rotate_left; exact slv; rotate_left; exact sla
            refine pure_ (i := 6) (N := some 43) (v := ?_) (a' := ?_) #[tt,tt,tt,tt,tt,ff,tt,ff,ff,ff,ff,ff,ff,ff] rfl rfl (any_of HT_.out (by kernel_rfl)) (fun _ _ _ h => h) (Or.inl ⟨by rfl, ?_⟩) ?_ ?_
            rotate_left; exact slv; rotate_left; exact sla
            refine pure_ (i := 8) (N := some 45) (v := ?_) (a' := ?_) #[tt,tt,tt,tt,tt,ff,tt,ff,tt,ff,ff,ff,ff,ff] rfl rfl (any_of HT_.out (by kernel_rfl)) (fun _ _ _ h => h) (Or.inl ⟨by rfl, ?_⟩) ?_ ?_
            rotate_left; exact slv; rotate_left; exact sla
            refine take_ (i := 5) (N := some 42) (v := ?_) (a' := ?_) #[tt,tt,tt,tt,tt,tt,tt,ff,tt,ff,ff,ff,ff,ff] rfl rfl (take_ofW HT_.out HW_.out (by kernel_rfl)) (fun _ _ _ h => h) (Or.inl ⟨by rfl, ?_⟩) hHeld ?_ ?_
            rotate_left; exact slt5; rotate_left; exact sla
            refine take_ (i := 7) (N := some 44) (v := ?_) (a' := ?_) #[tt,tt,tt,tt,tt,tt,tt,tt,tt,ff,ff,ff,ff,ff] rfl rfl (take_ofW HT_.out HW_.out (by kernel_rfl)) (fun _ _ _ h => h) (Or.inl ⟨by rfl, ?_⟩) hHeld ?_ ?_
            rotate_left; exact slt5; rotate_left; exact sla
            refine pure_ (i := 9) (N := some 46) (v := ?_) (a' := ?_) #[tt,tt,tt,tt,tt,tt,tt,tt,tt,tt,ff,ff,ff,ff] rfl rfl (any_of HT_.out (by kernel_rfl)) (fun _ _ _ h => h) (Or.inl ⟨by rfl, ?_⟩) ?_ ?_
            rotate_left; exact slv; rotate_left; exact sla
            refine take_ (i := 10) (N := some 47) (v := ?_) (a' := ?_) #[tt,tt,tt,tt,tt,tt,tt,tt,tt,tt,tt,ff,ff,ff] rfl rfl (take_ofW HT_.out HW_.out (by kernel_rfl)) (fun _ _ _ h => h) (Or.inl ⟨by rfl, ?_⟩) hHeld ?_ ?_
            rotate_left; exact slt5; rotate_left; exact sla
            refine pure_ (i := 11) (N := some 48) (v := ?_) (a' := ?_) #[tt,tt,tt,tt,tt,tt,tt,tt,tt,tt,tt,tt,ff,ff] rfl rfl (any_of HT_.out (by kernel_rfl)) (fun _ _ _ h => h) (Or.inl ⟨by rfl, ?_⟩) ?_ ?_
            rotate_left; exact slv; rotate_left; exact sla
            refine pure_ (i := 12) (N := some 49) (v := ?_) (a' := ?_) #[tt,tt,tt,tt,tt,tt,tt,tt,tt,tt,tt,tt,tt,ff] rfl rfl (any_of HT_.out (by kernel_rfl)) (fun _ _ _ h => h) (Or.inl ⟨by rfl, ?_⟩) ?_ ?_
            rotate_left; exact slv; rotate_left; exact sla
            refine pure_ (i := 13) (N := some 9) (v := ?_) (a' := ?_) #[tt,tt,tt,tt,tt,tt,tt,tt,tt,tt,tt,tt,tt,tt] rfl rfl (any_of HT_.out (by kernel_rfl)) (fun _ _ _ h => h) (Or.inl ⟨by rfl, ?_⟩) ?_ ?_
            rotate_left; exact slv; rotate_left; exact sla
            refine done_ (done_of HT_.out (by kernel_rfl)) ?_
            try clear hHeld
            have hwk := HWK.out
            go_wp2
            go_roundg gk3
            case measure => first | exact Nat.lt_succ_self _ | omega
            case rel => exact ⟨k + 1, _, rfl, by first | rfl | (simp; done) | (rw [hwk]; rfl), HK1, ⟨by rw [← next_fresh HB9.out HLY.out, Bool.not_and]⟩, HRO4, HNE4, HTH4, HBW4⟩
end Go.Proofs.Ytgbfhhmmkhjhhaa.Paths
