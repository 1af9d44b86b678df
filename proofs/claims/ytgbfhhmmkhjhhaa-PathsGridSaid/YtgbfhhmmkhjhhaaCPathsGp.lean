/- A grid of streets, without a program: its points, its roads, how far its nodes are apart. Conditions: those that stand in each theorem. Written in session 7. -/
import Derived.Test.YtgbfhhmmkhjhhaaCPathsQX
namespace Go.Proofs.Ytgbfhhmmkhjhhaa.Paths
open Go.Proofs.Ytgbfhhmmkhjhhaa.HeapP Go.Proofs.Ytgbfhhmmkhjhhaa.Dij
open Go.Proofs.Ytgbfhhmmkhjhhaa.Roads (outOf isN isN_iff roadP nodeP)
set_option linter.unusedVariables false
set_option linter.unusedSimpArgs false
/-- the point of node j -/
def gpt (W s j : Nat) : Roads.Pt := (((j % W * s : Nat) : Int), ((j / W * s : Nat) : Int))
/-- the points of the first k nodes -/
def gp (W s k : Nat) : List Roads.Pt := (List.range k).map (gpt W s)
theorem gp_len (W s k : Nat) : (gp W s k).length = k := by simp [gp]
theorem gp_succ (W s k : Nat) : gp W s (k + 1) = gp W s k ++ [gpt W s k] := by simp [gp, List.range_succ]
theorem gp_get {W s k j : Nat} (h : j < k) : (gp W s k)[j]? = some (gpt W s j) := by
  unfold gp
  rw [List.getElem?_map, List.getElem?_range h]
  rfl
theorem gpt_inj {W s i j : Nat} (hs : 0 < s) (h : gpt W s i = gpt W s j) : i = j := by
  unfold gpt at h
  have h1 : i % W * s = j % W * s := by have := congrArg Prod.fst h; simp only at this; omega
  have h2 : i / W * s = j / W * s := by have := congrArg Prod.snd h; simp only at this; omega
  have e1 := Nat.eq_of_mul_eq_mul_right hs h1
  have e2 := Nat.eq_of_mul_eq_mul_right hs h2
  have a := Nat.div_add_mod i W
  have b := Nat.div_add_mod j W
  rw [e1, e2] at a
  omega
theorem gp_fresh {W s k : Nat} (hs : 0 < s) : gpt W s k ∉ gp W s k := by
  intro h
  obtain ⟨j, hj, e⟩ := List.mem_map.1 h
  rw [List.mem_range] at hj
  have := gpt_inj hs e
  omega
theorem node_grid {W s k : Nat} (hs : 0 < s) (hk : k < 4096) : nodeP (gp W s k) (List.replicate k []) (gpt W s k) = ((((k : Nat) : Int), (0 : Int)), gp W s (k + 1), List.replicate (k + 1) []) := by
  have h : freshP (gp W s k) (gpt W s k) = true := by
    unfold freshP
    rw [gp_len, decide_eq_true hk, decide_eq_false (gp_fresh hs)]
    rfl
  rw [node_fresh h, gp_len, gp_succ, List.replicate_succ']
/-- the roads that are laid at node u -/
def Ed (W H s u : Nat) (r : Rd) : Prop := ((u + 1) % W ≠ 0 ∧ (r = ((u : Int), (u : Int) + 1, (s : Int)) ∨ r = ((u : Int) + 1, (u : Int), (s : Int)))) ∨ (u + W < W * H ∧ (r = ((u : Int), (u : Int) + W, (s : Int)) ∨ r = ((u : Int) + W, (u : Int), (s : Int))))
def EdN (W H s n : Nat) (r : Rd) : Prop := ∃ u, u < n ∧ Ed W H s u r
/-- the roads are those of E -/
def HasE (out : List (List Rd)) (E : Rd → Prop) : Prop := ∀ (v : Int) (r : Rd), r ∈ outOf out v ↔ v = r.1 ∧ E r
theorem HasE.congr {out : List (List Rd)} {E E' : Rd → Prop} (h : HasE out E) (he : ∀ r, E r ↔ E' r) : HasE out E' := fun v r => by rw [h v r, he r]
theorem HasE.start (n : Nat) {E : Rd → Prop} (hE : ∀ r, ¬ E r) : HasE (List.replicate n []) E := fun v r => by
  constructor
  · intro h
    unfold outOf at h
    split at h
    · rw [List.getD_eq_getElem?_getD, List.getElem?_replicate] at h
      split at h <;> simp at h
    · simp at h
  · intro h
    exact absurd h.2 (hE r)
theorem HasE.road {n : Nat} {out : List (List Rd)} {E : Rd → Prop} (h : HasE out E) (hon : out.length = n) {x : Rd} (h1 : 0 ≤ x.1 ∧ x.1 < n) (h2 : 0 ≤ x.2.1 ∧ x.2.1 < n) (h3 : x.1 ≠ x.2.1) (h4 : 1 ≤ x.2.2 ∧ x.2.2 ≤ 1048576) (hno : ∀ r, E r → r.1 = x.1 → r.2.1 ≠ x.2.1) : HasE (roadP out x.1 x.2.1 x.2.2).2 (fun r => E r ∨ r = x) := by
  have h0 : (roadP out x.1 x.2.1 x.2.2).1 = 0 := by
    unfold roadP
    rw [hon, if_neg (fun q => q ⟨isN_iff.2 h1, isN_iff.2 h2⟩), if_neg (by omega), if_neg (fun q => by
      rw [List.any_eq_true] at q
      obtain ⟨y, hy, e⟩ := q
      rw [decide_eq_true_iff] at e
      obtain ⟨q1, q2⟩ := (h x.1 y).1 hy
      exact hno y q2 q1.symm e)]
  obtain ⟨_, _, hp, _⟩ := road_plus hon h0
  intro v r
  rw [hp v r, h v r]
  constructor
  · rintro (⟨q1, q2⟩ | ⟨q1, q2⟩)
    · exact ⟨q1, Or.inl q2⟩
    · exact ⟨by rw [q2]; exact q1, Or.inr q2⟩
  · rintro ⟨q1, q2 | q2⟩
    · exact Or.inl ⟨q1, q2⟩
    · exact Or.inr ⟨by rw [q1, q2], q2⟩
section
variable {W H s u : Nat}
def E1 (W H s u : Nat) (r : Rd) : Prop := EdN W H s u r ∨ r = ((u : Int), (u : Int) + 1, (s : Int))
def E2 (W H s u : Nat) (r : Rd) : Prop := EdN W H s u r ∨ ((u + 1) % W ≠ 0 ∧ (r = ((u : Int), (u : Int) + 1, (s : Int)) ∨ r = ((u : Int) + 1, (u : Int), (s : Int))))
def E3 (W H s u : Nat) (r : Rd) : Prop := E2 W H s u r ∨ r = ((u : Int), (u : Int) + W, (s : Int))
theorem next_lt (hu : u < W * H) (hm : (u + 1) % W ≠ 0) : u + 1 < W * H := by
  rcases Nat.lt_or_ge (u + 1) (W * H) with q | q
  · exact q
  · have e : u + 1 = W * H := by omega
    rw [e, Nat.mul_mod_right] at hm
    exact absurd rfl hm
variable {out : List (List Rd)} (hon : out.length = W * H) (hs : 1 ≤ s ∧ s ≤ 1048576) (hW : 0 < W) (hu : u < W * H)
include hon hs hW hu
theorem road1 (h : HasE out (EdN W H s u)) (hm : (u + 1) % W ≠ 0) : HasE (roadP out u ((u : Int) + 1) s).2 (E1 W H s u) := by
  have := next_lt hu hm
  refine h.road hon (x := ((u : Int), (u : Int) + 1, (s : Int))) (by simp only; omega) (by simp only; omega) (by simp only; omega) (by simp only; omega) ?_
  rintro r ⟨u', hu', (⟨_, rfl | rfl⟩ | ⟨_, rfl | rfl⟩)⟩ <;> simp only <;> omega
omit hW in
theorem road2 (h : HasE out (E1 W H s u)) (hm : (u + 1) % W ≠ 0) : HasE (roadP out ((u : Int) + 1) u s).2 (E2 W H s u) := by
  have := next_lt hu hm
  refine (h.road hon (x := ((u : Int) + 1, (u : Int), (s : Int))) (by simp only; omega) (by simp only; omega) (by simp only; omega) (by simp only; omega) ?_).congr (fun r => ?_)
  · rintro r (⟨u', hu', (⟨_, rfl | rfl⟩ | ⟨_, rfl | rfl⟩)⟩ | rfl) <;> simp only <;> omega
  · unfold E1 E2
    constructor
    · rintro ((q | q) | q)
      · exact Or.inl q
      · exact Or.inr ⟨hm, Or.inl q⟩
      · exact Or.inr ⟨hm, Or.inr q⟩
    · rintro (q | ⟨_, q | q⟩)
      · exact Or.inl (Or.inl q)
      · exact Or.inl (Or.inr q)
      · exact Or.inr q
theorem road3 (h : HasE out (E2 W H s u)) (hv : u + W < W * H) : HasE (roadP out u ((u : Int) + W) s).2 (E3 W H s u) := by
  refine h.road hon (x := ((u : Int), (u : Int) + W, (s : Int))) (by simp only; omega) (by simp only; omega) (by simp only; omega) (by simp only; omega) ?_
  rintro r (⟨u', hu', (⟨_, rfl | rfl⟩ | ⟨_, rfl | rfl⟩)⟩ | ⟨hm, rfl | rfl⟩)
  · simp only; omega
  · simp only; omega
  · simp only; omega
  · simp only; omega
  · intro _ e
    have e : (u : Int) + 1 = (u : Int) + W := e
    have : W = 1 := by omega
    subst this
    exact hm (Nat.mod_one _)
  · simp only; omega
theorem road4 (h : HasE out (E3 W H s u)) (hv : u + W < W * H) : HasE (roadP out ((u : Int) + W) u s).2 (EdN W H s (u + 1)) := by
  refine (h.road hon (x := ((u : Int) + W, (u : Int), (s : Int))) (by simp only; omega) (by simp only; omega) (by simp only; omega) (by simp only; omega) ?_).congr (fun r => ?_)
  · rintro r ((⟨u', hu', (⟨_, rfl | rfl⟩ | ⟨_, rfl | rfl⟩)⟩ | ⟨hm, rfl | rfl⟩) | rfl)
    · simp only; omega
    · simp only; omega
    · simp only; omega
    · simp only; omega
    · simp only; omega
    · intro e _
      have e : (u : Int) + 1 = (u : Int) + W := e
      have : W = 1 := by omega
      subst this
      exact hm (Nat.mod_one _)
    · simp only; omega
  · unfold E3 E2
    constructor
    · rintro (((⟨u', h1, h2⟩ | q) | q) | q)
      · exact ⟨u', by omega, h2⟩
      · exact ⟨u, by omega, Or.inl q⟩
      · exact ⟨u, by omega, Or.inr ⟨hv, Or.inl q⟩⟩
      · exact ⟨u, by omega, Or.inr ⟨hv, Or.inr q⟩⟩
    · rintro ⟨u', h1, h2⟩
      by_cases e : u' = u
      · subst e
        rcases h2 with q | ⟨_, q | q⟩
        · exact Or.inl (Or.inl (Or.inr q))
        · exact Or.inl (Or.inr q)
        · exact Or.inr q
      · exact Or.inl (Or.inl (Or.inl ⟨u', by omega, h2⟩))
omit hon hs hW hu in
theorem skip2 (h : HasE out (EdN W H s u)) (hm : (u + 1) % W = 0) : HasE out (E2 W H s u) :=
  h.congr (fun r => ⟨Or.inl, fun q => q.elim id (fun q => absurd hm q.1)⟩)
omit hon hs hW hu in
theorem skip4 (h : HasE out (E2 W H s u)) (hv : ¬ u + W < W * H) : HasE out (EdN W H s (u + 1)) :=
  h.congr (fun r => by
    constructor
    · rintro (⟨u', h1, h2⟩ | q)
      · exact ⟨u', by omega, h2⟩
      · exact ⟨u, by omega, Or.inl q⟩
    · rintro ⟨u', h1, h2⟩
      by_cases e : u' = u
      · subst e
        rcases h2 with q | ⟨q, _⟩
        · exact Or.inr q
        · exact absurd q hv
      · exact Or.inl ⟨u', by omega, h2⟩)
end
/-- how far two nodes are apart -/
def dM (W s j t : Nat) : Nat := (((j % W : Nat) - (t % W : Nat) : Int).natAbs + ((j / W : Nat) - (t / W : Nat) : Int).natAbs) * s
theorem right_of {W u : Nat} (hW : 0 < W) (hm : (u + 1) % W ≠ 0) : (u + 1) % W = u % W + 1 ∧ (u + 1) / W = u / W := by
  have h1 := Nat.div_add_mod u W
  have h2 := Nat.mod_lt u hW
  have e : u + 1 = (u % W + 1) + W * (u / W) := by omega
  have h3 : u % W + 1 ≠ W := fun q => by
    rw [e, q, Nat.add_mul_mod_self_left, Nat.mod_self] at hm
    exact hm rfl
  constructor
  · have h4 : (u % W + 1 + W * (u / W)) % W = u % W + 1 := by rw [Nat.add_mul_mod_self_left, Nat.mod_eq_of_lt (by omega)]
    rw [← e] at h4
    exact h4
  · have h4 : (u % W + 1 + W * (u / W)) / W = u / W := by rw [Nat.add_mul_div_left _ _ hW, Nat.div_eq_of_lt (by omega), Nat.zero_add]
    rw [← e] at h4
    exact h4
theorem down_of {W u : Nat} (hW : 0 < W) : (u + W) % W = u % W ∧ (u + W) / W = u / W + 1 := ⟨Nat.add_mod_right _ _, Nat.add_div_right _ hW⟩
theorem ed_near {W H s u t : Nat} (hW : 0 < W) {r : Rd} (h : Ed W H s u r) : r.2.2 = s ∧ ∃ a b : Nat, r.1 = (a : Int) ∧ r.2.1 = (b : Int) ∧ dM W s a t ≤ dM W s b t + s ∧ (a = u ∨ b = u) ∧ a ≠ b := by
  rcases h with ⟨hm, rfl | rfl⟩ | ⟨hv, rfl | rfl⟩
  · obtain ⟨e1, e2⟩ := right_of hW hm
    refine ⟨rfl, u, u + 1, rfl, by simp, ?_, Or.inl rfl, by omega⟩
    unfold dM
    rw [e1, e2, ← Nat.succ_mul]
    exact Nat.mul_le_mul_right _ (by omega)
  · obtain ⟨e1, e2⟩ := right_of hW hm
    refine ⟨rfl, u + 1, u, by simp, rfl, ?_, Or.inr rfl, by omega⟩
    unfold dM
    rw [e1, e2, ← Nat.succ_mul]
    exact Nat.mul_le_mul_right _ (by omega)
  · obtain ⟨e1, e2⟩ := down_of (u := u) hW
    refine ⟨rfl, u, u + W, rfl, by simp, ?_, Or.inl rfl, by omega⟩
    unfold dM
    rw [e1, e2, ← Nat.succ_mul]
    exact Nat.mul_le_mul_right _ (by omega)
  · obtain ⟨e1, e2⟩ := down_of (u := u) hW
    refine ⟨rfl, u + W, u, by simp, rfl, ?_, Or.inr rfl, by omega⟩
    unfold dM
    rw [e1, e2, ← Nat.succ_mul]
    exact Nat.mul_le_mul_right _ (by omega)
theorem ed_nearer {W H s v t : Nat} (hW : 0 < W) (hv : v < W * H) (ht : t < W * H) (hne : v ≠ t) : ∃ b : Nat, EdN W H s (W * H) ((v : Int), (b : Int), (s : Int)) ∧ dM W s v t = dM W s b t + s ∧ b < W * H := by
  have av := Nat.div_add_mod v W
  have at_ := Nat.div_add_mod t W
  have lv := Nat.mod_lt v hW
  have lt := Nat.mod_lt t hW
  have ht2 : t / W < H := Nat.div_lt_of_lt_mul ht
  rcases Nat.lt_trichotomy (v % W) (t % W) with q | q | q
  · have hm : (v + 1) % W ≠ 0 := by
      have e : v + 1 = (v % W + 1) + W * (v / W) := by omega
      rw [e, Nat.add_mul_mod_self_left, Nat.mod_eq_of_lt (by omega)]
      omega
    obtain ⟨e1, e2⟩ := right_of hW hm
    refine ⟨v + 1, ⟨v, hv, Or.inl ⟨hm, Or.inl (by simp)⟩⟩, ?_, next_lt hv hm⟩
    unfold dM
    rw [e1, e2, ← Nat.succ_mul]
    congr 1
    omega
  · rcases Nat.lt_trichotomy (v / W) (t / W) with p | p | p
    · have hlt : v + W < W * H := by
        have h1 : W * (v / W + 2) ≤ W * H := Nat.mul_le_mul_left _ (by omega)
        rw [Nat.mul_add] at h1
        omega
      obtain ⟨e1, e2⟩ := down_of (u := v) hW
      refine ⟨v + W, ⟨v, hv, Or.inr ⟨hlt, Or.inl (by simp)⟩⟩, ?_, hlt⟩
      unfold dM
      rw [e1, e2, ← Nat.succ_mul]
      congr 1
      omega
    · rw [q, p] at av
      omega
    · have hge : W ≤ v := by
        have h1 : W * 1 ≤ W * (v / W) := Nat.mul_le_mul_left _ (Nat.succ_le_of_lt (Nat.lt_of_le_of_lt (Nat.zero_le _) p))
        omega
      obtain ⟨u, rfl⟩ : ∃ u, v = u + W := ⟨v - W, by omega⟩
      obtain ⟨e1, e2⟩ := down_of (u := u) hW
      refine ⟨u, ⟨u, by omega, Or.inr ⟨hv, Or.inr (by simp)⟩⟩, ?_, by omega⟩
      rw [e2] at p
      unfold dM
      rw [e1, e2, ← Nat.succ_mul]
      congr 1
      omega
  · obtain ⟨u, rfl⟩ : ∃ u, v = u + 1 := ⟨v - 1, by
      have : v ≠ 0 := fun e => by rw [e, Nat.zero_mod] at q; omega
      omega⟩
    have hm : (u + 1) % W ≠ 0 := by omega
    obtain ⟨e1, e2⟩ := right_of hW hm
    refine ⟨u, ⟨u, by omega, Or.inl ⟨hm, Or.inr (by simp)⟩⟩, ?_, by omega⟩
    rw [e1] at q
    unfold dM
    rw [e1, e2, ← Nat.succ_mul]
    congr 1
    omega
/-- the costs to a node of a grid -/
def gridC (W H s t : Nat) : List Int := (List.range (W * H)).map (fun j => ((dM W s j t : Nat) : Int))
theorem gridC_at {W H s t v : Nat} (hv : v < W * H) : cv (gridC W H s t) (v : Int) = (dM W s v t : Nat) := by
  unfold cv gridC
  rw [Int.toNat_natCast, List.getD_eq_getElem?_getD, List.getElem?_map, List.getElem?_range hv]
  rfl
theorem dM_most {W H s j t : Nat} (hW : 0 < W) (hs : s ≤ 1048576) (hj : j < W * H) (ht : t < W * H) : dM W s j t ≤ 1048576 * (W * H) := by
  unfold dM
  have h1 := Nat.mod_lt j hW
  have h2 := Nat.mod_lt t hW
  have h3 : j / W < H := Nat.div_lt_of_lt_mul hj
  have h4 : t / W < H := Nat.div_lt_of_lt_mul ht
  have h5 : W - 1 + (H - 1) ≤ W * H := by
    obtain ⟨a, rfl⟩ : ∃ a, W = a + 1 := ⟨W - 1, by omega⟩
    obtain ⟨b, rfl⟩ : ∃ b, H = b + 1 := ⟨H - 1, by have := Nat.lt_of_le_of_lt (Nat.zero_le _) h3; omega⟩
    rw [Nat.add_mul, Nat.mul_add]
    omega
  have h6 : ((j % W : Nat) - (t % W : Nat) : Int).natAbs + ((j / W : Nat) - (t / W : Nat) : Int).natAbs ≤ W * H := by
    generalize j % W = a1 at *
    generalize t % W = a2 at *
    generalize j / W = a3 at *
    generalize t / W = a4 at *
    omega
  rw [Nat.mul_comm 1048576]
  exact Nat.mul_le_mul h6 hs
theorem grid_dist {W H s t : Nat} {out : List (List Rd)} (hon : out.length = W * H) (hW : 0 < W) (hs : s ≤ 1048576) (h : HasE out (EdN W H s (W * H))) (hN : Net (W * H) (outOf out)) (ht : t < W * H) : DistTo (W * H) (outOf out) (t : Int) (gridC W H s t) where
  len := by simp [gridC]
  ge v hv := by
    obtain ⟨j, rfl⟩ : ∃ j : Nat, v = (j : Int) := ⟨v.toNat, by omega⟩
    rcases Nat.lt_or_ge j (W * H) with q | q
    · rw [gridC_at q]; omega
    · unfold cv gridC
      rw [Int.toNat_natCast, List.getD_eq_getElem?_getD, List.getElem?_eq_none (by simpa using q)]
      exact Int.le_refl _
  st := by rw [gridC_at ht]; unfold dM; simp
  over v r h0 h1 hr hc := by
    obtain ⟨hv, u, hu, he⟩ := (h v r).1 hr
    obtain ⟨e1, a, b, e2, e3, e4, _⟩ := ed_near (t := t) hW he
    have hb := hN.road v r h0 (by omega) hr
    rw [hv, e2] at h0 h1 ⊢
    rw [e3] at hb ⊢
    have ha : a < W * H := by omega
    have hb' : b < W * H := by omega
    rw [gridC_at ha, gridC_at hb', e1]
    omega
  by_ v h0 h1 hc hne := by
    obtain ⟨j, rfl⟩ : ∃ j : Nat, v = (j : Int) := ⟨v.toNat, by omega⟩
    have hj : j < W * H := by omega
    obtain ⟨b, hb, e, hb2⟩ := ed_nearer (s := s) hW hj ht (fun e => hne (by rw [e]))
    refine ⟨_, (h (j : Int) _).2 ⟨rfl, hb⟩, ?_⟩
    simp only
    rw [gridC_at hj, gridC_at hb2]
    omega
  most v h0 h1 := by
    obtain ⟨j, rfl⟩ : ∃ j : Nat, v = (j : Int) := ⟨v.toNat, by omega⟩
    have hj : j < W * H := by omega
    rw [gridC_at hj]
    have := dM_most (W := W) (H := H) hW hs hj ht
    omega
/-- where all roads cost as much -/
theorem goes_even {outf : Int → List Rd} {s : Int} (hs : ∀ v r, r ∈ outf v → r.2.2 = s) {u t : Int} {l : List Int} {k : Int} (h : Goes outf t u l k) : k = ((l.length : Int) - 1) * s := by
  induction h with
  | stop => simp
  | go h1 h2 ih =>
    rw [hs _ _ h1, ih, List.length_cons, Int.sub_mul, Int.sub_mul, Int.natCast_add, Int.add_mul]
    omega
end Go.Proofs.Ytgbfhhmmkhjhhaa.Paths
