/- CertTight, the plain statement: of any graph and certificate the law's own function tells true. No condition beyond the ranges of the numbers and the reach. Written in this session. -/
import Derived.Test.YtmdidgdcdlodlaaTightD
import Derived.Test.YtmdidgdcdlodlaaQ18
import Derived.Test.YtmdidgdcdlodlaaPlain
import Derived.OpenShut
namespace Go.Proofs.Ytmdidgdcdlodlaa.Q
open Go.RowKit Go.Proofs.YtmdidgdcdlodlaaW.PrintWords Go.Proofs.YtmdidgdcdlodlaaW.PrintLast
set_option linter.unusedVariables false
def cabstandlaw18_CertTight.PureS : Prop := ∀ (a0_0 : Int) (a0_1 : Int) (l0_2 : List (S69)) (l1_0 : List (S50)) (l1_1 : List Int) (l1_2 : List Int), ((Lit.int .i64 a0_0).wf = true ∧ ((Lit.int .i64 a0_1).wf = true ∧ (l0_2.length * 24 ≤ reachBytes ∧ ∀ y4_ ∈ l0_2, ((Lit.int .i64 y4_.f0).wf = true ∧ ((Lit.int .i64 y4_.f1).wf = true ∧ (Lit.int .i64 y4_.f2).wf = true))))) → ((l1_0.length * 16 ≤ reachBytes ∧ ∀ y4_ ∈ l1_0, ((Lit.int .i64 y4_.f0).wf = true ∧ (Lit.int .i64 y4_.f1).wf = true)) ∧ ((l1_1.length * 8 ≤ reachBytes ∧ ∀ y4_ ∈ l1_1, (Lit.int .i64 y4_).wf = true) ∧ (l1_2.length * 8 ≤ reachBytes ∧ ∀ y4_ ∈ l1_2, (Lit.int .i64 y4_).wf = true))) → ∃ k, cabstandlaw18_CertTight.f k a0_0 a0_1 l0_2 l1_0 l1_1 l1_2 = some true
/-- flags that stand at just these places -/
def FlagOK (x : List Bool) (n : Int) (S : List Int) : Prop := (x.length : Int) = n ∧ ∀ r, 0 ≤ r → r < n → (rdOf false x r = true ↔ r ∈ S)
theorem flag_start {n : Int} (h : 0 ≤ n) : FlagOK (List.replicate n.toNat false) n [] := by
  refine ⟨by simp; omega, fun r h0 h1 => ?_⟩
  have : r.toNat < n.toNat := by omega
  simp [rdOf, List.getD, this]
theorem flag_set {x : List Bool} {n : Int} {S : List Int} (h : FlagOK x n S) (i : Int) (h0 : 0 ≤ i) (h1 : i < n) : FlagOK (x.set i.toNat true) n (i :: S) := by
  refine ⟨by rw [List.length_set]; exact h.1, fun r r0 r1 => ?_⟩
  have hl := h.1
  by_cases hr : r = i
  · subst hr
    have : r.toNat < x.length := by omega
    simp [rdOf, List.getD, this]
  · have hne : i.toNat ≠ r.toNat := by omega
    have e : rdOf false (x.set i.toNat true) r = rdOf false x r := by simp [rdOf, List.getD, hne]
    rw [e, h.2 r r0 r1]
    simp [hr]
/-- the prices of a pair are its weight -/
def TP (es : List S69) (ys zs : List Int) (p : S50) : Prop := 0 ≤ rd ys p.f0 ∧ rd ys p.f0 ≤ wt es p.f0 p.f1 ∧ rd zs p.f1 = wt es p.f0 p.f1 - rd ys p.f0
def EdgesOK (es : List S69) (ys zs : List Int) : Prop := ∀ e ∈ es, e.f2 ≤ rd ys e.f0 + rd zs e.f1
def Small (n : Int) (ys : List Int) : Prop := ∀ r, 0 ≤ r → r < n → 0 ≤ rd ys r ∧ rd ys r ≤ 1099513724929
theorem tight_l3 {R C : Int} {es : List S69} (hg : Good R C es) (hn : es.length ≤ 1152921504606846976) (a b : Int) (ps : List S50) (ys zs : List Int) (hy : (ys.length : Int) = R) (hz : (zs.length : Int) = C) (sy : Small R ys) (sz : Small C zs) (d : Nat) : ∀ (k : Nat) (i : Int), 0 ≤ i → i + d = es.length → d < k →
    ∃ r, cabstandlaw18_tight.l3 k i a b es ps ys zs = some r ∧ (r = true ↔ EdgesOK (es.drop i.toNat) ys zs) := by
  induction d with
  | zero =>
    intro k i h0 h1 hk
    obtain ⟨k, rfl⟩ : ∃ m, k = m + 1 := ⟨k - 1, by omega⟩
    simp only [cabstandlaw18_tight.l3]
    rw [if_neg (by omega), List.drop_eq_nil_of_le (by omega)]
    exact ⟨true, rfl, by simp [EdgesOK]⟩
  | succ d ih =>
    intro k i h0 h1 hk
    obtain ⟨k, rfl⟩ : ∃ m, k = m + 1 := ⟨k - 1, by omega⟩
    have hi : i < (es.length : Int) := by omega
    obtain ⟨q0, q1, q2, q3, q4, q5⟩ := hg.inn _ (rdT_mem es i h0 hi)
    have e1 : wrap64 (i + 1) = i + 1 := by unfold wrap64; omega
    obtain ⟨y0, y1⟩ := sy _ q0 q1
    obtain ⟨z0, z1⟩ := sz _ q2 q3
    have e2 : wrap64 (rd ys (rd_T69 es i).f0 + rd zs (rd_T69 es i).f1) = rd ys (rd_T69 es i).f0 + rd zs (rd_T69 es i).f1 := by unfold wrap64; omega
    simp only [cabstandlaw18_tight.l3]
    rw [if_pos hi, if_pos h0, if_pos q0, if_pos (by omega), if_pos q2, if_pos (by omega), e2, e1, drop_T69 es i h0 hi]
    by_cases hc : rd ys (rd_T69 es i).f0 + rd zs (rd_T69 es i).f1 < (rd_T69 es i).f2
    · rw [if_pos hc]
      refine ⟨false, rfl, ?_⟩
      simp only [EdgesOK, List.mem_cons, forall_eq_or_imp]
      constructor
      · intro h; cases h
      · rintro ⟨h, _⟩; omega
    · rw [if_neg hc]
      obtain ⟨r, hr, hq⟩ := ih k (i + 1) (by omega) (by omega) (by omega)
      refine ⟨r, hr, ?_⟩
      rw [hq]
      simp only [EdgesOK, List.mem_cons, forall_eq_or_imp]
      constructor
      · intro h; exact ⟨by omega, h⟩
      · rintro ⟨_, h⟩; exact h
/-- from place i on all prices are 0 but those at the places of S -/
def ZeroOff (i n : Int) (S : List Int) (ys : List Int) : Prop := ∀ r, i ≤ r → r < n → r ∉ S → rd ys r = 0
theorem zero_next {i n : Int} {S ys : List Int} (h : ZeroOff (i + 1) n S ys) (hq : i ∉ S → rd ys i = 0) : ZeroOff i n S ys := fun r h0 h1 h2 => by
  by_cases e : r = i
  · subst e; exact hq h2
  · exact h r (by omega) h1 h2
theorem zero_tail {i n : Int} {S ys : List Int} (h : ZeroOff i n S ys) : ZeroOff (i + 1) n S ys := fun r h0 h1 h2 => h r (by omega) h1 h2
theorem small_of {n : Int} {S ys : List Int} (h : ZeroOff 0 n S ys) (hs : ∀ r ∈ S, 0 ≤ rd ys r ∧ rd ys r ≤ 1099513724929) : Small n ys := fun r h0 h1 => by
  by_cases hr : r ∈ S
  · exact hs r hr
  · rw [h r h0 h1 hr]; omega
theorem tight_l2 {R C : Int} {es : List S69} (hg : Good R C es) (hn : es.length ≤ 1152921504606846976) (b : Int) (ps : List S50) (ys zs : List Int) (hy : (ys.length : Int) = R) (hz : (zs.length : Int) = C) (sy : Small R ys) (cs : List Int) (sc : ∀ r ∈ cs, 0 ≤ rd zs r ∧ rd zs r ≤ 1099513724929) (x6 : List Bool) (hx : FlagOK x6 C cs) (d : Nat) : ∀ (k : Nat) (i : Int), 0 ≤ i → i + d = C → (ZeroOff i C cs zs → ZeroOff 0 C cs zs) → d + es.length + 1 < k →
    ∃ r, cabstandlaw18_tight.l2 k x6 i R C es ps ys zs = some r ∧ (r = true ↔ ZeroOff i C cs zs ∧ EdgesOK es ys zs) := by
  have hC := hg.c1
  induction d with
  | zero =>
    intro k i h0 h1 hp hk
    obtain ⟨k, rfl⟩ : ∃ m, k = m + 1 := ⟨k - 1, by omega⟩
    simp only [cabstandlaw18_tight.l2]
    rw [if_neg (by omega)]
    have hzz : ZeroOff i C cs zs := fun r _ _ _ => by omega
    obtain ⟨r, hr, hq⟩ := tight_l3 hg hn R C ps ys zs hy hz sy (small_of (hp hzz) sc) es.length k 0 (by omega) (by omega) (by omega)
    refine ⟨r, hr, ?_⟩
    rw [hq]
    exact ⟨fun h => ⟨hzz, h⟩, fun h => h.2⟩
  | succ d ih =>
    intro k i h0 h1 hp hk
    obtain ⟨k, rfl⟩ : ∃ m, k = m + 1 := ⟨k - 1, by omega⟩
    have hi : i < C := by omega
    have hxl := hx.1
    have e1 : wrap64 (i + 1) = i + 1 := by unfold wrap64; omega
    simp only [cabstandlaw18_tight.l2]
    rw [if_pos hi, if_pos h0, if_pos (by omega), e1]
    have go : (i ∉ cs → rd zs i = 0) → ∃ r, cabstandlaw18_tight.l2 k x6 (i + 1) R C es ps ys zs = some r ∧ (r = true ↔ ZeroOff i C cs zs ∧ EdgesOK es ys zs) := fun hq => by
      obtain ⟨r, hr, hb⟩ := ih k (i + 1) (by omega) (by omega) (fun h => hp (zero_next h hq)) (by omega)
      refine ⟨r, hr, hb.trans ⟨fun h => ⟨zero_next h.1 hq, h.2⟩, fun h => ⟨zero_tail h.1, h.2⟩⟩⟩
    by_cases hf : rdOf false x6 i = true
    · rw [if_pos hf]
      exact go (fun h => absurd ((hx.2 i h0 hi).1 hf) h)
    · rw [if_neg hf, if_pos (by omega)]
      by_cases hq : rd zs i = 0
      · rw [if_pos hq]
        exact go (fun _ => hq)
      · rw [if_neg hq]
        refine ⟨false, rfl, ⟨fun h => (by cases h), fun h => absurd (h.1 i (by omega) hi (fun q => hf ((hx.2 i h0 hi).2 q))) hq⟩⟩
theorem tight_l1 {R C : Int} {es : List S69} (hg : Good R C es) (hn : es.length ≤ 1152921504606846976) (ps : List S50) (ys zs : List Int) (hy : (ys.length : Int) = R) (hz : (zs.length : Int) = C) (rs cs : List Int) (sr : ∀ r ∈ rs, 0 ≤ rd ys r ∧ rd ys r ≤ 1099513724929) (sc : ∀ r ∈ cs, 0 ≤ rd zs r ∧ rd zs r ≤ 1099513724929) (x5 x6 : List Bool) (hx5 : FlagOK x5 R rs) (hx : FlagOK x6 C cs) (d : Nat) : ∀ (k : Nat) (i : Int), 0 ≤ i → i + d = R → (ZeroOff i R rs ys → ZeroOff 0 R rs ys) → d + C.toNat + es.length + 2 < k →
    ∃ r, cabstandlaw18_tight.l1 k x5 x6 i R C es ps ys zs = some r ∧ (r = true ↔ ZeroOff i R rs ys ∧ ZeroOff 0 C cs zs ∧ EdgesOK es ys zs) := by
  have hR := hg.r1
  have hC0 := hg.c0
  induction d with
  | zero =>
    intro k i h0 h1 hp hk
    obtain ⟨k, rfl⟩ : ∃ m, k = m + 1 := ⟨k - 1, by omega⟩
    simp only [cabstandlaw18_tight.l1]
    rw [if_neg (by omega)]
    have hzz : ZeroOff i R rs ys := fun r _ _ _ => by omega
    obtain ⟨r, hr, hq⟩ := tight_l2 hg hn 0 ps ys zs hy hz (small_of (hp hzz) sr) cs sc x6 hx C.toNat k 0 (by omega) (by omega) (fun h => h) (by omega)
    refine ⟨r, hr, ?_⟩
    rw [hq]
    exact ⟨fun h => ⟨hzz, h⟩, fun h => h.2⟩
  | succ d ih =>
    intro k i h0 h1 hp hk
    obtain ⟨k, rfl⟩ : ∃ m, k = m + 1 := ⟨k - 1, by omega⟩
    have hi : i < R := by omega
    have hxl := hx5.1
    have e1 : wrap64 (i + 1) = i + 1 := by unfold wrap64; omega
    simp only [cabstandlaw18_tight.l1]
    rw [if_pos hi, if_pos h0, if_pos (by omega), e1]
    have go : (i ∉ rs → rd ys i = 0) → ∃ r, cabstandlaw18_tight.l1 k x5 x6 (i + 1) R C es ps ys zs = some r ∧ (r = true ↔ ZeroOff i R rs ys ∧ ZeroOff 0 C cs zs ∧ EdgesOK es ys zs) := fun hq => by
      obtain ⟨r, hr, hb⟩ := ih k (i + 1) (by omega) (by omega) (fun h => hp (zero_next h hq)) (by omega)
      refine ⟨r, hr, hb.trans ⟨fun h => ⟨zero_next h.1 hq, h.2⟩, fun h => ⟨zero_tail h.1, h.2⟩⟩⟩
    by_cases hf : rdOf false x5 i = true
    · rw [if_pos hf]
      exact go (fun h => absurd ((hx5.2 i h0 hi).1 hf) h)
    · rw [if_neg hf, if_pos (by omega)]
      by_cases hq : rd ys i = 0
      · rw [if_pos hq]
        exact go (fun _ => hq)
      · rw [if_neg hq]
        refine ⟨false, rfl, ⟨fun h => (by cases h), fun h => absurd (h.1 i (by omega) hi (fun q => hf ((hx5.2 i h0 hi).2 q))) hq⟩⟩
/-- all that is asked of the pairs to come -/
def Ask (R C : Int) (es : List S69) (ys zs : List Int) (lst : Int) (rs cs : List Int) (qs : List S50) : Prop :=
  pairsB es lst cs qs = true ∧ (∀ p ∈ qs, TP es ys zs p) ∧ (∀ r, 0 ≤ r → r < R → r ∉ rs → r ∉ qs.map (·.f0) → rd ys r = 0) ∧ (∀ c, 0 ≤ c → c < C → c ∉ cs → c ∉ qs.map (·.f1) → rd zs c = 0) ∧ EdgesOK es ys zs
theorem not_ask {R C : Int} {es : List S69} {ys zs : List Int} {lst : Int} {rs cs : List Int} {p : S50} {qs : List S50} (h : ¬ (lst < p.f0 ∧ wt es p.f0 p.f1 ≠ 0 ∧ p.f1 ∉ cs ∧ TP es ys zs p)) : ∃ r, some false = some r ∧ (r = true ↔ Ask R C es ys zs lst rs cs (p :: qs)) := by
  refine ⟨false, rfl, ⟨fun q => (by cases q), fun q => absurd ?_ h⟩⟩
  obtain ⟨q1, q2, _⟩ := q
  simp only [pairsB, Bool.and_eq_true, decide_eq_true_eq, bne_iff_ne, Bool.not_eq_true', List.contains_eq_mem, decide_eq_false_iff_not] at q1
  exact ⟨q1.1.1.1, q1.1.1.2, q1.1.2, q2 p (by simp)⟩
theorem ask_cons {R C : Int} {es : List S69} {ys zs : List Int} {lst : Int} {rs cs : List Int} {p : S50} {qs : List S50} (h : lst < p.f0 ∧ wt es p.f0 p.f1 ≠ 0 ∧ p.f1 ∉ cs ∧ TP es ys zs p) : Ask R C es ys zs p.f0 (p.f0 :: rs) (p.f1 :: cs) qs ↔ Ask R C es ys zs lst rs cs (p :: qs) := by
  obtain ⟨h1, h2, h3, h4⟩ := h
  have e : pairsB es lst cs (p :: qs) = pairsB es p.f0 (p.f1 :: cs) qs := by
    have h3' : (cs.contains p.f1) = false := by simpa using h3
    rw [pairsB, h3', decide_eq_true h1]
    have : (wt es p.f0 p.f1 != 0) = true := by simpa using h2
    rw [this]; rfl
  unfold Ask
  rw [e]
  constructor
  · rintro ⟨a, b, c, d, f⟩
    refine ⟨a, fun q hq => ?_, fun r r0 r1 r2 r3 => c r r0 r1 ?_ ?_, fun r r0 r1 r2 r3 => d r r0 r1 ?_ ?_, f⟩
    · rcases List.mem_cons.1 hq with rfl | hq
      · exact h4
      · exact b q hq
    · intro q; rcases List.mem_cons.1 q with q | q
      · exact r3 (by simp [q])
      · exact r2 q
    · intro q; exact r3 (by rw [List.map_cons]; exact List.mem_cons_of_mem _ q)
    · intro q; rcases List.mem_cons.1 q with q | q
      · exact r3 (by simp [q])
      · exact r2 q
    · intro q; exact r3 (by rw [List.map_cons]; exact List.mem_cons_of_mem _ q)
  · rintro ⟨a, b, c, d, f⟩
    refine ⟨a, fun q hq => b q (by simp [hq]), fun r r0 r1 r2 r3 => c r r0 r1 (fun q => r2 (by simp [q])) ?_, fun r r0 r1 r2 r3 => d r r0 r1 (fun q => r2 (by simp [q])) ?_, f⟩
    · intro q; rw [List.map_cons] at q; rcases List.mem_cons.1 q with q | q
      · exact r2 (by simp [q])
      · exact r3 q
    · intro q; rw [List.map_cons] at q; rcases List.mem_cons.1 q with q | q
      · exact r2 (by simp [q])
      · exact r3 q
theorem tight_j3f (k : Nat) (x5 x6 : List Bool) (i R C : Int) (es : List S69) (ps : List S50) (ys zs : List Int) (p q : Int) : cabstandlaw18_tight.j3 (k + 1) x5 x6 i true R C es ps ys zs p q = some false := by simp [cabstandlaw18_tight.j3]
theorem tight_j2f (k : Nat) (x5 x6 : List Bool) (i R C : Int) (es : List S69) (ps : List S50) (ys zs : List Int) (p q : Int) : cabstandlaw18_tight.j2 (k + 1) x5 x6 i true R C es ps ys zs p q = some false := by simp [cabstandlaw18_tight.j2]
theorem tight_l0 {R C : Int} {es : List S69} (hg : Good R C es) (hn : es.length ≤ 1152921504606846976) (ps : List S50) (hps : ps.length ≤ 1152921504606846976) (ys zs : List Int) (hy : (ys.length : Int) = R) (hz : (zs.length : Int) = C) (d : Nat) : ∀ (k : Nat) (i lst : Int) (rs cs : List Int) (x5 x6 : List Bool), 0 ≤ i → i + d = ps.length → (∀ r ∈ rs, 0 ≤ rd ys r ∧ rd ys r ≤ 1099513724929) → (∀ r ∈ cs, 0 ≤ rd zs r ∧ rd zs r ≤ 1099513724929) → FlagOK x5 R rs → FlagOK x6 C cs → (∀ r ∈ rs, r ≤ lst) → (i = 0 → lst = -1) → (0 < i → lst = (rd_T50 ps (i - 1)).f0) →
    3 * d + R.toNat + C.toNat + es.length + 64 * (es.length + 2) + 20 < k →
    ∃ r, cabstandlaw18_tight.l0 k x5 x6 i R C es ps ys zs = some r ∧ (r = true ↔ Ask R C es ys zs lst rs cs (ps.drop i.toNat)) := by
  have hR0 := hg.r0
  have hR1 := hg.r1
  induction d with
  | zero =>
    intro k i lst rs cs x5 x6 h0 h1 sr sc f5 f6 hl0 hl1 hl2 hk
    obtain ⟨k, rfl⟩ : ∃ m, k = m + 1 := ⟨k - 1, by omega⟩
    simp only [cabstandlaw18_tight.l0]
    rw [if_neg (by omega), List.drop_eq_nil_of_le (by omega)]
    obtain ⟨r, hr, hq⟩ := tight_l1 hg hn ps ys zs hy hz rs cs sr sc x5 x6 f5 f6 R.toNat k 0 (by omega) (by omega) (fun h => h) (by omega)
    refine ⟨r, hr, hq.trans ⟨fun ⟨a, b, c⟩ => ⟨rfl, by simp, fun r r0 r1 r2 _ => a r r0 r1 r2, fun r r0 r1 r2 _ => b r r0 r1 r2, c⟩, fun ⟨_, _, a, b, c⟩ => ⟨fun r r0 r1 r2 => a r r0 r1 r2 (by simp), fun r r0 r1 r2 => b r r0 r1 r2 (by simp), c⟩⟩⟩
  | succ d ih =>
    intro k i lst rs cs x5 x6 h0 h1 sr sc f5 f6 hl0 hl1 hl2 hk
    obtain ⟨k, rfl⟩ : ∃ m, k = m + 3 := ⟨k - 3, by omega⟩
    have hi : i < (ps.length : Int) := by omega
    have e1 : wrap64 (i + 1) = i + 1 := by unfold wrap64; omega
    have e2 : wrap64 (i - 1) = i - 1 := by unfold wrap64; omega
    have hl5 := f5.1
    have hl6 := f6.1
    simp only [cabstandlaw18_tight.l0]
    rw [drop_T50 ps i h0 hi, if_pos hi, if_pos h0]
    have hnx : (rd_T50 ps (i + 1 - 1)) = rd_T50 ps i := by rw [Int.add_sub_cancel]
    generalize hp : rd_T50 ps i = p at *
    have hin : wt es p.f0 p.f1 ≠ 0 → 0 ≤ p.f0 ∧ p.f0 < R ∧ 0 ≤ p.f1 ∧ p.f1 < C := fun hw => by
      obtain ⟨e, he, a, b, _⟩ := wt_ne hw
      have := hg.inn e he
      omega
    by_cases c1 : p.f0 < 0
    · rw [if_pos c1, tight_j2f]
      exact not_ask (fun q => by have := hin q.2.1; omega)
    by_cases c2 : p.f0 ≥ R
    · rw [if_neg c1, if_pos c2, tight_j2f]
      exact not_ask (fun q => by have := hin q.2.1; omega)
    by_cases c3 : p.f1 < 0
    · rw [if_neg c1, if_neg c2, if_pos c3, tight_j2f]
      exact not_ask (fun q => by have := hin q.2.1; omega)
    by_cases c4 : p.f1 ≥ C
    · rw [if_neg c1, if_neg c2, if_neg c3, if_pos c4, tight_j2f]
      exact not_ask (fun q => by have := hin q.2.1; omega)
    rw [if_neg c1, if_neg c2, if_neg c3, if_neg c4, if_pos (by omega), if_pos (by omega)]
    by_cases c5 : rdOf false x5 p.f0 = true
    · rw [if_pos c5, tight_j2f]
      exact not_ask (fun q => by have := hl0 _ ((f5.2 p.f0 (by omega) (by omega)).1 c5); omega)
    rw [if_neg c5, if_pos (by omega), if_pos (by omega)]
    by_cases c6 : rdOf false x6 p.f1 = true
    · rw [if_pos c6, tight_j2f]
      exact not_ask (fun q => q.2.2.1 ((f6.2 p.f1 (by omega) (by omega)).1 c6))
    rw [if_neg c6]
    have hnc : p.f1 ∉ cs := fun q => c6 ((f6.2 p.f1 (by omega) (by omega)).2 q)
    have core : lst < p.f0 → ∃ r, cabstandlaw18_tight.j2 (k + 2) x5 x6 i false R C es ps ys zs p.f0 p.f1 = some r ∧ (r = true ↔ Ask R C es ys zs lst rs cs (p :: ps.drop (i + 1).toNat)) := fun hlt => by
      have hw := wt_bound hg p.f0 p.f1
      have hwo : cabstandlaw18_worth.f (k + 1) R C es [p] = some (wt es p.f0 p.f1) := by
        rw [worth_is hg hn R C [p] (by simp) _ (by omega)]
        simp [worthP]
      have hpe : (⟨p.f0, p.f1⟩ : S50) = p := rfl
      simp only [cabstandlaw18_tight.j2]
      rw [if_neg (by simp), hpe, hwo, Option.bind_some]
      by_cases w0 : wt es p.f0 p.f1 = 0
      · rw [if_pos w0, tight_j3f]
        exact not_ask (fun q => q.2.1 w0)
      rw [if_neg w0, if_pos (by omega), if_pos (by omega)]
      by_cases w1 : rd ys p.f0 < 0
      · rw [if_pos w1, tight_j3f]
        exact not_ask (fun q => by have := q.2.2.2.1; omega)
      by_cases w2 : rd ys p.f0 > wt es p.f0 p.f1
      · rw [if_neg w1, if_pos w2, tight_j3f]
        exact not_ask (fun q => by have := q.2.2.2.2.1; omega)
      have e3 : wrap64 (wt es p.f0 p.f1 - rd ys p.f0) = wt es p.f0 p.f1 - rd ys p.f0 := by unfold wrap64; omega
      rw [if_neg w1, if_neg w2, if_pos (by omega), if_pos (by omega), e3]
      by_cases w3 : rd zs p.f1 = wt es p.f0 p.f1 - rd ys p.f0
      · have w3' : (rd zs p.f1 != wt es p.f0 p.f1 - rd ys p.f0) = false := by simpa using w3
        rw [w3']
        simp only [cabstandlaw18_tight.j3]
        rw [if_neg (by simp), if_pos (by omega), if_pos (by omega), if_pos (by omega), if_pos (by omega), e1]
        have hask : lst < p.f0 ∧ wt es p.f0 p.f1 ≠ 0 ∧ p.f1 ∉ cs ∧ TP es ys zs p := ⟨hlt, w0, hnc, by omega, by omega, w3⟩
        obtain ⟨r, hr, hq⟩ := ih k (i + 1) p.f0 (p.f0 :: rs) (p.f1 :: cs) _ _ (by omega) (by omega) (fun r hr => by
          rcases List.mem_cons.1 hr with rfl | hr
          · omega
          · exact sr r hr) (fun r hr => by
          rcases List.mem_cons.1 hr with rfl | hr
          · omega
          · exact sc r hr) (flag_set f5 p.f0 (by omega) (by omega)) (flag_set f6 p.f1 (by omega) (by omega)) (fun r hr => by
          rcases List.mem_cons.1 hr with rfl | hr
          · omega
          · have := hl0 r hr; omega) (fun h => by omega) (fun _ => by rw [hnx]) (by omega)
        exact ⟨r, hr, hq.trans (ask_cons hask)⟩
      · have w3' : (rd zs p.f1 != wt es p.f0 p.f1 - rd ys p.f0) = true := by simpa using w3
        rw [w3', tight_j3f]
        exact not_ask (fun q => w3 q.2.2.2.2.2)
    by_cases c7 : i > 0
    · rw [if_pos c7, e2, if_pos (by omega), if_pos (by omega), ← hl2 c7]
      by_cases c8 : lst ≥ p.f0
      · rw [decide_eq_true c8, tight_j2f]
        exact not_ask (fun q => by omega)
      · rw [decide_eq_false c8]
        exact core (by omega)
    · rw [if_neg c7]
      exact core (by have := hl1 (by omega); omega)
theorem rd_over (l : List Int) (i : Int) (h : (l.length : Int) ≤ i) : rd l i = 0 := by
  have h1 : l.length ≤ i.toNat := by omega
  simp [rd, List.getD, h1]
theorem sum_zero : ∀ (l : List Int), (∀ p ∈ l, p = 0) → l.sum = 0
  | [], _ => rfl
  | q :: l, h => by
    have := sum_zero l (fun p hp => h p (by simp [hp]))
    rw [List.sum_cons, this, h q (by simp)]
    rfl
theorem mem_rd {l : List Int} {p : Int} (h : p ∈ l) : ∃ i : Int, 0 ≤ i ∧ i < l.length ∧ rd l i = p := by
  obtain ⟨n, hn, e⟩ := List.getElem_of_mem h
  exact ⟨n, by omega, by omega, by simp [rd, List.getD, hn, e]⟩
theorem rd_set_eq {l : List Int} {i x : Int} (hi : 0 ≤ i) (h : i < l.length) : rd (l.set i.toNat x) i = x := by
  have h1 : i.toNat < l.length := by omega
  simp [rd, List.getD, h1]
/-- what is left is nothing but the pairs' own prices -/
theorem left_tite {es : List S69} : ∀ (ps : List S50) (Y Z : List Int), Left es Y Z ps → (∀ p ∈ ps, rd Y p.f0 + rd Z p.f1 = wt es p.f0 p.f1) ∧ (∀ r, 0 ≤ r → r ∉ ps.map (·.f0) → rd Y r = 0) ∧ (∀ c, 0 ≤ c → c ∉ ps.map (·.f1) → rd Z c = 0)
  | [], Y, Z, h => by
    have ht := h.tot
    have h1 := sum_nonneg Y h.y0
    have h2 := sum_nonneg Z h.z0
    simp only [worthP] at ht
    have zero : ∀ (l : List Int), (∀ p ∈ l, 0 ≤ p) → l.sum = 0 → ∀ r, 0 ≤ r → rd l r = 0 := fun l a b r r0 => by
      by_cases hr : r < (l.length : Int)
      · exact all_zero l a b _ (rd_mem l r r0 hr)
      · exact rd_over l r (by omega)
    exact ⟨by simp, fun r r0 _ => zero Y h.y0 (by omega) r r0, fun r r0 _ => zero Z h.z0 (by omega) r r0⟩
  | p :: ps, Y, Z, h => by
    obtain ⟨e, h'⟩ := h.step
    obtain ⟨i0, i1, i2, i3⟩ := h.inn p (by simp)
    obtain ⟨r1, _⟩ := List.nodup_cons.1 h.rn
    obtain ⟨c1, _⟩ := List.nodup_cons.1 h.cn
    obtain ⟨a, b, c⟩ := left_tite ps _ _ h'
    refine ⟨fun q hq => ?_, fun r r0 hr => ?_, fun r r0 hr => ?_⟩
    · rcases List.mem_cons.1 hq with rfl | hq
      · exact e
      · have hin := h.inn q (by simp [hq])
        have := a q hq
        rwa [rd_set_ne i0 hin.1 (fun e => r1 (List.mem_map.2 ⟨q, hq, e.symm⟩)), rd_set_ne i2 hin.2.2.1 (fun e => c1 (List.mem_map.2 ⟨q, hq, e.symm⟩))] at this
    · rw [List.map_cons, List.mem_cons, not_or] at hr
      have := b r r0 hr.2
      rwa [rd_set_ne i0 r0 (fun e => hr.1 e.symm)] at this
    · rw [List.map_cons, List.mem_cons, not_or] at hr
      have := c r r0 hr.2
      rwa [rd_set_ne i2 r0 (fun e => hr.1 e.symm)] at this
theorem tite_sum {es : List S69} : ∀ (ps : List S50) (Y Z : List Int), (ps.map (·.f0)).Nodup → (ps.map (·.f1)).Nodup → (∀ p ∈ ps, 0 ≤ p.f0 ∧ p.f0 < Y.length ∧ 0 ≤ p.f1 ∧ p.f1 < Z.length) → (∀ p ∈ ps, rd Y p.f0 + rd Z p.f1 = wt es p.f0 p.f1) → (∀ r : Int, 0 ≤ r → r < Y.length → r ∉ ps.map (·.f0) → rd Y r = 0) → (∀ c : Int, 0 ≤ c → c < Z.length → c ∉ ps.map (·.f1) → rd Z c = 0) → Y.sum + Z.sum = worthP es ps
  | [], Y, Z, _, _, _, _, hy, hz => by
    have e1 : Y.sum = 0 := sum_zero Y (fun p hp => by
      obtain ⟨i, i0, i1, rfl⟩ := mem_rd hp
      exact hy i i0 i1 (by simp))
    have e2 : Z.sum = 0 := sum_zero Z (fun p hp => by
      obtain ⟨i, i0, i1, rfl⟩ := mem_rd hp
      exact hz i i0 i1 (by simp))
    rw [e1, e2]; rfl
  | p :: ps, Y, Z, rn, cn, hin, hw, hy, hz => by
    obtain ⟨r1, r2⟩ := List.nodup_cons.1 rn
    obtain ⟨c1, c2⟩ := List.nodup_cons.1 cn
    obtain ⟨i0, i1, i2, i3⟩ := hin p (by simp)
    have s1 := sum_set Y p.f0.toNat (by omega)
    have s2 := sum_set Z p.f1.toNat (by omega)
    have e1 : rd Y p.f0 = Y.getD p.f0.toNat 0 := rfl
    have e2 : rd Z p.f1 = Z.getD p.f1.toNat 0 := rfl
    have ih := tite_sum ps (Y.set p.f0.toNat 0) (Z.set p.f1.toNat 0) r2 c2 (fun q hq => by rw [List.length_set, List.length_set]; exact hin q (by simp [hq]))
      (fun q hq => by
        have h0 := hin q (by simp [hq])
        rw [rd_set_ne i0 h0.1 (fun e => r1 (List.mem_map.2 ⟨q, hq, e.symm⟩)), rd_set_ne i2 h0.2.2.1 (fun e => c1 (List.mem_map.2 ⟨q, hq, e.symm⟩))]
        exact hw q (by simp [hq]))
      (fun r r0 r1' hr => by
        rw [List.length_set] at r1'
        by_cases e : r = p.f0
        · rw [e, rd_set_eq i0 i1]
        · rw [rd_set_ne i0 r0 (fun q => e q.symm)]
          exact hy r r0 r1' (by rw [List.map_cons, List.mem_cons, not_or]; exact ⟨e, hr⟩))
      (fun r r0 r1' hr => by
        rw [List.length_set] at r1'
        by_cases e : r = p.f1
        · rw [e, rd_set_eq i2 i3]
        · rw [rd_set_ne i2 r0 (fun q => e q.symm)]
          exact hz r r0 r1' (by rw [List.map_cons, List.mem_cons, not_or]; exact ⟨e, hr⟩))
    have := hw p (by simp)
    simp only [worthP]
    omega
theorem pairs_wt {es : List S69} : ∀ (ps : List S50) (lst : Int) (tk : List Int), pairsB es lst tk ps = true → ∀ p ∈ ps, wt es p.f0 p.f1 ≠ 0
  | [], _, _, _, p, hp => by cases hp
  | q :: ps, lst, tk, h, p, hp => by
    simp only [pairsB, Bool.and_eq_true, decide_eq_true_eq, bne_iff_ne] at h
    rcases List.mem_cons.1 hp with rfl | hp
    · exact h.1.1.2
    · exact pairs_wt ps _ _ h.2 p hp
/-- the document's words say just what Check says -/
theorem ask_check {R C : Int} {es : List S69} {ps : List S50} {ys zs : List Int} (hw : weighC R C es = 0) (hl : lengthsC R C ys zs = 0) : Ask R C es ys zs (-1) [] [] ps ↔ checkC R C es ps ys zs = 0 := by
  have hg := good_of hw
  obtain ⟨l1, l2⟩ := lengthsC_zero hl
  constructor
  · rintro ⟨a, b, c, d, f⟩
    obtain ⟨_, rn, _, cn⟩ := pairs_rows ps (-1) [] a
    have hin : ∀ p ∈ ps, wt es p.f0 p.f1 ≠ 0 ∧ 0 ≤ p.f0 ∧ p.f0 < ys.length ∧ 0 ≤ p.f1 ∧ p.f1 < zs.length := fun p hp => by
      have h0 := pairs_wt ps (-1) [] a p hp
      obtain ⟨e, he, e0, e1, _⟩ := wt_ne h0
      have := hg.inn e he
      omega
    have hs := tite_sum (es := es) ps ys zs rn cn (fun p hp => (hin p hp).2) (fun p hp => by have := b p hp; unfold TP at this; omega)
      (fun r r0 r1 hr => c r r0 (by omega) (by simp) hr) (fun r r0 r1 hr => d r r0 (by omega) (by simp) hr)
    have y0 : ∀ p ∈ ys, 0 ≤ p := fun p hp => by
      obtain ⟨i, i0, i1, rfl⟩ := mem_rd hp
      by_cases hr : i ∈ ps.map (·.f0)
      · obtain ⟨q, hq, rfl⟩ := List.mem_map.1 hr
        exact (b q hq).1
      · rw [c i i0 (by omega) (by simp) hr]
        omega
    have z0 : ∀ p ∈ zs, 0 ≤ p := fun p hp => by
      obtain ⟨i, i0, i1, rfl⟩ := mem_rd hp
      by_cases hr : i ∈ ps.map (·.f1)
      · obtain ⟨q, hq, rfl⟩ := List.mem_map.1 hr
        have := b q hq
        unfold TP at this
        omega
      · rw [d i i0 (by omega) (by simp) hr]
        omega
    have hd : holdB es ys zs = true := by
      simp only [holdB, Bool.and_eq_true, List.all_eq_true, decide_eq_true_eq, List.mem_append]
      exact ⟨fun p hp => hp.elim (y0 p) (z0 p), fun e he => by have := f e he; omega⟩
    have hfew := pairs_few hg ps (-1) [] (by omega) (by omega) a
    have hb := worth_bound hg ps
    have hb2 : worthP es ps ≤ 70368878395456 := by
      have : (ps.length : Int) * 1099513724929 ≤ 64 * 1099513724929 := Int.mul_le_mul_of_nonneg_right (by omega) (by decide)
      omega
    have hc : clsum ys zs = (worthP es ps, true) := by
      unfold clsum
      rw [sumL_some (ys ++ zs) 0 (fun p hp => (List.mem_append.1 hp).elim (y0 p) (z0 p)) (by rw [List.sum_append]; omega), List.sum_append, hs, Int.zero_add]
    exact check_zero.2 ⟨hw, pairsC_zero.2 a, hl, dualC_zero.2 hd, gapC_zero.2 hc⟩
  · intro h
    obtain ⟨_, p, _, q, _⟩ := check_zero.1 h
    obtain ⟨h1, h2, h3⟩ := holdB_is (dualC_zero.1 q)
    obtain ⟨a, b, c⟩ := left_tite ps ys zs (left_start h)
    have hL := left_start h
    refine ⟨pairsC_zero.1 p, fun p hp => ?_, fun r r0 _ _ hr => b r r0 hr, fun r r0 _ _ hr => c r r0 hr, fun e he => by have := h3 e he; omega⟩
    have hin := hL.inn p hp
    have e1 := a p hp
    have e2 := rd_nonneg h1 p.f0
    have e3 := rd_nonneg h2 p.f1
    exact ⟨e2, by omega, by omega⟩
theorem tight_is {R C : Int} {es : List S69} {ps : List S50} {ys zs : List Int} (hf : Fits es ps ys zs) (hw : weighC R C es = 0) (k : Nat) (hk : 3 * ps.length + R.toNat + C.toNat + es.length + 64 * (es.length + 2) + 21 < k) : cabstandlaw18_tight.f k R C es ps ys zs = some (decide (checkC R C es ps ys zs = 0)) := by
  have hg := good_of hw
  have hR0 := hg.r0
  have hR1 := hg.r1
  have hC0 := hg.c0
  have hC1 := hg.c1
  obtain ⟨k, rfl⟩ : ∃ m, k = m + 1 := ⟨k - 1, by omega⟩
  have hbad : lengthsC R C ys zs ≠ 0 → cabstandlaw18_tight.j0 (k + 1) true R C es ps ys zs = some (decide (checkC R C es ps ys zs = 0)) := fun h => by
    rw [decide_eq_false (fun q => h (check_zero.1 q).2.2.1)]
    simp [cabstandlaw18_tight.j0]
  unfold cabstandlaw18_tight.f
  by_cases h1 : (ys.length : Int) = R
  · rw [if_pos h1]
    by_cases h2 : (zs.length : Int) = C
    · have hb : ((zs.length : Int) != C) = false := by simpa using h2
      have hl : lengthsC R C ys zs = 0 := by unfold lengthsC; rw [if_pos h1, if_pos h2]
      rw [hb]
      simp only [cabstandlaw18_tight.j0]
      rw [if_neg (by simp), if_pos hR0, if_pos (by omega), if_pos hC0, if_pos (by omega)]
      obtain ⟨r, hr, hq⟩ := tight_l0 hg hf.1 ps hf.2.1 ys zs h1 h2 ps.length k 0 (-1) [] [] _ _ (by omega) (by omega) (by simp) (by simp) (flag_start hR0) (flag_start hC0) (by simp) (fun _ => rfl) (fun h => by omega) (by omega)
      rw [hr]
      have hq2 := hq.trans (ask_check hw hl)
      congr 1
      rw [Bool.eq_iff_iff, decide_eq_true_eq]
      exact hq2
    · have hb : ((zs.length : Int) != C) = true := by simpa using h2
      rw [hb]
      exact hbad (fun q => h2 (lengthsC_zero q).2)
  · rw [if_neg h1]
    exact hbad (fun q => h1 (lengthsC_zero q).1)
theorem pureCertTight : cabstandlaw18_CertTight.PureS := by
  intro a b es ps ys zs hg hc
  have len : ∀ n B : Nat, 8 ≤ B → n * B ≤ reachBytes → n ≤ 1152921504606846976 := by
    intro n B h8 h
    have : n * 8 ≤ n * B := Nat.mul_le_mul_left _ h8
    simp only [reachBytes] at h
    omega
  have f1 : Fits es ps ys zs := ⟨len _ _ (by omega) hg.2.2.1, len _ _ (by omega) hc.1.1, len _ _ (by omega) hc.2.1.1, len _ _ (by omega) hc.2.2.1, fun p hp => (bounds_i64 (hc.2.1.2 p hp)).2⟩
  have f2 : Fits es ps [] [] := ⟨f1.1, f1.2.1, by simp, by simp, by simp⟩
  have f4 : Fits es [] ys zs := ⟨f1.1, by simp, f1.2.2⟩
  refine ⟨3 * ps.length + a.toNat + b.toNat + es.length + 64 * (es.length + 2) + 22, ?_⟩
  generalize hK : 3 * ps.length + a.toNat + b.toNat + es.length + 64 * (es.length + 2) + 22 = K
  have hwc : cert_Pairs.f a b es ps = some (firstOf [weighC a b es, pairsC es ps]) := by unfold cert_Pairs.f; rw [if_pos f2]
  have hbc : cert_Bound.f a b es ys zs = some (boundC a b es ys zs) := by unfold cert_Bound.f; rw [if_pos f4]
  have hwe : weigh_Check.f a b es = some (weighC a b es) := by unfold weigh_Check.f; rw [if_pos f1.1]
  simp only [cabstandlaw18_CertTight.f, check_is f1, hwe, hwc, hbc, Option.bind_some]
  by_cases h1 : weighC a b es = 0
  · have ht := tight_is f1 h1 K (by omega)
    rw [if_pos h1, ht, Option.bind_some]
    have hne : ((checkC a b es ps ys zs == 0) != decide (checkC a b es ps ys zs = 0)) = false := by
      by_cases h : checkC a b es ps ys zs = 0
      · rw [h]; rfl
      · rw [decide_eq_false h, beq_eq_false_iff_ne.mpr h]; rfl
    rw [hne, if_neg (by simp)]
    obtain ⟨K, rfl⟩ : ∃ m, K = m + 1 := ⟨K - 1, by omega⟩
    by_cases h2 : pairsC es ps = 0
    · have e1 : firstOf [weighC a b es, pairsC es ps] = 0 := by simp [firstOf, h1, h2]
      rw [e1, if_pos rfl]
      have hl : lengthsC a b ys zs = 0 ∨ lengthsC a b ys zs = 1 := by
        unfold lengthsC
        split
        · split
          · exact Or.inl rfl
          · exact Or.inr rfl
        · exact Or.inr rfl
      have hd : dualC es ys zs = 0 ∨ dualC es ys zs = 181 := by
        unfold dualC
        split
        · exact Or.inl rfl
        · exact Or.inr rfl
      have hgp : gapC es ps ys zs = 0 ∨ gapC es ps ys zs = 182 := by
        unfold gapC
        split
        · exact Or.inl rfl
        · exact Or.inr rfl
      rcases hl with hl | hl
      · rcases hd with hd | hd
        · have eb : (boundC a b es ys zs).2 = 0 ∨ (boundC a b es ys zs).2 = 3 := by
            unfold boundC
            rw [h1, hl, hd, if_pos (show firstOf [0, 0, 0] = 0 from rfl)]
            split
            · exact Or.inl rfl
            · exact Or.inr rfl
          have ec : checkC a b es ps ys zs = gapC es ps ys zs := by
            unfold checkC looksC
            rw [h1, h2, hl, hd]
            simp only [firstOf]
            split <;> simp_all
          rw [ec]
          have hj : ((boundC a b es ys zs).2 == 181) = false := by rcases eb with eb | eb <;> rw [eb] <;> rfl
          rw [if_neg (by omega), hj]
          simp only [cabstandlaw18_CertTight.j0]
          rw [if_neg (by simp), alive_is]
          rcases hgp with hgp | hgp <;> rw [hgp] <;> rfl
        · have eb : (boundC a b es ys zs).2 = 181 := by
            unfold boundC
            rw [h1, hl, hd]
            rfl
          have ec : checkC a b es ps ys zs = 181 := by
            unfold checkC looksC
            rw [h1, h2, hl, hd]
            rfl
          rw [ec, eb]
          simp only [cabstandlaw18_CertTight.j0, alive_is]
          rfl
      · have eb : (boundC a b es ys zs).2 = 1 := by
          unfold boundC
          rw [h1, hl]
          rfl
        have ec : checkC a b es ps ys zs = 1 := by
          unfold checkC looksC
          rw [h1, h2, hl]
          rfl
        rw [ec, eb]
        simp only [cabstandlaw18_CertTight.j0, alive_is]
        rfl
    · have h2' : pairsC es ps = 180 := by
        unfold pairsC at h2 ⊢
        split
        · rename_i h; rw [if_pos h] at h2; exact absurd rfl h2
        · rfl
      have e1 : firstOf [weighC a b es, pairsC es ps] = 180 := by rw [h1, h2']; rfl
      have ec : checkC a b es ps ys zs = 180 := by
        unfold checkC looksC
        rw [h1, h2']
        rfl
      rw [e1, ec, alive_is]
      rfl
  · have h1' : weighC a b es = 170 := by
      unfold weighC at h1 ⊢
      split
      · rfl
      · rename_i h; rw [if_neg h] at h1; exact absurd rfl h1
    have ec : checkC a b es ps ys zs = 170 := by
      unfold checkC looksC
      rw [h1']
      rfl
    have e1 : firstOf [weighC a b es, pairsC es ps] = 170 := by rw [h1']; rfl
    rw [if_neg h1, ec, e1, alive_is]
    rfl
end Go.Proofs.Ytmdidgdcdlodlaa.Q
