/- The check sum: its step is linear for the exclusive or, and no two states go to one. Plain Lean. Written in this session. -/
import Derived.Test.YtjijmikpoenbcaaCodecS
namespace Go.Proofs.Ytjijmikpoenbcaa.Codec
open Go.RowKit Go.Proofs.YtjijmikpoenbcaaW.PrintWords
theorem xor_div2 (a b : Nat) : (a ^^^ b) / 2 = a / 2 ^^^ b / 2 := by
  have h := Nat.shiftRight_xor_distrib (i := 1) (a := a) (b := b)
  simpa [Nat.shiftRight_eq_div_pow] using h
theorem xor_mod2 (a b : Nat) : (a ^^^ b) % 2 = (a % 2 + b % 2) % 2 := by
  have h := Nat.testBit_xor a b 0
  rw [Nat.testBit_zero, Nat.testBit_zero, Nat.testBit_zero] at h
  rcases Nat.mod_two_eq_zero_or_one a with ha | ha <;> rcases Nat.mod_two_eq_zero_or_one b with hb | hb <;> rcases Nat.mod_two_eq_zero_or_one (a ^^^ b) with hc | hc <;> simp_all
theorem downN_xor (a b : Nat) : downN (a ^^^ b) = downN a ^^^ downN b := by
  unfold downN
  have h := xor_mod2 a b
  rw [xor_div2]
  rcases Nat.mod_two_eq_zero_or_one a with ha | ha <;> rcases Nat.mod_two_eq_zero_or_one b with hb | hb
  · rw [ha, hb] at h; simp [ha, hb, h]
  · rw [ha, hb] at h; simp [ha, hb, h, Nat.xor_assoc]
  · rw [ha, hb] at h
    simp only [h, ha, hb, if_true, if_false, Nat.zero_ne_one]
    rw [Nat.xor_assoc, Nat.xor_comm (b / 2), ← Nat.xor_assoc]
    try rfl
  · rw [ha, hb] at h
    simp only [h, ha, hb, if_true]
    have e : a / 2 ^^^ 3988292384 ^^^ (b / 2 ^^^ 3988292384) = a / 2 ^^^ b / 2 ^^^ (3988292384 ^^^ 3988292384) := by
      rw [Nat.xor_assoc, ← Nat.xor_assoc 3988292384, Nat.xor_comm 3988292384 (b / 2), Nat.xor_assoc (b / 2), ← Nat.xor_assoc]
    rw [e, Nat.xor_self, Nat.xor_zero]
    simp
theorem downs_xor (k : Nat) : ∀ a b, downs k (a ^^^ b) = downs k a ^^^ downs k b := by
  induction k with
  | zero => intro a b; rfl
  | succ k ih => intro a b; simp only [downs]; rw [downN_xor, ih]
theorem downN_zero {c : Nat} (hc : c < 4294967296) (h : downN c = 0) : c = 0 := by
  unfold downN at h
  split at h
  · have h2 := congrArg (· ^^^ 3988292384) h
    simp only [Nat.xor_assoc, Nat.xor_self, Nat.xor_zero, Nat.zero_xor] at h2
    omega
  · omega
theorem xor_zero_eq {a b : Nat} (h : a ^^^ b = 0) : a = b := by
  have h2 := congrArg (· ^^^ b) h
  simpa [Nat.xor_assoc] using h2
theorem downN_inj {a b : Nat} (ha : a < 4294967296) (hb : b < 4294967296) (h : downN a = downN b) : a = b := by
  refine xor_zero_eq (downN_zero (Nat.xor_lt_two_pow (n := 32) ha hb) ?_)
  rw [downN_xor, h, Nat.xor_self]
theorem downs_inj (k : Nat) : ∀ {a b : Nat}, a < 4294967296 → b < 4294967296 → downs k a = downs k b → a = b := by
  induction k with
  | zero => intro a b _ _ h; exact h
  | succ k ih => intro a b ha hb h; exact downN_inj ha hb (ih (downN_lt ha) (downN_lt hb) h)
theorem xor_right_inj {a b c : Nat} (h : a ^^^ c = b ^^^ c) : a = b := by
  have h2 := congrArg (· ^^^ c) h
  simpa [Nat.xor_assoc] using h2
theorem sumStep_inj {a b : Nat} {x : Int} (ha : a < 4294967296) (hb : b < 4294967296) (hx : x < 256) (h : sumStep a x = sumStep b x) : a = b := by
  refine xor_right_inj (c := x.toNat) (downs_inj 8 (Nat.xor_lt_two_pow (n := 32) ha (by omega)) (Nat.xor_lt_two_pow (n := 32) hb (by omega)) h)
theorem sumStep_byte {a : Nat} {x y : Int} (ha : a < 4294967296) (hx0 : 0 ≤ x) (hx : x < 256) (hy0 : 0 ≤ y) (hy : y < 256) (h : sumStep a x = sumStep a y) : x = y := by
  have h2 := downs_inj 8 (Nat.xor_lt_two_pow (n := 32) ha (by omega)) (Nat.xor_lt_two_pow (n := 32) ha (by omega)) h
  rw [Nat.xor_comm, Nat.xor_comm a] at h2
  have := xor_right_inj h2
  omega
theorem sumFrom_lt (l : List Int) : ∀ (c : Nat), IsBytes l → c < 4294967296 → sumFrom c l < 4294967296 := by
  induction l with
  | nil => intro c _ h; exact h
  | cons b t ih => intro c hb h; exact ih _ (fun x hx => hb x (by simp [hx])) (sumStep_lt h (hb b (by simp)).1 (hb b (by simp)).2)
theorem sumFrom_inj (l : List Int) : ∀ {a b : Nat}, IsBytes l → a < 4294967296 → b < 4294967296 → sumFrom a l = sumFrom b l → a = b := by
  induction l with
  | nil => intro a b _ _ _ h; exact h
  | cons x t ih =>
    intro a b hl ha hb h
    have hx := hl x (by simp)
    exact sumStep_inj ha hb hx.2 (ih (fun y hy => hl y (by simp [hy])) (sumStep_lt ha hx.1 hx.2) (sumStep_lt hb hx.1 hx.2) h)
theorem sumFrom_append (c : Nat) (l m : List Int) : sumFrom c (l ++ m) = sumFrom (sumFrom c l) m := by simp [sumFrom, List.foldl_append]
theorem sumN_turned {p q : List Int} {x y : Int} (hp : IsBytes p) (hq : IsBytes q) (hx0 : 0 ≤ x) (hx : x < 256) (hy0 : 0 ≤ y) (hy : y < 256) (h : sumN (p ++ x :: q) = sumN (p ++ y :: q)) : x = y := by
  have hs := sumFrom_lt p 4294967295 hp (by omega)
  unfold sumN at h
  rw [sumFrom_append, sumFrom_append] at h
  have h1 := sumFrom_lt q _ hq (sumStep_lt hs hx0 hx)
  have h2 := sumFrom_lt q _ hq (sumStep_lt hs hy0 hy)
  have e1 : sumFrom (sumFrom 4294967295 p) (x :: q) = sumFrom (sumStep (sumFrom 4294967295 p) x) q := rfl
  have e2 : sumFrom (sumFrom 4294967295 p) (y :: q) = sumFrom (sumStep (sumFrom 4294967295 p) y) q := rfl
  rw [e1, e2] at h
  exact sumStep_byte hs hx0 hx hy0 hy (sumFrom_inj q hq (sumStep_lt hs hx0 hx) (sumStep_lt hs hy0 hy) (by omega))
theorem xor_swap (a b c d : Nat) : (a ^^^ b) ^^^ (c ^^^ d) = (a ^^^ c) ^^^ (b ^^^ d) := by
  rw [Nat.xor_assoc, ← Nat.xor_assoc b, Nat.xor_comm b c, Nat.xor_assoc c, ← Nat.xor_assoc]
theorem sumStep_xor (a b : Nat) (x y z : Int) (hz : z.toNat = x.toNat ^^^ y.toNat) : sumStep (a ^^^ b) z = sumStep a x ^^^ sumStep b y := by
  unfold sumStep
  rw [← downs_xor, hz, xor_swap]
/-- rows of the same length, told by their places -/
theorem sumFrom_xor (f g h : Nat → Int) (hz : ∀ i, (h i).toNat = (f i).toNat ^^^ (g i).toNat) (a b : Nat) : ∀ n, sumFrom (a ^^^ b) ((List.range n).map h) = sumFrom a ((List.range n).map f) ^^^ sumFrom b ((List.range n).map g) := by
  intro n
  induction n with
  | zero => rfl
  | succ n ih =>
    rw [List.range_succ, List.map_append, List.map_append, List.map_append, sumFrom_append, sumFrom_append, sumFrom_append, ih]
    exact sumStep_xor _ _ _ _ _ (hz n)
theorem not_xor (c : Nat) (h : c < 4294967296) : 4294967295 - c = c ^^^ 4294967295 := by
  have h := congrArg BitVec.toNat (BitVec.xor_allOnes (x := BitVec.ofNat 32 c))
  rw [BitVec.toNat_xor, BitVec.toNat_not, BitVec.toNat_allOnes, BitVec.toNat_ofNat, Nat.mod_eq_of_lt (by omega)] at h
  have e : 2 ^ 32 - 1 = 4294967295 := by decide
  rw [e] at h
  rw [h]
theorem sumN_xor3 (f g h d : Nat → Int) (hd : ∀ i, (d i).toNat = (f i).toNat ^^^ (g i).toNat ^^^ (h i).toNat) (n : Nat) (bf : IsBytes ((List.range n).map f)) (bg : IsBytes ((List.range n).map g)) (bh : IsBytes ((List.range n).map h)) (bd : IsBytes ((List.range n).map d)) :
    sumN ((List.range n).map d) = sumN ((List.range n).map f) ^^^ sumN ((List.range n).map g) ^^^ sumN ((List.range n).map h) := by
  unfold sumN
  rw [not_xor _ (sumFrom_lt _ _ bf (by omega)), not_xor _ (sumFrom_lt _ _ bg (by omega)), not_xor _ (sumFrom_lt _ _ bh (by omega)), not_xor _ (sumFrom_lt _ _ bd (by omega))]
  have h1 := sumFrom_xor f g (fun i => ((f i).toNat ^^^ (g i).toNat : Nat)) (fun i => by simp) 4294967295 4294967295 n
  have h2 := sumFrom_xor (fun i => ((f i).toNat ^^^ (g i).toNat : Nat)) h d (fun i => by rw [hd]; simp) (4294967295 ^^^ 4294967295) 4294967295 n
  rw [h1] at h2
  rw [show 4294967295 ^^^ 4294967295 ^^^ 4294967295 = 4294967295 by decide] at h2
  rw [h2]
  generalize sumFrom 4294967295 ((List.range n).map f) = A
  generalize sumFrom 4294967295 ((List.range n).map g) = B
  generalize sumFrom 4294967295 ((List.range n).map h) = C
  rw [xor_swap A 4294967295 B 4294967295, Nat.xor_self, Nat.xor_zero, ← Nat.xor_assoc]
end Go.Proofs.Ytjijmikpoenbcaa.Codec
