import Derived.Test.YtjijmikpoenbcaaQ4
import Derived.Test.YtjijmikpoenbcaaCrc
namespace Go.Proofs.Ytjijmikpoenbcaa.Q
open Go.RowKit Go.Proofs.YtjijmikpoenbcaaW.PrintWords Go.Proofs.YtjijmikpoenbcaaW.PrintLast Go.Proofs.Ytjijmikpoenbcaa.Codec

theorem bounds_u8' {x : Int} (h : (Lit.int .u8 x).wf = true) : 0 ≤ x ∧ x < 256 := by
  simp [Lit.wf, IntKind.min, IntKind.max, IntKind.signed, IntKind.bits] at h
  omega
theorem sum_f' {l : List Int} (h : IsBytes l) : codec_Sum.f l = some ((sumN l : Nat) : Int) := by
  unfold codec_Sum.f
  rw [if_pos ((bytesB_iff l).2 h)]
theorem take_range (l : List Int) (n : Nat) (h : n ≤ l.length) : l.take n = (List.range n).map (fun i : Nat => rd l i) := by
  apply List.ext_getElem
  · simp [h]
  · intro i h1 h2
    have hi : i < l.length := by simp at h1; omega
    simp [rd, List.getD, hi]
theorem sumN_lt (l : List Int) : sumN l < 4294967296 := by
  unfold sumN; omega
def dX (l0 l1 l2 : List Int) (i : Nat) : Int := Go.bits .xor .u8 (Go.bits .xor .u8 (rd l0 i) (rd l1 i)) (rd l2 i)
theorem dX_nat {l0 l1 l2 : List Int} (b0 : IsBytes l0) (b1 : IsBytes l1) (b2 : IsBytes l2) (i : Nat) (h0 : i < l0.length) (h1 : i < l1.length) (h2 : i < l2.length) :
    dX l0 l1 l2 i = (((rd l0 i).toNat ^^^ (rd l1 i).toNat ^^^ (rd l2 i).toNat : Nat) : Int) ∧ (rd l0 i).toNat ^^^ (rd l1 i).toNat ^^^ (rd l2 i).toNat < 256 := by
  have r0 := b0.nth i h0
  have r1 := b1.nth i h1
  have r2 := b2.nth i h2
  have hx : (rd l0 i).toNat ^^^ (rd l1 i).toNat < 256 := Nat.xor_lt_two_pow (n := 8) (by omega) (by omega)
  refine ⟨?_, Nat.xor_lt_two_pow (n := 8) hx (by omega)⟩
  unfold dX
  rw [u8_xor _ _ r0.1 r0.2 r1.1 r1.2, u8_xor _ _ (by omega) (by omega) r2.1 r2.2, Int.toNat_natCast]
def cabstandlaw02_CodecXors.PureS : Prop := ∀ (l0 : List Int) (l1 : List Int) (l2 : List Int), (l0.length * 1 ≤ reachBytes ∧ ∀ y2_ ∈ l0, (Lit.int .u8 y2_).wf = true) → (l1.length * 1 ≤ reachBytes ∧ ∀ y2_ ∈ l1, (Lit.int .u8 y2_).wf = true) → (l2.length * 1 ≤ reachBytes ∧ ∀ y2_ ∈ l2, (Lit.int .u8 y2_).wf = true) → ∃ k, cabstandlaw02_CodecXors.f k l0 l1 l2 = some true
theorem pureCodecXors : cabstandlaw02_CodecXors.PureS := by
  have hreach : reachBytes = 140737488351232 := by decide +kernel
  rintro l0 l1 l2 ⟨hl0, hb0⟩ ⟨hl1, hb1⟩ ⟨hl2, hb2⟩
  rw [hreach] at hl0 hl1 hl2
  have b0 : IsBytes l0 := fun x hx => bounds_u8' (hb0 x hx)
  have b1 : IsBytes l1 := fun x hx => bounds_u8' (hb1 x hx)
  have b2 : IsBytes l2 := fun x hx => bounds_u8' (hb2 x hx)
  obtain ⟨n, hn, hn0, hn1, hn2⟩ : ∃ n : Nat, mn (mn (l0.length : Int) (l1.length : Int)) (l2.length : Int) = (n : Int) ∧ n ≤ l0.length ∧ n ≤ l1.length ∧ n ≤ l2.length := by
    refine ⟨(mn (mn (l0.length : Int) (l1.length : Int)) (l2.length : Int)).toNat, ?_⟩
    unfold mn
    (repeat' split) <;> omega
  have hD : ∀ j, j ≤ n → IsBytes ((List.range j).map (dX l0 l1 l2)) := fun j hj x hx => by
    obtain ⟨i, hi, rfl⟩ := List.mem_map.1 hx
    have hi2 := List.mem_range.1 hi
    have h := dX_nat b0 b1 b2 i (by omega) (by omega) (by omega)
    rw [h.1]; omega
  have hT : ∀ l : List Int, IsBytes l → n ≤ l.length → IsBytes ((List.range n).map (fun i : Nat => rd l i)) := fun l hl hnl => by
    rw [← take_range l n hnl]; exact hl.take n
  have hlast : sumN ((List.range n).map (dX l0 l1 l2)) = sumN (l0.take n) ^^^ sumN (l1.take n) ^^^ sumN (l2.take n) := by
    rw [take_range l0 n hn0, take_range l1 n hn1, take_range l2 n hn2]
    have e : (List.range n).map (dX l0 l1 l2) = (List.range n).map (fun i : Nat => (((rd l0 i).toNat ^^^ (rd l1 i).toNat ^^^ (rd l2 i).toNat : Nat) : Int)) := by
      apply List.map_congr_left
      intro i hi
      have hi2 := List.mem_range.1 hi
      exact (dX_nat b0 b1 b2 i (by omega) (by omega) (by omega)).1
    have hDn := hD n (Nat.le_refl _)
    rw [e] at hDn ⊢
    exact sumN_xor3 _ _ _ _ (fun i => by simp) n (hT l0 b0 hn0) (hT l1 b1 hn1) (hT l2 b2 hn2) hDn
  have hloop : ∀ m j, j + m = n → cabstandlaw02_CodecXors.l0 (m + 1) l0 l1 l2 n ((List.range j).map (dX l0 l1 l2)) j = some true := by
    intro m
    induction m with
    | zero =>
      intro j hj
      obtain rfl : j = n := by omega
      simp only [cabstandlaw02_CodecXors.l0, Option.bind_some, List.nil_append, List.length_nil, Int.toNat_natCast]
      have t0 := List.length_take_le j l0
      have t1 := List.length_take_le j l1
      have t2 := List.length_take_le j l2
      rw [if_neg (by omega), if_pos (by omega), if_pos (by omega), if_pos (by omega), if_pos (by omega), if_pos (by omega), if_pos (by omega), if_pos (by omega)]
      rw [sum_f' (hD j (Nat.le_refl _)), sum_f' (b0.take j), sum_f' (b1.take j), sum_f' (b2.take j)]
      simp only [Option.bind_some]
      have s0 := sumN_lt (l0.take j)
      have s1 := sumN_lt (l1.take j)
      have s2 := sumN_lt (l2.take j)
      rw [if_pos ?_]
      · rfl
      · rw [u32_xor_nat _ _ s0 s1, u32_xor_nat _ _ (Nat.xor_lt_two_pow (n := 32) s0 s1) s2, hlast]
    | succ m ih =>
      intro j hj
      rw [cabstandlaw02_CodecXors.l0]
      rw [if_pos (by omega), if_pos (by omega), if_pos (by omega), if_pos (by omega), if_pos (by omega), if_pos (by simp; omega)]
      have h := ih (j + 1) (by omega)
      rw [List.range_succ, List.map_append] at h
      have e : wrap64 ((j : Int) + 1) = ((j + 1 : Nat) : Int) := by unfold wrap64; omega
      rw [e]
      exact h
  refine ⟨n + 1, ?_⟩
  unfold cabstandlaw02_CodecXors.f
  rw [hn]
  exact hloop n 0 (by omega)
end Go.Proofs.Ytjijmikpoenbcaa.Q
