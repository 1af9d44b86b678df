import Derived.Test.YtjijmikpoenbcaaQ6
import Derived.Test.YtjijmikpoenbcaaCrc
import Derived.OpenShut
namespace Go.Proofs.Ytjijmikpoenbcaa.Q
open Go.RowKit Go.Proofs.YtjijmikpoenbcaaW.PrintWords Go.Proofs.YtjijmikpoenbcaaW.PrintLast Go.Proofs.Ytjijmikpoenbcaa.Codec

theorem bounds_u8 {x : Int} (h : (Lit.int .u8 x).wf = true) : 0 ≤ x ∧ x < 256 := by
  simp [Lit.wf, IntKind.min, IntKind.max, IntKind.signed, IntKind.bits] at h
  omega
theorem isBytes_of_wf {l : List Int} (h : ∀ x ∈ l, (Lit.int .u8 x).wf = true) : IsBytes l := fun x hx => bounds_u8 (h x hx)
theorem sum_f {l : List Int} (h : IsBytes l) : codec_Sum.f l = some ((sumN l : Nat) : Int) := by
  unfold codec_Sum.f
  rw [if_pos ((bytesB_iff l).2 h)]
theorem round_f (a n : Int) (hn : 0 < n) (hn2 : n ≤ 9223372036854775807) : ∃ t, cabstandlaw02_round.f a n = some t ∧ 0 ≤ t ∧ t < n := by
  have h1 := Int.tmod_lt_of_pos a hn
  have h2 : -n < Int.tmod a n := by
    have := Int.lt_tmod_of_pos a hn
    omega
  unfold cabstandlaw02_round.f
  rw [if_neg (by omega)]
  split
  · exact ⟨_, rfl, by unfold wrap64; omega, by unfold wrap64; omega⟩
  · exact ⟨_, rfl, by omega, h1⟩
def cabstandlaw02_CodecTurned.PureS : Prop := ∀ (l0 : List Int) (a1 : Int) (a2 : Int), (l0.length * 1 ≤ reachBytes ∧ ∀ y2_ ∈ l0, (Lit.int .u8 y2_).wf = true) → (Lit.int .i64 a1).wf = true → (Lit.int .u8 a2).wf = true → ∃ k, cabstandlaw02_CodecTurned.f k l0 a1 a2 = some true
theorem pureCodecTurned : cabstandlaw02_CodecTurned.PureS := by
  have hreach : reachBytes = 140737488351232 := by decide +kernel
  rintro l0 a1 a2 ⟨hl2, hb⟩ _ ha2
  rw [hreach] at hl2
  have hB := isBytes_of_wf hb
  have hA := bounds_u8 ha2
  refine ⟨1, ?_⟩
  have h0 : cabstandlaw02_CodecTurned.j0 1 l0 a1 a2 true = some true := by
    simp only [cabstandlaw02_CodecTurned.j0, if_true]
    rw [sum_f (l := []) (fun x hx => by simp at hx)]
    rfl
  unfold cabstandlaw02_CodecTurned.f
  by_cases hl : (l0.length : Int) = 0
  · rw [if_pos hl]; exact h0
  · rw [if_neg hl]
    by_cases hz : a2 = 0
    · rw [show (a2 == 0) = true by simpa using hz]; exact h0
    · rw [show (a2 == 0) = false by simpa using hz]
      obtain ⟨t, ht, ht0, ht1⟩ := round_f a1 l0.length (by omega) (by omega)
      have htn : t.toNat < l0.length := by omega
      have hr := hB.nth t.toNat htn
      rw [Int.toNat_of_nonneg ht0] at hr
      have hx := u8_xor (rd l0 t) a2 hr.1 hr.2 hA.1 hA.2
      have hxl : (rd l0 t).toNat ^^^ a2.toNat < 256 := Nat.xor_lt_two_pow (n := 8) (by omega) (by omega)
      have hB2 : IsBytes (l0.set t.toNat (Go.bits .xor .u8 (rd l0 t) a2)) := fun x hx2 => by
        rcases List.mem_or_eq_of_mem_set hx2 with q | q
        · exact hB x q
        · rw [q, hx]; omega
      simp only [cabstandlaw02_CodecTurned.j0, Bool.false_eq_true, if_false, Option.bind_some, List.nil_append, List.length_nil]
      rw [if_pos (by omega), ht]
      simp only [Option.bind_some]
      rw [if_pos ht0, if_pos ht1, if_pos (by omega), sum_f hB, sum_f hB2]
      simp only [Option.bind_some]
      rw [if_neg ?_]
      · rfl
      · intro h
        have h2 : sumN l0 = sumN (l0.set t.toNat (Go.bits .xor .u8 (rd l0 t) a2)) := by exact_mod_cast h
        have e1 : l0 = l0.take t.toNat ++ rd l0 t :: l0.drop (t.toNat + 1) := by
          have : rd l0 t = l0[t.toNat] := by simp [rd, List.getD, htn]
          rw [this, ← List.drop_eq_getElem_cons htn, List.take_append_drop]
        have e2 : l0.set t.toNat (Go.bits .xor .u8 (rd l0 t) a2) = l0.take t.toNat ++ (Go.bits .xor .u8 (rd l0 t) a2) :: l0.drop (t.toNat + 1) := by
          rw [List.set_eq_take_append_cons_drop, if_pos htn]
        rw [e2] at h2
        have h3 : sumN (l0.take t.toNat ++ rd l0 t :: l0.drop (t.toNat + 1)) = sumN (l0.take t.toNat ++ (Go.bits .xor .u8 (rd l0 t) a2) :: l0.drop (t.toNat + 1)) := by rw [← e1]; exact h2
        have h4 := sumN_turned (hB.take _) (hB.drop _) hr.1 hr.2 (by rw [hx]; omega) (by rw [hx]; omega) h3
        rw [hx] at h4
        have h5 : (rd l0 t).toNat ^^^ a2.toNat = (rd l0 t).toNat := by omega
        have h6 : a2.toNat = 0 := by
          have h7 := congrArg ((rd l0 t).toNat ^^^ ·) h5
          simpa [← Nat.xor_assoc] using h7
        omega
end Go.Proofs.Ytjijmikpoenbcaa.Q
