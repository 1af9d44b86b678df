/- The contracts of the byte reader and writer, second part. Conditions: those that stand in each theorem. Written in this session. -/
import Derived.Test.YtjijmikpoenbcaaCodecR
namespace Go.Proofs.Ytjijmikpoenbcaa.Codec
open Go.RowKit Go.Proofs.YtjijmikpoenbcaaW.PrintWords Go.Proofs.YtjijmikpoenbcaaW.PrintLast Go.Proofs.YtjijmikpoenbcaaW.PrintMore
set_option linter.unusedVariables false
set_option maxHeartbeats 8000000 in
set_option maxRecDepth 100000 in
theorem number_fault (base g : Nat) (v : Value) (l : List Int) (e0 : Int) (he : e0 ≠ 0) (w : World) (hr : RAt w base g v l e0) :
    Calls Try.prog 53 #[.func (.func 52) #[.pointer (some ⟨g, 0, none⟩)] #[]] w fun e w' => e = .returned (.tuple #[.int .u64 0, .int .i64 20]) ∧ w' = w := by
  have HR := Aside0.mk hr
  have HE := Aside0.mk he
  clear hr he
  have hcf := cf_next (.pointer (some ⟨g, 0, none⟩))
  have q22 := eql_nil
  go_enter Try.func53, Try.ntmps53
  go_wp2
  go_loopg [4, 5, 6, 7] 1 (fun kq v4 v5 v6 v7 wr => wr = w)
  case atStart => rfl
  case round =>
    subst hrel
    go_wp2_with fail
    refine (next_fault base g v l e0 1 HE.out wr HR.out).mono ?_
    rintro e w1 ⟨rfl, rfl⟩
    go_wp2
    go_ret2
    exact ⟨rfl, rfl⟩
/-- a number's form is read -/
def varR (l : List Int) (e : Int) : Nat × List Int × Int :=
  if e = 0 then (if (numR 0 0 l).2.1 = 0 then ((numR 0 0 l).1, (numR 0 0 l).2.2.1, (numR 0 0 l).2.2.2) else ((numR 0 0 l).1, [], failE (numR 0 0 l).2.1 (numR 0 0 l).2.2.2)) else (0, [], e)
set_option maxHeartbeats 8000000 in
set_option maxRecDepth 100000 in
theorem rVar_calls (base g : Nat) (v : Value) (l : List Int) (hby : IsBytes l) (e0 : Int) (w : World) (hr : RAt w base g v l e0) :
    Calls Try.prog 29 #[.pointer (some ⟨g, 0, none⟩)] w fun e w' => e = .returned (.int .u64 (varR l e0).1) ∧ Took base g v (varR l e0).2.1 (varR l e0).2.2 w w' := by
  have HR := Aside0.mk hr
  have HBY := Aside0.mk hby
  clear hr hby
  by_cases he : e0 = 0
  · subst he
    have HN := Aside0.mk (number_calls base g v l HBY.out w HR.out)
    have hv : varR l 0 = (if (numR 0 0 l).2.1 = 0 then ((numR 0 0 l).1, (numR 0 0 l).2.2.1, (numR 0 0 l).2.2.2) else ((numR 0 0 l).1, [], failE (numR 0 0 l).2.1 (numR 0 0 l).2.2.2)) := by simp [varR]
    rw [hv]
    clear hv
    generalize numR 0 0 l = res at HN ⊢
    obtain ⟨n, er, t, f⟩ := res
    by_cases h0 : er = 0
    · subst h0
      simp only [if_true]
      go_enter Try.func29, Try.ntmps29
      go_wp2_with fail
      refine HN.out.mono ?_
      rintro e w1 ⟨rfl, h⟩
      have H := Aside0.mk h
      clear h
      go_wp2
      go_ret
      exact ⟨rfl, H.out⟩
    · simp only [h0, if_false]
      have h1 : (er == 0) = false := by simpa using h0
      have HE := Aside0.mk h0
      clear h0
      go_enter Try.func29, Try.ntmps29
      go_wp2_with fail
      refine HN.out.mono ?_
      rintro e w1 ⟨rfl, v1, k1, k2, k3⟩
      have K1 := Aside0.mk k1
      have K2 := Aside0.mk k2
      have K3 := Aside0.mk k3
      clear k1 k2 k3
      go_wp2_with fail
      refine (fail_calls base g v1 t f er HE.out w1 K1.out).mono ?_
      rintro e w2 ⟨rfl, h⟩
      have H := Aside0.mk h
      clear h
      go_wp2
      go_ret
      exact ⟨rfl, Took.trans K2.out K3.out H.out⟩
  · have hl := HR.out.nil he
    subst hl
    have hv : varR [] e0 = (0, [], e0) := by simp [varR, he]
    rw [hv]
    have HN := Aside0.mk (number_fault base g v [] e0 he w HR.out)
    have HE := Aside0.mk he
    clear hv he
    go_enter Try.func29, Try.ntmps29
    go_wp2_with fail
    refine HN.out.mono ?_
    rintro e w1 ⟨rfl, rfl⟩
    go_wp2_with fail
    refine (fail_calls base g v [] e0 20 (by decide) w1 HR.out).mono ?_
    rintro e w2 ⟨rfl, h⟩
    have H := Aside0.mk h
    clear h
    go_wp2
    go_ret
    have hf : failE 20 e0 = e0 := by simp [failE, HE.out]
    rw [hf] at H
    exact ⟨rfl, H.out⟩
theorem numR_bound (l : List Int) (h : IsBytes l) : ∀ i n, i ≤ 9 → n < 128 ^ i → (numR i n l).1 < 18446744073709551616 := by
  induction l with
  | nil => intro i n _ _; simp [numR]
  | cons b t ih =>
    intro i n hi hn
    have hb := h b (by simp)
    rw [numR]
    split
    · simp
    · rename_i hq
      have hs := step_lt n i b hn
      split
      · show n + b.toNat % 128 * 128 ^ i < _
        by_cases q : i = 9
        · subst q
          have : b.toNat % 128 ≤ 1 := by omega
          have h2 : b.toNat % 128 * 128 ^ 9 ≤ 1 * 128 ^ 9 := Nat.mul_le_mul_right _ this
          omega
        · have h2 : (128 : Nat) ^ (i + 1) ≤ 128 ^ 9 := Nat.pow_le_pow_right (by omega) (by omega)
          omega
      · exact ih (fun x hx => h x (by simp [hx])) (i + 1) _ (by omega) hs
theorem varR_bound (l : List Int) (h : IsBytes l) (e : Int) : (varR l e).1 < 18446744073709551616 := by
  have := numR_bound l h 0 0 (by omega) (by omega)
  unfold varR
  split
  · split <;> exact this
  · simp
theorem i64_xor_comm (a b : Int) : bits .xor .i64 a b = bits .xor .i64 b a := by
  show IntKind.i64.wrap ((BitVec.ofInt 64 a ^^^ BitVec.ofInt 64 b).toNat : Int) = IntKind.i64.wrap ((BitVec.ofInt 64 b ^^^ BitVec.ofInt 64 a).toNat : Int)
  rw [BitVec.xor_comm]
theorem i64_xor_ones (a : Nat) (ha : a < 9223372036854775808) : bits .xor .i64 (a : Int) (-1) = -1 - (a : Int) := by
  rw [i64_xor_comm]
  show IntKind.i64.wrap ((BitVec.ofInt 64 (-1) ^^^ BitVec.ofInt 64 (a : Int)).toNat : Int) = _
  have h1 : BitVec.ofInt 64 (-1) = BitVec.allOnes 64 := by decide
  rw [h1, BitVec.allOnes_xor, BitVec.toNat_not, ofInt_u64 a (by omega)]
  simp [IntKind.wrap, IntKind.bits, IntKind.signed]
  omega
theorem i64_xor_zero (a : Nat) (ha : a < 9223372036854775808) : bits .xor .i64 (a : Int) 0 = (a : Int) := by
  show IntKind.i64.wrap ((BitVec.ofInt 64 (a : Int) ^^^ BitVec.ofInt 64 0).toNat : Int) = _
  have h1 : BitVec.ofInt 64 0 = 0#64 := by decide
  rw [h1, BitVec.xor_zero, ofInt_u64 a (by omega)]
  simp [IntKind.wrap, IntKind.bits, IntKind.signed]
  omega
/-- the int of a turned number -/
def backI (n : Nat) : Int := if n % 2 = 0 then ((n / 2 : Nat) : Int) else -1 - ((n / 2 : Nat) : Int)
theorem back_bits (n : Nat) (hn : n < 18446744073709551616) : bits .xor .i64 (wrap64 ((n : Int) / 2)) (wrap64 (-wrap64 (bits .and .u64 (n : Int) 1))) = backI n := by
  have e1 : bits .and .u64 (n : Int) 1 = ((n % 2 : Nat) : Int) := by
    have := u64_and_nat n 1 hn (by decide)
    rw [Nat.and_one_is_mod] at this
    exact this
  rw [e1, show wrap64 ((n : Int) / 2) = ((n / 2 : Nat) : Int) by unfold wrap64; omega]
  unfold backI
  by_cases h : n % 2 = 0
  · rw [h, if_pos rfl, show wrap64 (-wrap64 ((0 : Nat) : Int)) = 0 by unfold wrap64; omega]
    exact i64_xor_zero (n / 2) (by omega)
  · have h1 : n % 2 = 1 := by omega
    rw [h1, if_neg (by decide), show wrap64 (-wrap64 ((1 : Nat) : Int)) = -1 by unfold wrap64; omega]
    exact i64_xor_ones (n / 2) (by omega)
set_option maxHeartbeats 8000000 in
set_option maxRecDepth 100000 in
theorem rInt_calls (base g : Nat) (v : Value) (l : List Int) (hby : IsBytes l) (e0 : Int) (w : World) (hr : RAt w base g v l e0) :
    Calls Try.prog 41 #[.pointer (some ⟨g, 0, none⟩)] w fun e w' => e = .returned (.int .i64 (backI (varR l e0).1)) ∧ Took base g v (varR l e0).2.1 (varR l e0).2.2 w w' := by
  have HR := Aside0.mk hr
  have HBY := Aside0.mk hby
  clear hr hby
  have HV := Aside0.mk (rVar_calls base g v l HBY.out e0 w HR.out)
  have HB := Aside0.mk (back_bits _ (varR_bound l HBY.out e0))
  generalize varR l e0 = res at HV HB ⊢
  obtain ⟨n, t, f⟩ := res
  go_enter Try.func41, Try.ntmps41
  go_wp2_with fail
  refine HV.out.mono ?_
  rintro e w1 ⟨rfl, h⟩
  have H := Aside0.mk h
  clear h
  go_wp2
  go_ret
  exact ⟨congrArg (fun x => Ending.returned (.int .i64 x)) HB.out, H.out⟩
set_option maxHeartbeats 8000000 in
set_option maxRecDepth 100000 in
theorem NewWriter_calls (w : World) :
    Calls Try.prog 19 #[] w fun e w' => e = .returned (.pointer (some ⟨w.heap.size, 0, none⟩)) ∧ WAt w' w.heap.size w.heap.size (.slice none 0 0) [] ∧ Below w.heap.size w w' := by
  go_enter Try.func19, Try.ntmps19
  go_wp2
  go_ret
  refine ⟨rfl, ⟨blk_new _ _, ?_, Nat.le_refl _⟩, below_alloc (Below.refl _ _) _⟩
  exact ⟨rfl, Or.inl ⟨rfl, rfl⟩⟩
set_option maxHeartbeats 8000000 in
set_option maxRecDepth 100000 in
theorem wFixed_wide (base g : Nat) (v : Value) (l : List Int) (n : Nat) (wd : Int) (w : World) (hw : WAt w base g v l) (hn : n < 18446744073709551616) (hwide : wide n wd = true) :
    Calls Try.prog 33 #[.pointer (some ⟨g, 0, none⟩), .int .u64 n, .int .i64 wd] w fun e w' => e = .returned (.int .i64 1) ∧ w' = w := by
  have hc1 : w.cell? ⟨g, 1, none⟩ = some (.bool true) := (blk_cell hw.blk 1).trans rfl
  clear hw
  by_cases h1 : wd < 1
  · clear hwide
    go_enter Try.func33, Try.ntmps33
    go_wp2
    go_ret
    exact ⟨rfl, rfl⟩
  · by_cases h2 : 8 < wd
    · clear hwide
      go_enter Try.func33, Try.ntmps33
      go_wp2
      go_ret
      exact ⟨rfl, rfl⟩
    · have h3 : wd < 8 ∧ n / 2 ^ (8 * wd).toNat ≠ 0 := by
        simp [wide, h1, h2] at hwide
        exact ⟨hwide.1, by have := hwide.2; simpa using this⟩
      clear hwide
      obtain ⟨K, hK⟩ := Int.eq_ofNat_of_zero_le (show 0 ≤ wd by omega)
      subst hK
      obtain ⟨h4, h5⟩ := h3
      have h6 : ((n : Int) / 2 ^ (8 * K) != 0) = true := by
        rw [show (8 * (K : Int)).toNat = 8 * K by omega] at h5
        have e : ((n / 2 ^ (8 * K) : Nat) : Int) = (n : Int) / 2 ^ (8 * K) := by rw [Int.natCast_ediv, Int.natCast_pow]; rfl
        rw [← e, bne_iff_ne]
        omega
      clear h5
      go_enter Try.func33, Try.ntmps33
      go_wp2
      go_ret
      exact ⟨rfl, rfl⟩
/-! the check sum -/
def downN (c : Nat) : Nat := if c % 2 = 1 then (c / 2) ^^^ 3988292384 else c / 2
theorem downN_lt {c : Nat} (h : c < 4294967296) : downN c < 4294967296 := by
  unfold downN
  split
  · exact Nat.xor_lt_two_pow (n := 32) (by omega) (by decide)
  · omega
set_option maxHeartbeats 8000000 in
set_option maxRecDepth 100000 in
theorem Sum1_calls (k c : Nat) (cs : Array Value) (w : World) (hk : w.heap[k]? = some (.cells #[.int .u32 c] 24 (0, 0))) (hc : c < 4294967296) :
    Calls Try.prog 39 #[.pointer (some ⟨k, 0, none⟩)] w fun e w' => e = .returned (.tuple #[]) ∧ w'.heap[k]? = some (.cells #[.int .u32 (downN c)] 24 (0, 0)) ∧ Chg (· = k) w w' := by
  have hc0 : w.cell? ⟨k, 0, none⟩ = some (.int .u32 c) := (blk_cell hk 0).trans rfl
  have hf0 := blk_frozen hk 0
  have HK := Aside0.mk hk
  have HC := Aside0.mk hc
  have h1 : bits .and .u32 (c : Int) 1 = ((c % 2 : Nat) : Int) := by
    have := u32_and_nat c 1 hc (by decide)
    rw [Nat.and_one_is_mod] at this
    exact this
  have h2 : bits .xor .u32 ((c : Int) / 2) 3988292384 = ((c / 2 ^^^ 3988292384 : Nat) : Int) := by
    have := u32_xor_nat (c / 2) 3988292384 (by omega) (by decide)
    rw [← this]
    congr 1
  clear hk hc
  by_cases hp : c % 2 = 1
  · have h3 : ((c : Int) % 2 == 1) = true := by rw [beq_iff_eq]; omega
    have hd : downN c = (c / 2) ^^^ 3988292384 := by unfold downN; rw [if_pos hp]
    go_enter Try.func39, Try.ntmps39
    go_wp2
    go_end0
    refine ⟨rfl, ?_, Chg.setCell (F := (· = k)) (Chg.setCell (F := (· = k)) (Chg.refl _ _) (p := ⟨k, 0, none⟩) (Or.inl rfl) _) (p := ⟨k, 0, none⟩) (Or.inl rfl) _⟩
    rw [hd]
    exact blk_put (blk_put HK.out 0 _ rfl) 0 _ rfl
  · have h3 : ((c : Int) % 2 == 1) = false := by rw [beq_eq_false_iff_ne]; omega
    have hd : ((downN c : Nat) : Int) = (c : Int) / 2 := by unfold downN; rw [if_neg hp]; omega
    go_enter Try.func39, Try.ntmps39
    go_wp2
    go_end0
    refine ⟨rfl, ?_, Chg.setCell (F := (· = k)) (Chg.refl _ _) (p := ⟨k, 0, none⟩) (Or.inl rfl) _⟩
    rw [hd]
    exact blk_put HK.out 0 _ rfl
def downs : Nat → Nat → Nat
  | 0, c => c
  | k + 1, c => downs k (downN c)
theorem downs_lt (k : Nat) : ∀ c, c < 4294967296 → downs k c < 4294967296 := by
  induction k with
  | zero => intro c h; exact h
  | succ k ih => intro c h; exact ih _ (downN_lt h)
def sumStep (c : Nat) (b : Int) : Nat := downs 8 (c ^^^ b.toNat)
def sumFrom (c : Nat) (l : List Int) : Nat := l.foldl sumStep c
def sumN (l : List Int) : Nat := 4294967295 - sumFrom 4294967295 l
theorem sumStep_lt {c : Nat} {b : Int} (h : c < 4294967296) (hb0 : 0 ≤ b) (hb : b < 256) : sumStep c b < 4294967296 :=
  downs_lt 8 _ (Nat.xor_lt_two_pow (n := 32) h (by omega))
theorem cf_Sum1 (p : Value) (w : World) : (callFunc 39 #[p]).run Try.prog w = .ok (.enter 39 #[p]) w := by kernel_rfl
theorem u32_not (c : Nat) (h : c < 4294967296) : bits .xor .u32 4294967295 (c : Int) = ((4294967295 - c : Nat) : Int) := by
  have h2 := u32_xor_nat 4294967295 c (by decide) h
  have h3 : 4294967295 ^^^ c = 4294967295 - c := by
    have h := congrArg BitVec.toNat (BitVec.xor_allOnes (x := BitVec.ofNat 32 c))
    rw [BitVec.toNat_xor, BitVec.toNat_not, BitVec.toNat_allOnes, BitVec.toNat_ofNat, Nat.mod_eq_of_lt (by omega), Nat.xor_comm] at h
    have e : 2 ^ 32 - 1 = 4294967295 := by decide
    rw [e] at h
    rw [h]
  rw [h3] at h2
  exact h2
set_option maxHeartbeats 8000000 in
set_option maxRecDepth 100000 in
theorem Sum_calls (A : Option Addr) (cp : Nat) (l : List Int) (hby : IsBytes l) (w : World) (hl : Kd.C (Kd.int .u8) w A l.length l) :
    Calls Try.prog 14 #[.slice A l.length cp] w fun e w' => e = .returned (.int .u32 (sumN l)) ∧ Below w.heap.size w w' := by
  have HC := Aside0.mk hl
  have HBY := Aside0.mk hby
  have HLEN := Aside0.mk hl.2.1
  clear hl hby
  have hcf := cf_Sum1
  go_enter Try.func14, Try.ntmps14
  go_wp2
  go_loopg [6, 10, 18] l.length (fun kq v6 v10 v18 wr => ∃ (j c : Nat), v10 = .int .i64 j ∧ Aside0 (c = sumFrom 4294967295 (l.take j) ∧ c < 4294967296 ∧ j + kq = l.length) ∧ Aside0 (wr.heap[w.heap.size]? = some (.cells #[.int .u32 c] 24 (0, 0))) ∧ Aside0 (Below w.heap.size w wr))
  case atStart => exact ⟨0, 4294967295, rfl, ⟨rfl, by omega, by omega⟩, ⟨blk_new _ _⟩, ⟨below_alloc (Below.refl _ _) _⟩⟩
  case round =>
    obtain ⟨j, c, rfl, HJ, HK, HB⟩ := hrel
    have hc0 : wr.cell? ⟨w.heap.size, 0, none⟩ = some (.int .u32 c) := (blk_cell HK.out 0).trans rfl
    have hf0 := blk_frozen HK.out 0
    cases gk with
    | zero =>
      have hj : j = l.length := by have := HJ.out.2.2; omega
      subst hj
      have HN := Aside0.mk (u32_not c HJ.out.2.1)
      go_wp2
      go_ret
      refine ⟨congrArg (fun x => Ending.returned (.int .u32 x)) ?_, HB.out⟩
      refine HN.out.trans ?_
      have h1 := HJ.out.1
      rw [List.take_length] at h1
      rw [h1]
      rfl
    | succ k =>
      have hj : (j : Int) < l.length := by have := HJ.out.2.2; omega
      obtain ⟨a, hA⟩ : ∃ a, A = some a := by
        obtain ⟨a, ha, _⟩ := HC.out.2.2 (by omega)
        exact ⟨a, ha⟩
      subst hA
      have hb := HBY.out.nth j (by omega)
      have hcell : wr.cell? (a.add j) = some (.int .u8 (rd l j)) := C_read (Kd.C_below HC.out HB.out) j (by omega)
      have HX : Aside0 (bits .xor .u32 (c : Int) (rd l j % 4294967296) = ((c ^^^ (rd l j).toNat : Nat) : Int)) := ⟨by
        have h2 := u32_xor_nat c (rd l j).toNat HJ.out.2.1 (by omega)
        rw [← h2]
        congr 1
        omega⟩
      have HS : Aside0 (sumFrom 4294967295 (l.take (j + 1)) = downs 8 (c ^^^ (rd l j).toNat)) := ⟨by
        rw [List.take_succ_eq_append_getElem (show j < l.length by omega)]
        have e : l[j] = rd l j := by simp [rd, List.getD, show j < l.length by omega]
        rw [HJ.out.1]
        simp only [sumFrom, List.foldl_append, List.foldl_cons, List.foldl_nil, e]
        rfl⟩
      have HXL : Aside0 (c ^^^ (rd l j).toNat < 4294967296) := ⟨Nat.xor_lt_two_pow (n := 32) HJ.out.2.1 (by omega)⟩
      have HBD := Aside0.mk hb
      have hjL : (j : Int) + 1 ≤ 9223372036854775807 := by have := HLEN.out; omega
      clear hb
      go_wp2
      rw [HX.out]
      generalize hx0 : c ^^^ (rd l j).toNat = x0 at HS HXL ⊢
      go_loopg [18] 8 (fun kq v18 w2 => ∃ (i c1 : Nat), v18 = .int .i64 i ∧ Aside0 (i + kq = 8 ∧ downs kq c1 = downs 8 x0 ∧ c1 < 4294967296) ∧ Aside0 (w2.heap[w.heap.size]? = some (.cells #[.int .u32 c1] 24 (0, 0))) ∧ Aside0 (Below w.heap.size w w2))
      case atStart => exact ⟨0, x0, rfl, ⟨rfl, rfl, HXL.out⟩, ⟨blk_put HK.out 0 _ rfl⟩, ⟨below_set HB.out (Nat.le_refl _)⟩⟩
      case round =>
        obtain ⟨i, c1, rfl, HI, HK2, HB2⟩ := hrel
        cases gk with
        | zero =>
          have hi : i = 8 := by have := HI.out.1; omega
          subst hi
          have hd : c1 = downs 8 x0 := HI.out.2.1
          go_wp2
          go_roundg k
          case measure => omega
          case rel => exact ⟨j + 1, c1, by first | rfl | simp, ⟨by rw [HS.out]; exact hd, HI.out.2.2, by have := HJ.out.2.2; omega⟩, HK2, HB2⟩
        | succ k2 =>
          have hi : (i : Int) < 8 := by have := HI.out.1; omega
          go_wp2_with fail
          refine (Sum1_calls w.heap.size c1 #[] wr HK2.out HI.out.2.2).mono ?_
          rintro e w3 ⟨rfl, h1, h2⟩
          have HK3 := Aside0.mk h1
          have HB3 : Aside0 (Below w.heap.size w w3) := ⟨((Chg.of_below (F := fun _ => False) HB2.out).then h2 (fun i hi => Or.inr (by omega))).below (Nat.le_refl _) (fun _ h => h.elim)⟩
          clear h1 h2
          go_wp2
          go_roundg k2
          case measure => omega
          case rel => exact ⟨i + 1, downN c1, by first | rfl | simp, ⟨by have := HI.out.1; omega, HI.out.2.1, downN_lt HI.out.2.2⟩, HK3, HB3⟩
end Go.Proofs.Ytjijmikpoenbcaa.Codec
