/- A list of things of the call's own, whose texts are slices of other memory. Conditions: those that stand in each theorem. Written in this session. -/
import Derived.Test.YtjijmikpoenbcaaCut
import Derived.Test.YtjijmikpoenbcaaQ5
namespace Go.Proofs.Ytjijmikpoenbcaa.Codec
open Go.RowKit Go.Proofs.YtjijmikpoenbcaaW.PrintWords Go.Proofs.YtjijmikpoenbcaaW.PrintLast Go.Proofs.YtjijmikpoenbcaaW.PrintMore Go.Proofs.Ytjijmikpoenbcaa.Q
set_option linter.unusedVariables false
abbrev Ts := Int × Int × Int × Int × Int × List Int × (Int × Int) × (Option Addr × Nat × Nat)
def encS (s : Option Addr × Nat × Nat) : Value := .slice s.1 s.2.1 s.2.2
def kTs : Kd Ts := Kd.pair (Kd.int .i64) (Kd.pair (Kd.int .i64) (Kd.pair (Kd.int .u64) (Kd.pair (Kd.int .i64) (Kd.pair (Kd.int .i64) (Kd.pair (Kd.arr 8 (Kd.int .u8) (by decide)) (Kd.pair (Kd.pair (Kd.int .i16) (Kd.int .i16)) (Kd.scalar encS (fun _ => rfl))))))))
def tsOf (u : Th) (A : Option Addr) (c : Nat) : Ts := (u.1, u.kind, u.n, u.i, u.w, u.id, u.p, (A, u.t.length, c))
theorem ts_K {w : World} (u : Th) (A : Option Addr) (c : Nat) (h : u.id.length = 8) : kTs.K w (tsOf u A c) (thingOf u A c).toList := by
  obtain ⟨who, kind, n, i, wd, id, ⟨x, y⟩, tx⟩ := u
  have h' : id.length = 8 := h
  match id, h' with
  | [i0, i1, i2, i3, i4, i5, i6, i7], _ =>
    refine ⟨[.int .i64 who], _, rfl, rfl, [.int .i64 kind], _, rfl, rfl, [.int .u64 n], _, rfl, rfl, [.int .i64 i], _, rfl, rfl, [.int .i64 wd], _, rfl, rfl, [.int .u8 i0, .int .u8 i1, .int .u8 i2, .int .u8 i3, .int .u8 i4, .int .u8 i5, .int .u8 i6, .int .u8 i7], _, rfl, ?_, [.int .i16 x, .int .i16 y], _, rfl, ⟨[.int .i16 x], [.int .i16 y], rfl, rfl, rfl⟩, rfl⟩
    exact Kd.K_of_M (Kd.arr 8 (Kd.int .u8) (by decide)) (Kd.arr_of_cells (w := w) (base := 0) (ok := fun _ => True) (xs := [i0, i1, i2, i3, i4, i5, i6, i7]) rfl)
theorem ts_M {w : World} {base : Nat} {ok : Nat → Prop} (u : Th) (A : Option Addr) (c : Nat) (h : u.id.length = 8) : kTs.M w base ok (tsOf u A c) (thingOf u A c).toList := ts_K (w := w) u A c h
theorem ts_back {w : World} {x : Ts} {us : List Value} (u : Th) (A : Option Addr) (c : Nat) (hx : x = tsOf u A c) (h : kTs.K w x us) : us = (thingOf u A c).toList := by
  subst hx
  obtain ⟨who, kind, n, i, wd, id, ⟨x, y⟩, tx⟩ := u
  obtain ⟨_, _, rfl, h0, _, _, rfl, h1, _, _, rfl, h2, _, _, rfl, h3, _, _, rfl, h4, _, _, rfl, h5, _, _, rfl, ⟨_, _, rfl, h6, h7⟩, h8⟩ := h
  obtain ⟨h5l, h5c⟩ := Kd.arr_cells h5
  cases h0; cases h1; cases h2; cases h3; cases h4; cases h6; cases h7; cases h8
  subst h5c
  have h5l' : id.length = 8 := h5l
  match id, h5l' with
  | [i0, i1, i2, i3, i4, i5, i6, i7], _ => rfl
theorem ts_ok {w : World} {base : Nat} {ok ok' : Nat → Prop} {v : Value} {xs : List Ts} (h : Kd.R kTs 46 w base ok v xs) (hk : ∀ k, v.ownBlock = some k → ok' k) : Kd.R kTs 46 w base ok' v xs := ⟨hk, h.2.imp_ (fun _ _ hp => hp)⟩
theorem ts_step {w w' : World} {base : Nat} {ok : Nat → Prop} {v : Value} {xs : List Ts} (h : Kd.R kTs 46 w base ok v xs) (hk : ∀ k, v.ownBlock = some k → w'.heap[k]? = w.heap[k]?) : Kd.R kTs 46 w' base ok v xs := by
  have h1 := ts_ok (ok' := fun k => v.ownBlock = some k) h (fun k hk => hk)
  exact ts_ok (Kd.R_move h1 hk) h.1
theorem ts_at {w : World} {A : Option Addr} {rows : List (Th × Option Addr × Nat)} (h : Kd.C kTs w A rows.length (rows.map (fun r => tsOf r.1 r.2.1 r.2.2))) {j : Nat} (hj : j < rows.length) :
    ∃ r a, rows[j]? = some r ∧ A = some a ∧ ∀ i u, (thingOf r.1 r.2.1 r.2.2)[i]? = some u → w.cell? (a.add (j * 16 + i)) = some u := by
  obtain ⟨a, ha, hk⟩ := h.2.2 (by omega)
  obtain ⟨us, k1, k2, k3⟩ := hk j (tsOf rows[j].1 rows[j].2.1 rows[j].2.2) (by simp [hj])
  have k4 := ts_back _ _ _ rfl k2
  subst k4
  exact ⟨rows[j], a, List.getElem?_eq_getElem hj, ha, fun i u hu => k3 i u (by simpa using hu)⟩
theorem info46 : (Try.prog.info? 46).map (fun i => (i.zero, i.size, i.bytes)) = some (some (.agg #[.int .i64 0, .int .i64 0, .int .u64 0, .int .i64 0, .int .i64 0, .int .u8 0, .int .u8 0, .int .u8 0, .int .u8 0, .int .u8 0, .int .u8 0, .int .u8 0, .int .u8 0, .int .i16 0, .int .i16 0, .slice none 0 0]), 16, 80) := by kernel_rfl
/-- a thing with another width -/
def setW (t : Th) (x : Int) : Th := (t.1, t.kind, t.n, t.i, x, t.id, t.p, t.t)
/-- the width that is read with -/
def readW (t : Th) : Int := if kindOf t.kind = 1 then t.w else if t.w < (t.t.length : Int) then (t.t.length : Int) else t.w
theorem taken_of {t : Th} (ht : Good t) (hl : t.t.length ≤ 1048576) (hok : (putB t).2 = 0) : Taken (setW t (readW t)) ∧ (putB (setW t (readW t))).1 = (putB t).1 := by
  have hp : putB (setW t (readW t)) = putB t := by
    unfold putB setW readW
    simp only [Th.kind, Th.n, Th.w, Th.i, Th.id, Th.p, Th.t]
    by_cases h1 : kindOf t.2.1 = 1
    · simp [h1]
    · simp [h1]
  refine ⟨⟨⟨ht.gn, ht.gi, ?_, ht.len, ht.gid, ht.gt, ht.px, ht.py⟩, by rw [hp]; exact hok, fun hk => ?_⟩, by rw [hp]⟩
  · show -9223372036854775808 ≤ readW t ∧ readW t ≤ 9223372036854775807
    have := ht.gw
    unfold readW
    split
    · exact this
    · split <;> omega
  · show (t.t.length : Int) ≤ readW t
    have hk' : kindOf t.kind = 6 := hk
    unfold readW
    rw [if_neg (by omega)]
    split <;> omega
theorem varB_le (n : Nat) : (varB n).length ≤ 11 := by
  have : ∀ k m, (varF k m).length ≤ k + 1 := by
    intro k
    induction k with
    | zero => intro m; simp [varF]
    | succ k ih =>
      intro m
      rw [varF]
      split
      · simp
      · have := ih (m / 128)
        simp
        omega
  exact this 10 n
theorem put_le (t : Th) (ht : Good t) (hl : t.t.length ≤ 1048576) : (putB t).1.length ≤ 1048587 := by
  rcases kind_cases t.kind with hk | hk | hk | hk | hk | hk | hk
  · simp [putB, hk]
  · have e : putB t = (if wide t.n.toNat t.w = true then ([], 1) else (fixedB t.w.toNat t.n.toNat, 0)) := by simp [putB, hk]
    rw [e]
    by_cases hw : wide t.n.toNat t.w = true
    · rw [if_pos hw]; simp
    · rw [if_neg hw]
      have hq : wide t.n.toNat t.w = false := by simpa using hw
      unfold wide at hq
      simp at hq
      show (fixedB t.w.toNat t.n.toNat).length ≤ _
      rw [fixedB_len]
      omega
  · have := varB_le t.n.toNat
    simp [putB, hk]; omega
  · have := varB_le (turned t.i)
    simp [putB, hk]; omega
  · have := ht.len
    simp [putB, hk]; omega
  · simp [putB, hk, pointB]
  · have := varB_le t.t.length
    simp [putB, hk]; omega
theorem round_n (a n : Int) (hn : 0 < n) (hn2 : n ≤ 9223372036854775807) : ∃ t, cabstandlaw02_round.f a n = some t ∧ 0 ≤ t ∧ t < n := by
  unfold cabstandlaw02_round.f
  have h1 := Int.tmod_lt_of_pos a hn
  have h2 := Int.lt_tmod_of_pos a hn
  rw [if_neg (by omega)]
  by_cases h : Int.tmod a n < 0
  · rw [if_pos h]
    refine ⟨_, rfl, ?_⟩
    unfold wrap64
    omega
  · rw [if_neg h]
    exact ⟨_, rfl, by omega, h1⟩
theorem varF_bytes : ∀ k n, n < 128 ^ (k + 1) → IsBytes (varF k n) := by
  intro k
  induction k with
  | zero =>
    intro n h x hx
    rw [varF] at hx
    have := List.mem_singleton.1 hx
    omega
  | succ k ih =>
    intro n h x hx
    rw [varF] at hx
    split at hx
    · have := List.mem_singleton.1 hx
      omega
    · rcases List.mem_cons.1 hx with h1 | h1
      · omega
      · refine ih (n / 128) ?_ x h1
        rw [Nat.pow_succ] at h
        exact Nat.div_lt_of_lt_mul (by rw [Nat.mul_comm]; exact h)
theorem varB_bytes (n : Nat) (h : n < 18446744073709551616) : IsBytes (varB n) := varF_bytes 10 n (Nat.lt_trans h (by decide))
theorem fixedB_bytes : ∀ k n, IsBytes (fixedB k n) := by
  intro k
  induction k with
  | zero => intro n x hx; simp [fixedB] at hx
  | succ k ih =>
    intro n x hx
    rw [fixedB] at hx
    rcases List.mem_cons.1 hx with h1 | h1
    · omega
    · exact ih n x h1
theorem put_bytes {u : Th} (h : Taken u) : IsBytes (putB u).1 := by
  rcases kind_cases u.kind with hk | hk | hk | hk | hk | hk | hk
  · have e : (putB u).1 = [u.n % 256] := by simp [putB, hk]
    rw [e]
    intro x hx
    have := List.mem_singleton.1 hx
    omega
  · have e : putB u = (if wide u.n.toNat u.w = true then ([], 1) else (fixedB u.w.toNat u.n.toNat, 0)) := by simp [putB, hk]
    rw [e]
    split
    · exact nil_bytes
    · exact fixedB_bytes _ _
  · have e : (putB u).1 = varB u.n.toNat := by simp [putB, hk]
    rw [e]
    exact varB_bytes _ (by have := h.good.gn; omega)
  · have e : (putB u).1 = varB (turned u.i) := by simp [putB, hk]
    rw [e]
    exact varB_bytes _ (turned_top h.good.gi)
  · have e : (putB u).1 = u.id := by simp [putB, hk]
    rw [e]
    exact h.good.gid
  · have e : (putB u).1 = pointB u.p.1 u.p.2 := by simp [putB, hk]
    rw [e]
    intro x hx
    simp only [pointB, List.mem_cons, List.not_mem_nil, or_false] at hx
    omega
  · have e : (putB u).1 = varB u.t.length ++ u.t := by simp [putB, hk]
    rw [e]
    intro x hx
    rcases List.mem_append.1 hx with h1 | h1
    · exact varB_bytes _ (text_top h hk) x h1
    · exact h.good.gt x h1
theorem C_take {w : World} {gb : Nat} {l : List Int} (h : Kd.C (Kd.int .u8) w (some ⟨gb, 0, none⟩) l.length l) (n : Nat) (hn : n ≤ l.length) : Kd.C (Kd.int .u8) w (some ⟨gb, 0, none⟩) n (l.take n) := by
  refine ⟨by rw [List.length_take]; omega, by have := h.2.1; omega, fun hp => ?_⟩
  obtain ⟨a, ha, hk⟩ := h.2.2 (by omega)
  refine ⟨a, ha, fun j p hj => ?_⟩
  have hj' : l[j]? = some p := by
    rw [List.getElem?_take] at hj
    split at hj
    · exact hj
    · cases hj
  exact hk j p hj'
end Go.Proofs.Ytjijmikpoenbcaa.Codec
