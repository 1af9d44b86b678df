/- Things: how a list of them is told, and what 'took' and 'put' do with any of them. Conditions: those that stand in each theorem. Written in this session. -/
import Derived.Test.YtjijmikpoenbcaaOpenArr
import Derived.Test.YtjijmikpoenbcaaCodecTookByte
import Derived.Test.YtjijmikpoenbcaaCodecTookFixed
import Derived.Test.YtjijmikpoenbcaaCodecTookVar
import Derived.Test.YtjijmikpoenbcaaCodecTookInt
import Derived.Test.YtjijmikpoenbcaaCodecTookId
import Derived.Test.YtjijmikpoenbcaaCodecTookPoint
import Derived.Test.YtjijmikpoenbcaaCodecTookText
import Derived.Test.YtjijmikpoenbcaaCodecPut
namespace Go.Proofs.Ytjijmikpoenbcaa.Codec
open Go.RowKit Go.Proofs.YtjijmikpoenbcaaW.PrintWords Go.Proofs.YtjijmikpoenbcaaW.PrintLast Go.Proofs.YtjijmikpoenbcaaW.PrintMore Go.Proofs.Ytjijmikpoenbcaa.Open
set_option linter.unusedVariables false
/-- who, kind, n, i, w, id, p, t -/
abbrev Th := Int × Int × Int × Int × Int × List Int × (Int × Int) × List Int
abbrev Th.kind (t : Th) : Int := t.2.1
abbrev Th.n (t : Th) : Int := t.2.2.1
abbrev Th.i (t : Th) : Int := t.2.2.2.1
abbrev Th.w (t : Th) : Int := t.2.2.2.2.1
abbrev Th.id (t : Th) : List Int := t.2.2.2.2.2.1
abbrev Th.p (t : Th) : Int × Int := t.2.2.2.2.2.2.1
abbrev Th.t (t : Th) : List Int := t.2.2.2.2.2.2.2
def kTh : Kd Th := Kd.pair (Kd.int .i64) (Kd.pair (Kd.int .i64) (Kd.pair (Kd.int .u64) (Kd.pair (Kd.int .i64) (Kd.pair (Kd.int .i64) (Kd.pair (Kd.arr 8 (Kd.int .u8) (by decide)) (Kd.pair (Kd.pair (Kd.int .i16) (Kd.int .i16)) (Kd.slice 5 (Kd.int .u8))))))))
def okTh (t : Th) : Prop := (Lit.int .i64 t.1).wf = true ∧ (Lit.int .i64 t.kind).wf = true ∧ (Lit.int .u64 t.n).wf = true ∧ (Lit.int .i64 t.i).wf = true ∧ (Lit.int .i64 t.w).wf = true ∧ (t.id.length = 8 ∧ ∀ y ∈ t.id, (Lit.int .u8 y).wf = true) ∧ ((Lit.int .i16 t.p.1).wf = true ∧ (Lit.int .i16 t.p.2).wf = true) ∧ (t.t.length * 1 ≤ reachBytes ∧ ∀ y ∈ t.t, (Lit.int .u8 y).wf = true)
theorem openTh : Opens Try.prog 46 kTh okTh :=
  Opens.weak (Opens.struct Try.underlying46 (by kernel_rfl) (Fields.cons (Opens.int Try.underlying3 (by kernel_rfl)) (Fields.cons (Opens.int Try.underlying3 (by kernel_rfl)) (Fields.cons (Opens.int Try.underlying39 (by kernel_rfl)) (Fields.cons (Opens.int Try.underlying3 (by kernel_rfl)) (Fields.cons (Opens.int Try.underlying3 (by kernel_rfl)) (Fields.cons (Opens.arr (by decide) Try.underlying41 (by kernel_rfl) (Opens.int Try.underlying5 (by kernel_rfl))) (Fields.cons (Opens.struct Try.underlying44 (by kernel_rfl) (Fields.cons (Opens.int Try.underlying42 (by kernel_rfl)) (Fields.one (Opens.int Try.underlying42 (by kernel_rfl))))) (Fields.one (Opens.slice 1 Try.underlying22 (by kernel_rfl) (by kernel_rfl) (Opens.int Try.underlying5 (by kernel_rfl)))))))))))) (fun a h => h)
theorem wf_bytes {l : List Int} (h : ∀ y ∈ l, (Lit.int .u8 y).wf = true) : IsBytes l := fun x hx => by
  have h := h x hx
  simp [Lit.wf, IntKind.min, IntKind.max, IntKind.signed, IntKind.bits] at h
  omega
/-- what is known of a thing -/
structure Good (t : Th) : Prop where
  gn : 0 ≤ t.n ∧ t.n < 18446744073709551616
  gi : -9223372036854775808 ≤ t.i ∧ t.i ≤ 9223372036854775807
  gw : -9223372036854775808 ≤ t.w ∧ t.w ≤ 9223372036854775807
  len : t.id.length = 8
  gid : IsBytes t.id
  gt : IsBytes t.t
  px : -32768 ≤ t.p.1 ∧ t.p.1 < 32768
  py : -32768 ≤ t.p.2 ∧ t.p.2 < 32768
theorem okTh.good {t : Th} (h : okTh t) : Good t := by
  obtain ⟨_, _, h3, h4, h5, ⟨h6, h7⟩, ⟨h8, h9⟩, _, h10⟩ := h
  refine ⟨?_, ?_, ?_, h6, wf_bytes h7, wf_bytes h10, ?_, ?_⟩
  · simp [Lit.wf, IntKind.min, IntKind.max, IntKind.signed, IntKind.bits] at h3; omega
  · simp [Lit.wf, IntKind.min, IntKind.max, IntKind.signed, IntKind.bits] at h4; omega
  · simp [Lit.wf, IntKind.min, IntKind.max, IntKind.signed, IntKind.bits] at h5; omega
  · simp [Lit.wf, IntKind.min, IntKind.max, IntKind.signed, IntKind.bits] at h8; omega
  · simp [Lit.wf, IntKind.min, IntKind.max, IntKind.signed, IntKind.bits] at h9; omega
/-- a thing's cells; its text is the slice at A -/
def thingOf (x : Th) (A : Option Addr) (c : Nat) : Array Value := thing x.1 x.kind x.n x.i x.w (rd x.id 0) (rd x.id 1) (rd x.id 2) (rd x.id 3) (rd x.id 4) (rd x.id 5) (rd x.id 6) (rd x.id 7) x.p.1 x.p.2 (.slice A x.t.length c)
theorem eight {l : List Int} (h : l.length = 8) : [rd l 0, rd l 1, rd l 2, rd l 3, rd l 4, rd l 5, rd l 6, rd l 7] = l := by
  match l, h with
  | [i0, i1, i2, i3, i4, i5, i6, i7], _ => rfl
theorem thing_at {w : World} {t : Th} {us : List Value} (h : kTh.K w t us) : t.id.length = 8 ∧ ∃ A c, us = (thingOf t A c).toList ∧ t.t.length ≤ c ∧ Kd.C (Kd.int .u8) w A t.t.length t.t := by
  obtain ⟨who, kind, n, i, wd, id, ⟨x, y⟩, tx⟩ := t
  obtain ⟨_, _, rfl, h0, _, _, rfl, h1, _, _, rfl, h2, _, _, rfl, h3, _, _, rfl, h4, _, _, rfl, h5, _, _, rfl, ⟨_, _, rfl, h6, h7⟩, A, c, rfl, h8, h9⟩ := h
  obtain ⟨h5l, h5c⟩ := Kd.arr_cells h5
  cases h0; cases h1; cases h2; cases h3; cases h4; cases h6; cases h7
  subst h5c
  refine ⟨h5l, A, c, ?_, h8, h9⟩
  have h5l' : id.length = 8 := h5l
  match id, h5l' with
  | [i0, i1, i2, i3, i4, i5, i6, i7], _ => rfl
def zero8 : List Int := [0, 0, 0, 0, 0, 0, 0, 0]
/-- what a read answers, what is left, the fault -/
def tookR (t : Th) (l : List Int) (e : Int) : Th × List Int × Int :=
  if kindOf t.kind = 0 then ((0, 0, (byteR l e).1, 0, 0, zero8, (0, 0), []), (byteR l e).2)
  else if kindOf t.kind = 1 then ((0, 1, (fixedR t.w l e).1, 0, t.w, zero8, (0, 0), []), (fixedR t.w l e).2)
  else if kindOf t.kind = 2 then ((0, 2, ((varR l e).1 : Int), 0, 0, zero8, (0, 0), []), (varR l e).2)
  else if kindOf t.kind = 3 then ((0, 3, 0, backI (varR l e).1, 0, zero8, (0, 0), []), (varR l e).2)
  else if kindOf t.kind = 4 then ((0, 4, 0, 0, 0, (idR l e).1, (0, 0), []), (idR l e).2)
  else if kindOf t.kind = 5 then ((0, 5, 0, 0, 0, zero8, (pointR l e).1, []), (pointR l e).2)
  else ((0, 6, 0, 0, 0, zero8, (0, 0), (textR t.w l e).1), (textR t.w l e).2)
theorem kind_cases (k : Int) : kindOf k = 0 ∨ kindOf k = 1 ∨ kindOf k = 2 ∨ kindOf k = 3 ∨ kindOf k = 4 ∨ kindOf k = 5 ∨ kindOf k = 6 := by
  have := kindOf_range k
  omega
theorem C_none {w : World} : Kd.C (Kd.int .u8) w none 0 [] := Kd.C_nil _ _
theorem took_all (base g : Nat) (v : Value) (l : List Int) (hby : IsBytes l) (e0 : Int) (w : World) (hr : RAt w base g v l e0) (t : Th) (hw : t.w ≤ 9223372036854775807) (A : Option Addr) (c : Nat) :
    Calls Try.prog 34 #[.pointer (some ⟨g, 0, none⟩), .agg (thingOf t A c)] w fun e w' => ∃ A' c', e = .returned (.agg (thingOf (tookR t l e0).1 A' c')) ∧ Took base g v (tookR t l e0).2.1 (tookR t l e0).2.2 w w' ∧ (tookR t l e0).1.t.length ≤ c' ∧ Kd.C (Kd.int .u8) w' A' (tookR t l e0).1.t.length (tookR t l e0).1.t := by
  rcases kind_cases t.kind with h | h | h | h | h | h | h
  · have e1 : tookR t l e0 = ((0, 0, (byteR l e0).1, 0, 0, zero8, (0, 0), []), (byteR l e0).2) := by simp [tookR, h]
    rw [e1]
    refine (took_byte base g v l hby e0 w hr _ _ _ _ _ _ _ _ _ _ _ _ _ _ _ _ _ _ _ rfl h).mono ?_
    rintro e w' ⟨rfl, k⟩
    exact ⟨none, 0, rfl, k, Nat.le_refl _, C_none⟩
  · have e1 : tookR t l e0 = ((0, 1, (fixedR t.w l e0).1, 0, t.w, zero8, (0, 0), []), (fixedR t.w l e0).2) := by simp [tookR, h]
    rw [e1]
    refine (took_fixed base g v l hby e0 w hr _ _ _ _ _ _ _ _ _ _ _ _ _ _ _ _ _ _ _ rfl h).mono ?_
    rintro e w' ⟨rfl, k⟩
    exact ⟨none, 0, rfl, k, Nat.le_refl _, C_none⟩
  · have e1 : tookR t l e0 = ((0, 2, ((varR l e0).1 : Int), 0, 0, zero8, (0, 0), []), (varR l e0).2) := by simp [tookR, h]
    rw [e1]
    refine (took_var base g v l hby e0 w hr _ _ _ _ _ _ _ _ _ _ _ _ _ _ _ _ _ _ _ rfl h).mono ?_
    rintro e w' ⟨rfl, k⟩
    exact ⟨none, 0, rfl, k, Nat.le_refl _, C_none⟩
  · have e1 : tookR t l e0 = ((0, 3, 0, backI (varR l e0).1, 0, zero8, (0, 0), []), (varR l e0).2) := by simp [tookR, h]
    rw [e1]
    refine (took_int base g v l hby e0 w hr _ _ _ _ _ _ _ _ _ _ _ _ _ _ _ _ _ _ _ rfl h).mono ?_
    rintro e w' ⟨rfl, k⟩
    exact ⟨none, 0, rfl, k, Nat.le_refl _, C_none⟩
  · have e1 : tookR t l e0 = ((0, 4, 0, 0, 0, (idR l e0).1, (0, 0), []), (idR l e0).2) := by simp [tookR, h]
    rw [e1]
    refine (took_id base g v l hby e0 w hr _ _ _ _ _ _ _ _ _ _ _ _ _ _ _ _ _ _ _ rfl h).mono ?_
    rintro e w' ⟨rfl, k⟩
    exact ⟨none, 0, rfl, k, Nat.le_refl _, C_none⟩
  · have e1 : tookR t l e0 = ((0, 5, 0, 0, 0, zero8, (pointR l e0).1, []), (pointR l e0).2) := by simp [tookR, h]
    rw [e1]
    refine (took_point base g v l hby e0 w hr _ _ _ _ _ _ _ _ _ _ _ _ _ _ _ _ _ _ _ rfl h).mono ?_
    rintro e w' ⟨rfl, k⟩
    exact ⟨none, 0, rfl, k, Nat.le_refl _, C_none⟩
  · have e1 : tookR t l e0 = ((0, 6, 0, 0, 0, zero8, (0, 0), (textR t.w l e0).1), (textR t.w l e0).2) := by simp [tookR, h]
    rw [e1]
    refine (took_text base g v l hby e0 w hr _ _ _ _ _ _ _ _ _ _ _ _ _ _ _ hw _ _ _ _ rfl h).mono ?_
    rintro e w' ⟨v', rfl, k, A', c', rfl, k1, k2⟩
    exact ⟨A', c', rfl, k, k1, k2⟩
/-- what is put, and what 'put' answers -/
def putB (t : Th) : List Int × Int :=
  if kindOf t.kind = 0 then ([t.n % 256], 0)
  else if kindOf t.kind = 1 then (if wide t.n.toNat t.w = true then ([], 1) else (fixedB t.w.toNat t.n.toNat, 0))
  else if kindOf t.kind = 2 then (varB t.n.toNat, 0)
  else if kindOf t.kind = 3 then (varB (turned t.i), 0)
  else if kindOf t.kind = 4 then (t.id, 0)
  else if kindOf t.kind = 5 then (pointB t.p.1 t.p.2, 0)
  else (varB t.t.length ++ t.t, 0)
theorem put_all (base g : Nat) (v : Value) (l : List Int) (w : World) (hw : WAt w base g v l) (hb : base ≤ w.heap.size) (t : Th) (ht : Good t) (A : Option Addr) (c : Nat) (hC : Kd.C (Kd.int .u8) w A t.t.length t.t) (hlen : l.length + 11 + t.t.length ≤ 140737488355328) :
    Calls Try.prog 21 #[.pointer (some ⟨g, 0, none⟩), .agg (thingOf t A c)] w fun e w' => e = .returned (.int .i64 (putB t).2) ∧ Wrote base g v (l ++ (putB t).1) w w' := by
  have hnn : ((t.n.toNat : Nat) : Int) = t.n := by have := ht.gn; omega
  have hnl : t.n.toNat < 18446744073709551616 := by have := ht.gn; omega
  rcases kind_cases t.kind with h | h | h | h | h | h | h
  · have e1 : putB t = ([t.n % 256], 0) := by simp [putB, h]
    rw [e1]
    exact put_byte base g v l w hw hb (by omega) t.1 t.kind t.n t.i t.w (rd t.id 0) (rd t.id 1) (rd t.id 2) (rd t.id 3) (rd t.id 4) (rd t.id 5) (rd t.id 6) (rd t.id 7) t.p.1 t.p.2 A t.t.length c _ rfl h
  · by_cases hwd : wide t.n.toNat t.w = true
    · have e1 : putB t = ([], 1) := by simp [putB, h, hwd]
      rw [e1]
      exact put_wide base g v l w hw hb (by omega) t.1 t.kind t.n t.i t.w (rd t.id 0) (rd t.id 1) (rd t.id 2) (rd t.id 3) (rd t.id 4) (rd t.id 5) (rd t.id 6) (rd t.id 7) t.p.1 t.p.2 A t.t.length c t.n.toNat hnl hnn.symm hwd _ rfl h
    · have e1 : putB t = (fixedB t.w.toNat t.n.toNat, 0) := by simp [putB, h, hwd]
      rw [e1]
      exact put_fixed base g v l w hw hb (by omega) t.1 t.kind t.n t.i t.w (rd t.id 0) (rd t.id 1) (rd t.id 2) (rd t.id 3) (rd t.id 4) (rd t.id 5) (rd t.id 6) (rd t.id 7) t.p.1 t.p.2 A t.t.length c t.n.toNat hnl hnn.symm ht.gw (by simpa using hwd) _ rfl h
  · have e1 : putB t = (varB t.n.toNat, 0) := by simp [putB, h]
    rw [e1]
    exact put_var base g v l w hw hb (by omega) t.1 t.kind t.n t.i t.w (rd t.id 0) (rd t.id 1) (rd t.id 2) (rd t.id 3) (rd t.id 4) (rd t.id 5) (rd t.id 6) (rd t.id 7) t.p.1 t.p.2 A t.t.length c t.n.toNat hnl hnn.symm _ rfl h
  · have e1 : putB t = (varB (turned t.i), 0) := by simp [putB, h]
    rw [e1]
    exact put_int base g v l w hw hb (by omega) t.1 t.kind t.n t.i t.w (rd t.id 0) (rd t.id 1) (rd t.id 2) (rd t.id 3) (rd t.id 4) (rd t.id 5) (rd t.id 6) (rd t.id 7) t.p.1 t.p.2 A t.t.length c ht.gi _ rfl h
  · have e1 : putB t = (t.id, 0) := by simp [putB, h]
    rw [e1]
    have k := put_id base g v l w hw hb (by omega) t.1 t.kind t.n t.i t.w (rd t.id 0) (rd t.id 1) (rd t.id 2) (rd t.id 3) (rd t.id 4) (rd t.id 5) (rd t.id 6) (rd t.id 7) t.p.1 t.p.2 A t.t.length c _ rfl h
    rw [eight ht.len] at k
    exact k
  · have e1 : putB t = (pointB t.p.1 t.p.2, 0) := by simp [putB, h]
    rw [e1]
    exact put_point base g v l w hw hb (by omega) t.1 t.kind t.n t.i t.w (rd t.id 0) (rd t.id 1) (rd t.id 2) (rd t.id 3) (rd t.id 4) (rd t.id 5) (rd t.id 6) (rd t.id 7) t.p.1 t.p.2 A t.t.length c _ rfl h
  · have e1 : putB t = (varB t.t.length ++ t.t, 0) := by simp [putB, h]
    rw [e1]
    exact put_text base g v l w hw hb t.t (by omega) t.1 t.kind t.n t.i t.w (rd t.id 0) (rd t.id 1) (rd t.id 2) (rd t.id 3) (rd t.id 4) (rd t.id 5) (rd t.id 6) (rd t.id 7) t.p.1 t.p.2 A t.t.length c rfl hC ht.gt _ rfl h
end Go.Proofs.Ytjijmikpoenbcaa.Codec
