/- The contracts of the byte writer: what each call leaves of a writer that NewWriter made. Conditions: those that stand in each theorem. Written in this session. -/
import Derived.Test.YtjijmikpoenbcaaProg
import Derived.Test.YtjijmikpoenbcaaWWords
import Derived.Test.YtjijmikpoenbcaaWMore
import Derived.Test.YtjijmikpoenbcaaWLast
import Derived.Deep.LoopGhost
import Derived.Deep.DeepCutAuto
import Derived.Deep.QuietTactic
import Derived.BigQuiet
import Derived.WalkKit
import Derived.Laws.CopyOwn
import Derived.WalkLawsBesides
import Derived.WalkSpells
import Derived.Maps.AppendAt
namespace Go.Proofs.Ytjijmikpoenbcaa.Codec
open Go.RowKit Go.Proofs.YtjijmikpoenbcaaW.PrintWords Go.Proofs.YtjijmikpoenbcaaW.PrintLast Go.Proofs.YtjijmikpoenbcaaW.PrintMore
set_option linter.unusedVariables false

/-- w' is w but for new blocks and for blocks of F -/
structure Chg (F : Nat → Prop) (w w' : World) : Prop where
  os : w'.os = w.os
  tape : w'.tape = w.tape
  output : w'.output = w.output
  size : w.heap.size ≤ w'.heap.size
  block : ∀ k, k < w.heap.size → ¬ F k → w'.heap[k]? = w.heap[k]?
theorem Chg.refl (F : Nat → Prop) (w : World) : Chg F w w := ⟨rfl, rfl, rfl, Nat.le_refl _, fun _ _ _ => rfl⟩
theorem Chg.trans {F : Nat → Prop} {a b c : World} (h : Chg F a b) (k : Chg F b c) : Chg F a c :=
  ⟨k.os.trans h.os, k.tape.trans h.tape, k.output.trans h.output, Nat.le_trans h.size k.size, fun i hi hf => (k.block i (Nat.lt_of_lt_of_le hi h.size) hf).trans (h.block i hi hf)⟩
/-- behind a step whose own blocks are among F or were not there at the beginning -/
theorem Chg.then {F G : Nat → Prop} {a b c : World} (h : Chg F a b) (k : Chg G b c) (hG : ∀ i, G i → F i ∨ a.heap.size ≤ i) : Chg F a c :=
  ⟨k.os.trans h.os, k.tape.trans h.tape, k.output.trans h.output, Nat.le_trans h.size k.size, fun i hi hf => (k.block i (Nat.lt_of_lt_of_le hi h.size) (fun hg => by rcases hG i hg with q | q; exact hf q; omega)).trans (h.block i hi hf)⟩
theorem Chg.mono {F G : Nat → Prop} {a b : World} (h : Chg F a b) (hF : ∀ i, F i → G i) : Chg G a b := ⟨h.os, h.tape, h.output, h.size, fun i hi hg => h.block i hi (fun hf => hg (hF i hf))⟩
theorem Chg.of_below {F : Nat → Prop} {w w' : World} (h : Below w.heap.size w w') : Chg F w w' := ⟨h.os, h.tape, h.output, h.size, fun k hk _ => h.block k hk⟩
theorem Chg.below {F : Nat → Prop} {w w' : World} {B : Nat} (h : Chg F w w') (hB : B ≤ w.heap.size) (hF : ∀ k, F k → B ≤ k) : Below B w w' := ⟨h.os, h.tape, h.output, h.size, fun k hk => h.block k (by omega) (fun hf => by have := hF k hf; omega)⟩
theorem Chg.of_grown {w w' : World} {row : Option Nat} (h : w.grownBy w' row) : Chg (fun k => some k = row) w w' := ⟨h.os, h.tape, h.output, h.size, fun k hk hf => h.block k hk hf⟩
theorem Chg.alloc {F : Nat → Prop} {a w : World} (h : Chg F a w) (o : Obj) : Chg F a (w.alloc o) := h.then (Chg.of_below (F := fun _ => False) (below_alloc (Below.refl _ _) o)) (fun _ hf => hf.elim)
theorem Chg.setCell {F : Nat → Prop} {a w : World} (h : Chg F a w) {p : Addr} (hp : F p.block ∨ a.heap.size ≤ p.block) (u : Value) : Chg F a (w.setCell p u) :=
  ⟨h.os, h.tape, h.output, by have := h.size; simpa [World.setCell] using this, fun k hk hf => by
    have hne : k ≠ p.block := fun e => by rcases hp with q | q; exact hf (e ▸ q); omega
    rw [Below.heap_setCell _ _ _ _ hne]
    exact h.block k hk hf⟩
theorem Chg.drewN {F : Nat → Prop} {a w : World} (h : Chg F a w) (n : Nat) : Chg F a (w.drewN n) := ⟨h.os, h.tape, h.output, h.size, h.block⟩
theorem Chg.heap {F : Nat → Prop} {w w' : World} (h : Chg F w w') {k : Nat} {o : Obj} (hk : w.heap[k]? = some o) (hf : ¬ F k) : w'.heap[k]? = some o := (h.block k (blk_lt hk) hf).trans hk

/-- a writer at block g, its bytes in v -/
structure WAt (w : World) (base g : Nat) (v : Value) (l : List Int) : Prop where
  blk : w.heap[g]? = some (.cells #[v, .bool true] 36 (0, 0))
  own : w.ownsRow base 5 1 v l.length (nums .u8 l)
  ge : base ≤ g
/-- its blocks -/
def fp (g : Nat) (v : Value) (k : Nat) : Prop := k = g ∨ some k = v.ownBlock
theorem WAt.keep {w w' : World} {base g : Nat} {v : Value} {l : List Int} {F : Nat → Prop} (h : WAt w base g v l) (hc : Chg F w w') (hF : ∀ k, fp g v k → ¬ F k) : WAt w' base g v l :=
  ⟨hc.heap h.blk (hF g (Or.inl rfl)), own_move h.own (fun k hk => hc.block k (own_lt h.own k hk) (hF k (Or.inr hk.symm))), h.ge⟩
theorem WAt.lt {w : World} {base g : Nat} {v : Value} {l : List Int} (h : WAt w base g v l) : ∀ k, fp g v k → base ≤ k ∧ k < w.heap.size := fun k hk => by
  rcases hk with rfl | hk
  · exact ⟨h.ge, blk_lt h.blk⟩
  · exact ⟨own_base h.own k hk.symm, own_lt h.own k hk.symm⟩
/-- what a step makes of the bytes' block -/
def Moved (w : World) (v v' : Value) : Prop := ∀ k, v'.ownBlock = some k → v.ownBlock = some k ∨ w.heap.size ≤ k
theorem Moved.refl (w : World) (v : Value) : Moved w v v := fun k hk => Or.inl hk
theorem Moved.trans {a b : World} {v v' v'' : Value} (h : Moved a v v') (k : Moved b v' v'') (hs : a.heap.size ≤ b.heap.size) : Moved a v v'' := fun i hi => by
  rcases k i hi with q | q
  · exact h i q
  · exact Or.inr (by omega)
/-- what a step makes of a writer -/
def Wrote (base g : Nat) (v : Value) (l : List Int) (w w' : World) : Prop := ∃ v', WAt w' base g v' l ∧ Moved w v v' ∧ Chg (fp g v) w w'

theorem u8info : (Try.prog.info? 5).map (fun i => (i.zero, i.size, i.bytes)) = some (some (.int .u8 0), 1, 1) := by kernel_rfl
theorem own_ne_writer {w : World} {base g : Nat} {v : Value} {l : List Int} (h : WAt w base g v l) : v.ownBlock ≠ some g := fun e => by
  obtain ⟨cells, hc⟩ := own_typed h.own g e
  rw [h.blk] at hc
  simp at hc

set_option maxHeartbeats 8000000 in
set_option maxRecDepth 100000 in
theorem put_calls (base g : Nat) (v : Value) (l : List Int) (a : Addr) (c : Nat) (ps : List Int) (w : World) (hw : WAt w base g v l) (hb : base ≤ w.heap.size) (hp : Kd.C (Kd.int .u8) w (some a) ps.length ps) (hps : 0 < ps.length) (hlen : l.length + ps.length ≤ 140737488355328) :
    Calls Try.prog 50 #[.pointer (some ⟨g, 0, none⟩), .slice (some a) ps.length c] w fun e w' => e = .returned (.tuple #[]) ∧ Wrote base g v (l ++ ps) w w' := by
  have HW := Aside0.mk hw
  have HP := Aside0.mk hp
  have HLEN := Aside0.mk hlen
  have HBASE := Aside0.mk hb
  have hc0 : w.cell? ⟨g, 0, none⟩ = some v := (blk_cell hw.blk 0).trans rfl
  have hc1 : w.cell? ⟨g, 1, none⟩ = some (.bool true) := (blk_cell hw.blk 1).trans rfl
  have hf0 := blk_frozen hw.blk 0
  clear hw hp hlen hb
  obtain ⟨i0, hi, hz0, hz1, hz2⟩ := info_parts u8info
  go_enter Try.func50, Try.ntmps50
  go_wp2_with (at_builtin; refine wpList_append_own_at _ rfl _ _ 22 rfl base 5 i0 (.int .u8 0) 1 1 Try.underlying22 hi hz0 hz1 hz2 rfl (by decide) v l.length (nums .u8 l) rfl HW.out.own a ps.length c (nums .u8 ps) rfl (by rw [nums_length]; omega) ?hnews ?hone (by have := HLEN.out; unfold maxLen; omega) (by have := HLEN.out; omega) HBASE.out ?_)
  case hnews =>
    intro j u hj
    have hj2 : j < ps.length := by have := (List.getElem?_eq_some_iff.1 hj).1; rwa [nums_length] at this
    obtain ⟨ad, e, h0⟩ := Kd.at_int HP.out (j : Int) (by omega) (by omega)
    cases e
    rw [Int.toNat_natCast] at h0
    rw [h0]
    have : u = .int .u8 (rd ps j) := by
      simp only [nums, List.getElem?_map, List.getElem?_eq_getElem hj2, Option.map_some, Option.some.injEq] at hj
      rw [← hj]
      simp [rd, List.getD, hj2]
    rw [this]
  case hone =>
    intro u hu
    obtain ⟨x, _, rfl⟩ := List.mem_map.1 hu
    rfl
  intro v' w1 hown hgrow hnil hloc
  obtain ⟨gb, cap, rfl⟩ : ∃ gb cap, v' = .slice (some ⟨gb, 0, none⟩) (l.length + ps.length) cap := by
    rcases hown.2 with ⟨_, h⟩ | ⟨gb, cap, _, h, _⟩
    · omega
    · exact ⟨gb, cap, h⟩
  have HO := Aside0.mk hown
  have HG := Aside0.mk hgrow
  have HL := Aside0.mk hloc
  clear hown hgrow hnil hloc
  have hblk : w1.heap[g]? = some (.cells #[v, .bool true] 36 (0, 0)) := blk_grown HW.out.blk HG.out (fun e => own_ne_writer HW.out e.symm)
  have hd0 : w1.cell? ⟨g, 0, none⟩ = some v := (blk_cell hblk 0).trans rfl
  have hf1 := blk_frozen hblk 0
  have HBLK := Aside0.mk hblk
  clear hblk hc0 hc1 hf0
  go_wp2
  go_end0
  refine ⟨rfl, .slice (some ⟨gb, 0, none⟩) (l.length + ps.length) cap, ⟨?_, ?_, HW.out.ge⟩, ?_, ?_⟩
  · exact blk_put HBLK.out 0 _ rfl
  · rw [List.length_append, nums_append]
    refine own_setCell HO.out ?_ _
    intro e
    obtain ⟨cells, hc⟩ := own_typed HO.out g e.symm
    rw [HBLK.out] at hc
    simp at hc
  · intro k hk
    rcases HL.out with q | q
    · exact Or.inl (q ▸ hk)
    · rw [q] at hk
      have : w.heap.size = k := by simpa using hk
      exact Or.inr (by omega)
  · exact Chg.setCell (F := fp g v) (p := ⟨g, 0, none⟩) ((Chg.of_grown HG.out).mono (fun k hk => Or.inr hk)) (Or.inl (Or.inl rfl)) _

/-! numbers as bytes -/
/-- an int's turned number -/
def turned (n : Int) : Nat := if 0 ≤ n then (2 * n).toNat else (-2 * n - 1).toNat
/-- the bytes of the shortest form: seven bits each, the lowest first -/
def varF : Nat → Nat → List Int
  | 0, n => [(n : Int)]
  | k + 1, n => if n < 128 then [(n : Int)] else ((n % 128 + 128 : Nat) : Int) :: varF k (n / 128)
def varB (n : Nat) : List Int := varF 10 n
theorem varF_more (k : Nat) : ∀ n, n < 128 ^ (k + 1) → varF (k + 1) n = varF k n := by
  induction k with
  | zero => intro n h; simp only [varF]; rw [if_pos (by omega)]
  | succ k ih =>
    intro n h
    have h2 := ih (n / 128) (by rw [Nat.pow_succ] at h; omega)
    rw [show varF (k + 1 + 1) n = if n < 128 then [(n : Int)] else ((n % 128 + 128 : Nat) : Int) :: varF (k + 1) (n / 128) from rfl, h2]
    rfl
theorem varF_at (k : Nat) (hk : k ≤ 10) (n : Nat) (h : n < 128 ^ (k + 1)) : varB n = varF k n := by
  have : ∀ d, d + k ≤ 10 → varF (k + d) n = varF k n := by
    intro d
    induction d with
    | zero => intro _; rfl
    | succ d ih =>
      intro hd
      rw [show k + (d + 1) = (k + d) + 1 from rfl, varF_more (k + d) n (Nat.lt_of_lt_of_le h (Nat.pow_le_pow_right (by omega) (by omega)))]
      exact ih (by omega)
  have h2 := this (10 - k) (by omega)
  rw [show k + (10 - k) = 10 by omega] at h2
  exact h2
theorem varB_small {n : Nat} (h : n < 128) : varB n = [(n : Int)] := by rw [varF_at 0 (by omega) n (by omega)]; rfl
theorem varB_more {n : Nat} (h : ¬ n < 128) (hn : n < 18446744073709551616) : varB n = ((n % 128 + 128 : Nat) : Int) :: varB (n / 128) := by
  rw [varF_at 9 (by omega) (n / 128) (by omega)]
  show varF 10 n = _
  rw [varF]
  rw [if_neg h]
theorem varF_len (k : Nat) : ∀ n, (varF k n).length ≤ k + 1 := by
  induction k with
  | zero => intro n; simp [varF]
  | succ k ih =>
    intro n
    simp only [varF]
    split
    · simp
    · have := ih (n / 128)
      simp only [List.length_cons]
      omega
theorem varB_len {n : Nat} (hn : n < 18446744073709551616) : (varB n).length ≤ 10 := by
  rw [varF_at 9 (by omega) n (by omega)]
  exact varF_len 9 n

set_option maxHeartbeats 8000000 in
set_option maxRecDepth 100000 in
theorem byte_put (base g : Nat) (v : Value) (l : List Int) (x : Int) (w : World) (hw : WAt w base g v l) (hb : base ≤ w.heap.size) (hlen : l.length + 1 ≤ 140737488355328) :
    Calls Try.prog 50 #[.pointer (some ⟨g, 0, none⟩), .slice (some ⟨w.heap.size, 0, none⟩) 1 1] (w.alloc (.cells #[.int .u8 x] 5)) fun e w' => e = .returned (.tuple #[]) ∧ Wrote base g v (l ++ [x]) w w' := by
  have hk : WAt (w.alloc (.cells #[.int .u8 x] 5)) base g v l := hw.keep (F := fun _ => False) (Chg.alloc (Chg.refl _ _) _) (fun _ _ h => h)
  have hr : Kd.C (Kd.int .u8) (w.alloc (.cells #[.int .u8 x] 5)) (some ⟨w.heap.size, 0, none⟩) 1 [x] := by
    refine ⟨rfl, by omega, fun _ => ⟨_, rfl, fun j p hj => ?_⟩⟩
    match j, hj with
    | 0, hj =>
      simp at hj
      subst hj
      refine ⟨[.int .u8 x], rfl, rfl, fun i u hu => ?_⟩
      match i, hu with
      | 0, hu =>
        simp at hu
        subst hu
        have := blk_cell (blk_new w (.cells #[.int .u8 x] 5)) 0
        rw [show ((⟨w.heap.size, 0, none⟩ : Addr).add (0 * (Kd.int .u8).sz + 0)) = ⟨w.heap.size, 0, none⟩ from add_plain _ _]
        rw [this]
        rfl
  refine (put_calls base g v l ⟨w.heap.size, 0, none⟩ 1 [x] _ hk (by rw [World.size_alloc]; omega) hr (by simp) (by simpa using hlen)).mono ?_
  rintro e w' ⟨rfl, v', h1, h2, h3⟩
  refine ⟨rfl, v', h1, fun k hk => ?_, (Chg.alloc (Chg.refl _ _) _).trans h3⟩
  rcases h2 k hk with q | q
  · exact Or.inl q
  · rw [World.size_alloc] at q; exact Or.inr (by omega)
theorem Wrote.trans {base g : Nat} {v v' : Value} {l l' : List Int} {a b c : World} (h1 : WAt b base g v' l) (h2 : Moved a v v') (h3 : Chg (fp g v) a b) (h4 : Wrote base g v' l' b c) : Wrote base g v l' a c := by
  obtain ⟨v'', k1, k2, k3⟩ := h4
  refine ⟨v'', k1, h2.trans k2 h3.size, h3.then k3 (fun i hi => ?_)⟩
  rcases hi with hi | hi
  · exact Or.inl (Or.inl hi)
  · rcases h2 i hi.symm with q | q
    · exact Or.inl (Or.inr q.symm)
    · exact Or.inr q
set_option maxHeartbeats 8000000 in
set_option maxRecDepth 100000 in
theorem wByte_calls (base g : Nat) (v : Value) (l : List Int) (x : Int) (w : World) (hw : WAt w base g v l) (hb : base ≤ w.heap.size) (hlen : l.length + 1 ≤ 140737488355328) :
    Calls Try.prog 47 #[.pointer (some ⟨g, 0, none⟩), .int .u8 x] w fun e w' => e = .returned (.tuple #[]) ∧ Wrote base g v (l ++ [x]) w w' := by
  have HP := Aside0.mk (byte_put base g v l x w hw hb hlen)
  clear hw hb hlen
  go_enter Try.func47, Try.ntmps47
  go_wp2_with fail
  refine HP.out.mono ?_
  rintro e w' ⟨rfl, h⟩
  have H := Aside0.mk h
  clear h
  go_wp2
  go_end0
  exact ⟨rfl, H.out⟩
theorem or_all : ∀ x : Fin 256, bits .or .u8 (x.val : Int) 128 = ((x.val % 128 + 128 : Nat) : Int) := by decide +kernel
theorem or_128 (m : Nat) : bits .or .u8 ((m : Int) % 256) 128 = ((m % 128 + 128 : Nat) : Int) := by
  have h := or_all ⟨m % 256, by omega⟩
  have e : ((m % 256 : Nat) : Int) = (m : Int) % 256 := by omega
  simp only [e] at h
  rw [h]
  omega
set_option maxHeartbeats 8000000 in
set_option maxRecDepth 100000 in
theorem wVar_calls (base g : Nat) (v : Value) (l : List Int) (n : Nat) (w : World) (hw : WAt w base g v l) (hb : base ≤ w.heap.size) (hn : n < 18446744073709551616) (hlen : l.length + 11 ≤ 140737488355328) :
    Calls Try.prog 23 #[.pointer (some ⟨g, 0, none⟩), .int .u64 n] w fun e w' => e = .returned (.tuple #[]) ∧ Wrote base g v (l ++ varB n) w w' := by
  have HW := Aside0.mk hw
  have HBASE := Aside0.mk hb
  have HLEN := Aside0.mk hlen
  have HN := Aside0.mk hn
  clear hw hb hlen hn
  go_enter Try.func23, Try.ntmps23
  go_wp2
  go_loopg [1] 10 (fun kq v1 wr => ∃ (m : Nat) (l1 : List Int) (u : Value), v1 = .int .u64 m ∧ Aside0 (m < 128 ^ kq ∧ m < 18446744073709551616 ∧ l1.length + kq ≤ l.length + 10) ∧ Aside0 (l ++ varB n = l1 ++ varB m) ∧ Aside0 (WAt wr base g u l1) ∧ Aside0 (Moved w v u) ∧ Aside0 (Chg (fp g v) w wr))
  case atStart => exact ⟨n, l, v, rfl, ⟨by have := HN.out; omega⟩, ⟨rfl⟩, HW, ⟨Moved.refl _ _⟩, ⟨Chg.refl _ _⟩⟩
  case round =>
    obtain ⟨m, l1, u, rfl, HM, HE, HU, HMV, HC⟩ := hrel
    obtain ⟨hm0, hm1, hm2⟩ := HM.out
    by_cases h7 : (127 : Int) < m
    · have HL := Aside0.mk (varB_more (n := m) (by omega) hm1)
      have HB2 := Aside0.mk (or_128 m)
      go_wp2_with fail
      refine (byte_put base g u l1 _ wr HU.out (by have := HC.out.size; have := HBASE.out; omega) (by have := HLEN.out; omega)).mono ?_
      rintro e w1 ⟨rfl, u1, h1, h2, h3⟩
      have HU1 := Aside0.mk h1
      have HMV1 := Aside0.mk (HMV.out.trans h2 HC.out.size)
      have HC1 := Aside0.mk (HC.out.then h3 (fun i hi => by
        rcases hi with hi | hi
        · exact Or.inl (Or.inl hi)
        · rcases HMV.out i hi.symm with q | q
          · exact Or.inl (Or.inr q.symm)
          · exact Or.inr q))
      clear h1 h2 h3
      go_wp2
      obtain ⟨k, rfl⟩ : ∃ k, gk = k + 1 := ⟨gk - 1, by rcases Nat.eq_zero_or_pos gk with h | h; (subst h; simp at hm0; omega); omega⟩
      go_roundg k
      case measure => omega
      case rel => exact ⟨m / 128, _, u1, by first | rfl | simp, ⟨by rw [Nat.pow_succ] at hm0; simp only [List.length_append, List.length_singleton]; omega⟩, ⟨by rw [HE.out, HL.out, HB2.out]; simp⟩, HU1, HMV1, HC1⟩
    · have HL := Aside0.mk (varB_small (n := m) (by omega))
      have HB2 := Aside0.mk (show ((m : Int) % 256) = m by omega)
      go_wp2_with fail
      refine (byte_put base g u l1 _ wr HU.out (by have := HC.out.size; have := HBASE.out; omega) (by have := HLEN.out; omega)).mono ?_
      rintro e w1 ⟨rfl, u1, h1, h2, h3⟩
      have HU1 := Aside0.mk h1
      have HMV1 := Aside0.mk (HMV.out.trans h2 HC.out.size)
      have HC1 := Aside0.mk (HC.out.then h3 (fun i hi => by
        rcases hi with hi | hi
        · exact Or.inl (Or.inl hi)
        · rcases HMV.out i hi.symm with q | q
          · exact Or.inl (Or.inr q.symm)
          · exact Or.inr q))
      clear h1 h2 h3
      go_wp2
      go_end0
      refine ⟨rfl, u1, ?_, HMV1.out, HC1.out⟩
      rw [HE.out, HL.out]
      exact HU1.out
theorem turned_lt (n : Int) (h0 : -9223372036854775808 ≤ n) (h1 : n ≤ 9223372036854775807) : turned n < 18446744073709551616 := by
  unfold turned
  split <;> omega
theorem xor_ones (a : Nat) (ha : a < 18446744073709551616) : a ^^^ 18446744073709551615 = 18446744073709551615 - a := by
  have h := congrArg BitVec.toNat (BitVec.xor_allOnes (x := BitVec.ofNat 64 a))
  rw [BitVec.toNat_xor, BitVec.toNat_not, BitVec.toNat_allOnes, BitVec.toNat_ofNat, Nat.mod_eq_of_lt (by omega)] at h
  have e : 2 ^ 64 - 1 = 18446744073709551615 := by decide
  rw [e] at h
  rw [h]
theorem wrap_u64_nonneg {n : Int} (h0 : 0 ≤ n) (h1 : n < 18446744073709551616) : IntKind.u64.wrap n = n := by
  rw [show IntKind.u64.wrap n = n % 18446744073709551616 from rfl]
  omega
theorem wrap_u64_neg {n : Int} (h0 : -18446744073709551616 ≤ n) (h1 : n < 0) : IntKind.u64.wrap n = n + 18446744073709551616 := by
  rw [show IntKind.u64.wrap n = n % 18446744073709551616 from rfl]
  omega
theorem wrap_u64_over {n : Int} (h0 : 18446744073709551616 ≤ n) (h1 : n < 36893488147419103232) : IntKind.u64.wrap n = n - 18446744073709551616 := by
  rw [show IntKind.u64.wrap n = n % 18446744073709551616 from rfl]
  omega
theorem turned_arg (n : Int) (h0 : -9223372036854775808 ≤ n) (h1 : n ≤ 9223372036854775807) :
    bits .xor .u64 (IntKind.u64.wrap (IntKind.u64.wrap n * 2)) (IntKind.u64.wrap (n / 9223372036854775808)) = ((turned n : Nat) : Int) := by
  by_cases hn : 0 ≤ n
  · obtain ⟨m, rfl⟩ := Int.eq_ofNat_of_zero_le hn
    rw [wrap_u64_nonneg hn (by omega), wrap_u64_nonneg (by omega) (by omega), show (m : Int) / 9223372036854775808 = ((0 : Nat) : Int) by omega, wrap_u64_nonneg (by omega) (by omega)]
    have e : (m : Int) * 2 = ((2 * m : Nat) : Int) := by omega
    rw [e, u64_xor_nat (2 * m) 0 (by omega) (by omega), Nat.xor_zero]
    unfold turned
    rw [if_pos hn]
    omega
  · rw [wrap_u64_neg (n := n) (by omega) (by omega), wrap_u64_over (by omega) (by omega), show n / 9223372036854775808 = -1 by omega, wrap_u64_neg (n := -1) (by omega) (by omega)]
    obtain ⟨m, hm⟩ := Int.eq_ofNat_of_zero_le (show 0 ≤ (n + 18446744073709551616) * 2 - 18446744073709551616 by omega)
    rw [hm, show (-1 + 18446744073709551616 : Int) = ((18446744073709551615 : Nat) : Int) by omega, u64_xor_nat m 18446744073709551615 (by omega) (by omega), xor_ones m (by omega)]
    unfold turned
    rw [if_neg hn]
    omega
set_option maxHeartbeats 8000000 in
set_option maxRecDepth 100000 in
theorem wInt_calls (base g : Nat) (v : Value) (l : List Int) (n : Int) (w : World) (hw : WAt w base g v l) (hb : base ≤ w.heap.size) (hn : -9223372036854775808 ≤ n ∧ n ≤ 9223372036854775807) (hlen : l.length + 11 ≤ 140737488355328) :
    Calls Try.prog 40 #[.pointer (some ⟨g, 0, none⟩), .int .i64 n] w fun e w' => e = .returned (.tuple #[]) ∧ Wrote base g v (l ++ varB (turned n)) w w' := by
  have HW := Aside0.mk hw
  have HBASE := Aside0.mk hb
  have HLEN := Aside0.mk hlen
  obtain ⟨n0, n1⟩ := hn
  clear hw hb hlen
  go_enter Try.func40, Try.ntmps40
  have HT := Aside0.mk (turned_arg n n0 n1)
  have HTL := Aside0.mk (turned_lt n n0 n1)
  go_wp2_with fail
  rw [HT.out]
  refine (wVar_calls base g v l (turned n) _ HW.out HBASE.out HTL.out HLEN.out).mono ?_
  rintro e w' ⟨rfl, h⟩
  have H := Aside0.mk h
  clear h
  go_wp2
  go_end0
  exact ⟨rfl, H.out⟩
/-- a number in k bytes, the highest first -/
def fixedB : Nat → Nat → List Int
  | 0, _ => []
  | k + 1, n => ((n / 256 ^ k % 256 : Nat) : Int) :: fixedB k n
theorem fixedB_len (k n : Nat) : (fixedB k n).length = k := by
  induction k with
  | zero => rfl
  | succ k ih => simp [fixedB, ih]
theorem shr_arg (n : Nat) (k : Nat) : (n : Int) / 2 ^ (8 * k) % 256 = ((n / 256 ^ k % 256 : Nat) : Int) := by
  have e : (256 : Nat) ^ k = 2 ^ (8 * k) := by rw [Nat.pow_mul]
  rw [e, Int.natCast_emod, Int.natCast_ediv, Int.natCast_pow]
  rfl
/-- a number does not go into so many bytes -/
def wide (n : Nat) (wd : Int) : Bool := decide (wd < 1) || decide (8 < wd) || (decide (wd < 8) && decide (n / 2 ^ (8 * wd).toNat ≠ 0))
set_option maxHeartbeats 8000000 in
set_option maxRecDepth 100000 in
theorem wFixed_calls (base g : Nat) (v : Value) (l : List Int) (n : Nat) (wd : Int) (w : World) (hw : WAt w base g v l) (hb : base ≤ w.heap.size) (hn : n < 18446744073709551616) (hwd : -9223372036854775808 ≤ wd ∧ wd ≤ 9223372036854775807) (hwide : wide n wd = false) (hlen : l.length + 11 ≤ 140737488355328) :
    Calls Try.prog 33 #[.pointer (some ⟨g, 0, none⟩), .int .u64 n, .int .i64 wd] w fun e w' => e = .returned (.int .i64 0) ∧ Wrote base g v (l ++ fixedB wd.toNat n) w w' := by
  have HW := Aside0.mk hw
  have HBASE := Aside0.mk hb
  have HLEN := Aside0.mk hlen
  have hc1 : w.cell? ⟨g, 1, none⟩ = some (.bool true) := (blk_cell hw.blk 1).trans rfl
  simp only [wide, Bool.or_eq_false_iff, decide_eq_false_iff_not, Bool.and_eq_false_iff, ne_eq, Decidable.not_not] at hwide
  obtain ⟨⟨h1, h2⟩, h3⟩ := hwide
  have H3 := Aside0.mk h3
  clear hw hb hlen h3 hwd
  have hcase : (wd < 8 ∧ ((n : Int) / 2 ^ (8 * wd).toNat != 0) = false) ∨ wd = 8 := by
    by_cases h8 : wd < 8
    · refine Or.inl ⟨h8, ?_⟩
      have := H3.out.resolve_left (by omega)
      rw [bne_eq_false_iff_eq]
      have e : ((n / 2 ^ (8 * wd).toNat : Nat) : Int) = (n : Int) / 2 ^ (8 * wd).toNat := by
        rw [Int.natCast_ediv, Int.natCast_pow]
        rfl
      rw [← e, this]
      rfl
    · exact Or.inr (by omega)
  clear H3
  obtain ⟨K, hK⟩ := Int.eq_ofNat_of_zero_le (show 0 ≤ wd by omega)
  subst hK
  rw [Int.toNat_natCast]
  rw [show (8 * (K : Int)).toNat = 8 * K by omega] at hcase
  rcases hcase with ⟨h8, h9⟩ | h8
  case' inr =>
    have h9 : decide ((K : Int) < 8) = false := decide_eq_false (by omega)
    have h10 : decide (K < 8) = false := decide_eq_false (by omega)
    replace h8 : 8 ≤ (K : Int) := by omega
  all_goals
    go_enter Try.func33, Try.ntmps33
    go_wp2
    clear hc1
    go_loopg [7] K (fun kq v7 wr => ∃ (l1 : List Int) (u : Value), v7 = .int .i64 ((kq : Int) - 1) ∧ Aside0 (kq ≤ 8 ∧ l1.length + kq ≤ l.length + 8) ∧ Aside0 (l ++ fixedB K n = l1 ++ fixedB kq n) ∧ Aside0 (WAt wr base g u l1) ∧ Aside0 (Moved w v u) ∧ Aside0 (Chg (fp g v) w wr))
    case atStart => exact ⟨l, v, by first | rfl | (congr 1; omega), ⟨by omega⟩, ⟨rfl⟩, HW, ⟨Moved.refl _ _⟩, ⟨Chg.refl _ _⟩⟩
    case round =>
      obtain ⟨l1, u, rfl, HM, HE, HU, HMV, HC⟩ := hrel
      obtain ⟨hm0, hm1⟩ := HM.out
      cases gk with
      | zero =>
        go_wp2
        go_ret
        exact ⟨rfl, u, by have := HU.out; rw [HE.out]; simpa [fixedB] using this, HMV.out, HC.out⟩
      | succ k =>
        have e1 : (((k + 1 : Nat) : Int) - 1) = (k : Int) := by omega
        rw [e1]
        have HS := Aside0.mk (shr_arg n k)
        go_wp2_with fail
        rw [HS.out]
        refine (byte_put base g u l1 _ wr HU.out (by have := HC.out.size; have := HBASE.out; omega) (by have := HLEN.out; omega)).mono ?_
        rintro e w1 ⟨rfl, u1, h1, h2, h3⟩
        have HU1 := Aside0.mk h1
        have HMV1 := Aside0.mk (HMV.out.trans h2 HC.out.size)
        have HC1 := Aside0.mk (HC.out.then h3 (fun i hi => by
          rcases hi with hi | hi
          · exact Or.inl (Or.inl hi)
          · rcases HMV.out i hi.symm with q | q
            · exact Or.inl (Or.inr q.symm)
            · exact Or.inr q))
        clear h1 h2 h3
        go_wp2
        go_roundg k
        case measure => omega
        case rel => exact ⟨_, u1, rfl, ⟨by simp only [List.length_append, List.length_singleton]; omega⟩, ⟨by rw [HE.out]; simp [fixedB]⟩, HU1, HMV1, HC1⟩
/-! copies -/
theorem copy_all {w : World} {ops : Array Oper} {rest : List Oper} {o : Oper} {a : Act} {Q : Exit → Act → World → Prop} (hgd : o.guard = none) (d s : Operand)
    (ho : o.op = .call { callee := .builtin .copy, args := #[d, s], argTypes := #[22, 22] }) (g n c : Nat) (A : Option Addr) (hd : a.eval d = .slice (some ⟨g, 0, none⟩) n n) (hs : a.eval s = .slice A n c)
    (l : List Int) (hr : Kd.C (Kd.int .u8) w A n l) (cur : Array Value) (hg : w.heap[g]? = some (.cells cur 5 (0, 0))) (hcur : cur.size = n)
    (h : ∀ w', w'.heap[g]? = some (.cells (nums .u8 l).toArray 5 (0, 0)) → Chg (· = g) w w' → wpList Try.prog ops Q rest (a.put o.dst (goInt n)) w') : wpList Try.prog ops Q (o :: rest) a w := by
  have hl : l.length = n := hr.1
  by_cases h0 : n = 0
  · subst h0
    refine wpList_copy_nothing hgd d s 22 22 ho 5 Try.underlying22 (by kernel_rfl) _ _ _ _ _ _ hd hs rfl (h w ?_ (Chg.refl _ _))
    obtain rfl : l = [] := List.eq_nil_of_length_eq_zero hl
    obtain rfl : cur = #[] := Array.eq_empty_of_size_eq_zero hcur
    exact hg
  · obtain ⟨ad, e, hel⟩ := hr.2.2 (by omega)
    subst e
    have hlen : (nums .u8 l).length = n := by rw [nums_length, hl]
    refine wpList_copy_own hgd d s 22 22 ho 5 Try.underlying22 (by kernel_rfl) g 0 n n ad n c hd hs cur 5 hg (nums .u8 l) (by rw [hlen]; simp) ?_ (by omega) ?_ ?_
    · intro j u hj
      have hj2 : j < l.length := by have := (List.getElem?_eq_some_iff.1 hj).1; rwa [nums_length] at this
      obtain ⟨ad', e', h1⟩ := Kd.at_int hr (j : Int) (by omega) (by omega)
      cases e'
      rw [Int.toNat_natCast] at h1
      rw [h1]
      simp only [nums, List.getElem?_map, List.getElem?_eq_getElem hj2, Option.map_some, Option.some.injEq] at hj
      rw [← hj]
      simp [rd, List.getD, hj2]
    · intro u hu
      obtain ⟨x, _, rfl⟩ := List.mem_map.1 hu
      rfl
    · have e1 : (cur.toList.take 0 ++ (nums .u8 l ++ cur.toList.drop (0 + (nums .u8 l).length))).toArray = (nums .u8 l).toArray := by
        congr 1
        rw [List.take_zero, List.nil_append, List.drop_eq_nil_of_le (by rw [hlen]; simp [hcur]), List.append_nil]
      rw [e1, hlen]
      refine h _ ?_ ?_
      · exact setRow_heap w g cur _ 5 (0, 0) hg
      · exact ⟨rfl, rfl, rfl, by simp [World.setRow], fun k hk hne => setRow_other w g k _ hne⟩
theorem bytes_at {w : World} {g : Nat} {l : List Int} (h : w.heap[g]? = some (.cells (nums .u8 l).toArray 5 (0, 0))) (hl : l.length ≤ 9223372036854775807) : Kd.C (Kd.int .u8) w (some ⟨g, 0, none⟩) l.length l := by
  refine ⟨rfl, hl, fun _ => ⟨_, rfl, fun j p hj => ⟨[.int .u8 p], rfl, rfl, fun i u hu => ?_⟩⟩⟩
  match i, hu with
  | 0, hu =>
    simp at hu
    subst hu
    rw [add_plain, blk_cell h]
    have : j * (Kd.int .u8).sz + 0 = j := by show j * 1 + 0 = j; omega
    rw [this]
    simp [nums, hj]
theorem own_C {w : World} {base : Nat} {v : Value} {l : List Int} (h : w.ownsRow base 5 1 v l.length (nums .u8 l)) : ∃ A c, v = .slice A l.length c ∧ l.length ≤ c ∧ Kd.C (Kd.int .u8) w A l.length l := by
  obtain ⟨A, c, e, hr⟩ := own_reads h
  subst e
  exact ⟨A, c, rfl, own_le h, Kd.C_of_reads (d := (0 : Int)) (h1 := fun _ => rfl) hr⟩
/-- a new row of zeros, as make leaves it -/
theorem made_cells {w : World} {base g n : Nat} {xs : List Value} (h : w.ownsRow base 5 1 (.slice (some ⟨g, 0, none⟩) n n) n xs) : ∃ cur : Array Value, w.heap[g]? = some (.cells cur 5 (0, 0)) ∧ cur.size = n := by
  rcases h.2 with ⟨e, _⟩ | ⟨g', cap, cur, e, _, hh, _, _, hs, _⟩
  · cases e
  · simp only [Value.slice.injEq, Option.some.injEq, Addr.mk.injEq] at e
    obtain ⟨⟨rfl, _, _⟩, _, rfl⟩ := e
    exact ⟨cur, hh, by omega⟩
set_option maxHeartbeats 8000000 in
set_option maxRecDepth 100000 in
theorem wBytes_calls (base g : Nat) (v : Value) (l : List Int) (w : World) (hw : WAt w base g v l) (hlen : l.length ≤ 140737488355328) :
    Calls Try.prog 31 #[.pointer (some ⟨g, 0, none⟩)] w fun e w' => e = .returned (.slice (some ⟨w.heap.size, 0, none⟩) l.length l.length) ∧ w'.heap[w.heap.size]? = some (.cells (nums .u8 l).toArray 5 (0, 0)) ∧ Below w.heap.size w w' := by
  obtain ⟨A, c, rfl, hlc, hC⟩ := own_C hw.own
  have HW := Aside0.mk hw
  have HC := Aside0.mk hC
  have HLEN := Aside0.mk hlen
  have hc0 : w.cell? ⟨g, 0, none⟩ = some (.slice A l.length c) := (blk_cell hw.blk 0).trans rfl
  clear hw hlen hC hlc
  obtain ⟨i0, hi, hz0, hz1, hz2⟩ := info_parts u8info
  go_enter Try.func31, Try.ntmps31
  go_wp2_with (first | (at_make; refine wpList_make_full _ rfl _ _ 22 rfl w.heap.size 5 i0 (.int .u8 0) 1 Try.underlying22 hi hz0 hz1 .i64 .i64 l.length l.length l.length rfl rfl rfl rfl (by rw [hz2]; have := HLEN.out; omega) (by have := HLEN.out; unfold maxLen; omega) (Nat.le_refl _) ?_; intro w1 hown hgrow; have HO := Aside0.mk hown; have HG := Aside0.mk hgrow; have hd0 : w1.cell? ⟨g, 0, none⟩ = some (.slice A l.length c) := (hgrow.cell hc0 (by simp)); clear hown hgrow; have HM := made_cells HO.out) | ((with_reducible refine copy_all rfl (.tmp 12) (.tmp 16) rfl w.heap.size l.length c A ?hd ?hs l ?hr HM.choose ?hg ?hcur ?_); (case hd => rfl); (case hs => rfl); (case hr => exact Kd.C_below HC.out (Chg.below (Chg.of_grown HG.out) (Nat.le_refl _) (fun k hk => by cases hk))); (case hg => exact HM.choose_spec.1); (case hcur => exact HM.choose_spec.2); intro w2 hw2 hch; have HW2 := Aside0.mk hw2; have HCH := Aside0.mk hch; clear hw2 hch))
  go_ret
  exact ⟨rfl, HW2.out, ((Chg.of_grown HG.out).then HCH.out (fun i hi => Or.inr (by omega))).below (Nat.le_refl _) (fun k hk => by cases hk)⟩

end Go.Proofs.Ytjijmikpoenbcaa.Codec
