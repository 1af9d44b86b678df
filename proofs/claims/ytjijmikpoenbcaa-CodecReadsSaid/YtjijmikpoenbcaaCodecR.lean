/- The contracts of the byte reader. Conditions: those that stand in each theorem. Written in this session. -/
import Derived.Test.YtjijmikpoenbcaaCodecW
namespace Go.Proofs.Ytjijmikpoenbcaa.Codec
open Go.RowKit Go.Proofs.YtjijmikpoenbcaaW.PrintWords Go.Proofs.YtjijmikpoenbcaaW.PrintLast Go.Proofs.YtjijmikpoenbcaaW.PrintMore
set_option linter.unusedVariables false

/-- a reader at block g: its slice v of what is left (l), its fault e -/
structure RAt (w : World) (base g : Nat) (v : Value) (l : List Int) (e : Int) : Prop where
  blk : w.heap[g]? = some (.cells #[v, .int .i64 e, .bool true] 65 (0, 0))
  ge : base ≤ g
  val : (e = 0 ∧ ∃ gb off c, v = .slice (some ⟨gb, off, none⟩) l.length c ∧ l.length ≤ c ∧ c ≤ 140737488355328 ∧ gb ≠ g ∧ base ≤ gb ∧ gb < w.heap.size ∧ (∃ cs t, w.heap[gb]? = some (.cells cs t (0, 0))) ∧ Kd.C (Kd.int .u8) w (some ⟨gb, off, none⟩) l.length l) ∨ (e ≠ 0 ∧ l = [] ∧ v = .slice none 0 0)
set_option maxHeartbeats 8000000 in
set_option maxRecDepth 100000 in
theorem NewReader_calls (A : Option Addr) (c : Nat) (l : List Int) (w : World) (hl : Kd.C (Kd.int .u8) w A l.length l) (hlen : l.length ≤ 140737488355328) :
    Calls Try.prog 25 #[.slice A l.length c] w fun e w' => ∃ g, e = .returned (.pointer (some ⟨g, 0, none⟩)) ∧ RAt w' w.heap.size g (.slice (some ⟨w.heap.size, 0, none⟩) l.length l.length) l 0 ∧ Below w.heap.size w w' := by
  have HC := Aside0.mk hl
  have HLEN := Aside0.mk hlen
  clear hlen hl
  obtain ⟨i0, hi, hz0, hz1, hz2⟩ := info_parts u8info
  go_enter Try.func25, Try.ntmps25
  go_wp2_with (first | (at_make; refine wpList_make_full _ rfl _ _ 22 rfl w.heap.size 5 i0 (.int .u8 0) 1 Try.underlying22 hi hz0 hz1 .i64 .i64 l.length l.length l.length rfl rfl rfl rfl (by rw [hz2]; have := HLEN.out; omega) (by have := HLEN.out; unfold maxLen; omega) (Nat.le_refl _) ?_; intro w1 hown hgrow; have HO := Aside0.mk hown; have HG := Aside0.mk hgrow; clear hown hgrow; have HM := made_cells HO.out) | ((with_reducible refine copy_all rfl (.tmp 7) (.tmp 8) rfl w.heap.size l.length c A ?hd ?hs l ?hr HM.choose ?hg ?hcur ?_); (case hd => rfl); (case hs => rfl); (case hr => exact Kd.C_below HC.out (Chg.below (Chg.of_grown HG.out) (Nat.le_refl _) (fun k hk => by cases hk))); (case hg => exact HM.choose_spec.1); (case hcur => exact HM.choose_spec.2); intro w2 hw2 hch; have HW2 := Aside0.mk hw2; have HCH := Aside0.mk hch; clear hw2 hch))
  go_ret
  refine ⟨w2.heap.size, rfl, ⟨blk_new _ _, ?_, Or.inl ⟨rfl, w.heap.size, 0, l.length, rfl, Nat.le_refl _, HLEN.out, ?_, Nat.le_refl _, ?_, ⟨_, _, blk_alloc HW2.out _⟩, ?_⟩⟩, ?_⟩
  · have := blk_lt HW2.out; omega
  · have := blk_lt HW2.out; omega
  · have := blk_lt HW2.out; rw [World.size_alloc]; omega
  · exact bytes_at (blk_alloc HW2.out _) (by have := HLEN.out; omega)
  · exact below_alloc (((Chg.of_grown HG.out).then HCH.out (fun i hi => Or.inr (by omega))).below (Nat.le_refl _) (fun k hk => by cases hk)) _
theorem add_off (g o j : Nat) : (⟨g, o, none⟩ : Addr).add j = ⟨g, o + j, none⟩ := by unfold Addr.add; split <;> simp_all
/-- what a reader may change: its own block -/
def rfp (g : Nat) (v : Value) (k : Nat) : Prop := k = g ∨ some k = v.ownBlock
theorem RAt.keep {w w' : World} {base g : Nat} {v : Value} {l : List Int} {e : Int} {F : Nat → Prop} (h : RAt w base g v l e) (hc : Chg F w w') (hF : ∀ k, rfp g v k → ¬ F k) : RAt w' base g v l e := by
  refine ⟨hc.heap h.blk (hF g (Or.inl rfl)), h.ge, ?_⟩
  rcases h.val with ⟨h0, gb, off, c, hv, h1, h2, h3, h4, h5, ⟨cs, t, h6⟩, h7⟩ | h0
  · have hb : w'.heap[gb]? = w.heap[gb]? := hc.block gb h5 (hF gb (Or.inr (by subst hv; rfl)))
    refine Or.inl ⟨h0, gb, off, c, hv, h1, h2, h3, h4, by have := hc.size; omega, ⟨cs, t, hb.trans h6⟩, ?_⟩
    refine ⟨h7.1, h7.2.1, fun hp => ?_⟩
    obtain ⟨a, ha, hk⟩ := h7.2.2 hp
    refine ⟨a, ha, fun j p hj => ?_⟩
    obtain ⟨us, k1, k2, k3⟩ := hk j p hj
    refine ⟨us, k1, k2, fun i u hu => ?_⟩
    rw [← k3 i u hu]
    cases ha
    rw [add_off, blk_cell (hb.trans h6), blk_cell h6]
  · exact Or.inr h0
theorem RAt.lt {w : World} {base g : Nat} {v : Value} {l : List Int} {e : Int} (h : RAt w base g v l e) : ∀ k, rfp g v k → base ≤ k ∧ k < w.heap.size := fun k hk => by
  rcases hk with rfl | hk
  · exact ⟨h.ge, blk_lt h.blk⟩
  · rcases h.val with ⟨_, gb, off, c, hv, _, _, _, h4, h5, _⟩ | ⟨_, _, hv⟩
    · subst hv; cases hk; exact ⟨h4, h5⟩
    · subst hv; cases hk
theorem RAt.slice {w : World} {base g : Nat} {v : Value} {l : List Int} {e : Int} (h : RAt w base g v l e) : ∃ A c, v = .slice A l.length c := by
  rcases h.val with ⟨_, gb, off, c, hv, _⟩ | ⟨_, h0, hv⟩
  · exact ⟨_, c, hv⟩
  · subst h0; exact ⟨_, _, hv⟩
theorem RAt.len {w : World} {base g : Nat} {v : Value} {l : List Int} {e : Int} (h : RAt w base g v l e) : l.length ≤ 140737488355328 := by
  rcases h.val with ⟨_, gb, off, c, hv, h1, h2, _⟩ | ⟨_, h0, hv⟩
  · omega
  · subst h0; simp
set_option maxHeartbeats 8000000 in
set_option maxRecDepth 100000 in
theorem rLeft_calls (base g : Nat) (v : Value) (l : List Int) (e0 : Int) (w : World) (hr : RAt w base g v l e0) :
    Calls Try.prog 27 #[.pointer (some ⟨g, 0, none⟩)] w fun e w' => e = .returned (.int .i64 l.length) ∧ w' = w := by
  obtain ⟨A, c, rfl⟩ := hr.slice
  have hc0 : w.cell? ⟨g, 0, none⟩ = some (.slice A l.length c) := (blk_cell hr.blk 0).trans rfl
  clear hr
  go_enter Try.func27, Try.ntmps27
  go_wp2
  go_ret
  exact ⟨rfl, rfl⟩
theorem rLeft_nil (w : World) :
    Calls Try.prog 27 #[.pointer none] w fun e w' => e = .returned (.int .i64 0) ∧ w' = w := by
  go_enter Try.func27, Try.ntmps27
  go_wp2
  go_ret
  exact ⟨rfl, rfl⟩
/-- what End says -/
def endR (l : List Int) (e : Int) : Int := if e = 0 ∧ 0 < l.length then 20 else e
set_option maxHeartbeats 8000000 in
set_option maxRecDepth 100000 in
theorem rEnd_calls (base g : Nat) (v : Value) (l : List Int) (e0 : Int) (w : World) (hr : RAt w base g v l e0) :
    Calls Try.prog 28 #[.pointer (some ⟨g, 0, none⟩)] w fun e w' => e = .returned (.int .i64 (endR l e0)) ∧ w' = w := by
  obtain ⟨A, c, rfl⟩ := hr.slice
  have hc0 : w.cell? ⟨g, 0, none⟩ = some (.slice A l.length c) := (blk_cell hr.blk 0).trans rfl
  have hc1 : w.cell? ⟨g, 1, none⟩ = some (.int .i64 e0) := (blk_cell hr.blk 1).trans rfl
  have hc2 : w.cell? ⟨g, 2, none⟩ = some (.bool true) := (blk_cell hr.blk 2).trans rfl
  clear hr
  have HE : Aside0 (endR l e0 = if e0 = 0 ∧ 0 < l.length then 20 else e0) := ⟨rfl⟩
  by_cases h0 : e0 = 0
  · subst h0
    by_cases hl : 0 < l.length
    · rw [HE.out, if_pos ⟨rfl, hl⟩]
      have hl1 : decide ((0 : Int) < (l.length : Int)) = true := decide_eq_true (by omega)
      have hl2 : decide (0 < l.length) = true := decide_eq_true (by omega)
      go_enter Try.func28, Try.ntmps28
      go_wp2
      go_ret
      exact ⟨rfl, rfl⟩
    · have hl0 : l.length = 0 := by omega
      rw [HE.out, if_neg (by omega)]
      rw [hl0] at hc0
      go_enter Try.func28, Try.ntmps28
      go_wp2
      go_ret
      exact ⟨rfl, rfl⟩
  · rw [HE.out, if_neg (fun h => h0 h.1)]
    have hb : (e0 == 0) = false := by simpa using h0
    go_enter Try.func28, Try.ntmps28
    go_wp2
    go_ret
    exact ⟨rfl, rfl⟩
/-- a reader behind a call -/
def Took (base g : Nat) (v : Value) (l : List Int) (e : Int) (w w' : World) : Prop := ∃ v', RAt w' base g v' l e ∧ (∀ k, v'.ownBlock = some k → v.ownBlock = some k) ∧ Chg (· = g) w w'
theorem Took.refl {w : World} {base g : Nat} {v : Value} {l : List Int} {e : Int} (h : RAt w base g v l e) : Took base g v l e w w := ⟨v, h, fun _ h => h, Chg.refl _ _⟩
theorem Took.trans {a b c : World} {base g : Nat} {v v' : Value} {l : List Int} {e : Int} (h1 : ∀ k, v'.ownBlock = some k → v.ownBlock = some k) (h2 : Chg (· = g) a b) (h : Took base g v' l e b c) : Took base g v l e a c := by
  obtain ⟨v'', k1, k2, k3⟩ := h
  exact ⟨v'', k1, fun k hk => h1 k (k2 k hk), h2.trans k3⟩
/-- fail -/
def failL (l : List Int) (e : Int) : List Int := if e = 0 then [] else l
def failE (x e : Int) : Int := if e = 0 then x else e
set_option maxHeartbeats 8000000 in
set_option maxRecDepth 100000 in
theorem fail_calls (base g : Nat) (v : Value) (l : List Int) (e0 x : Int) (hx : x ≠ 0) (w : World) (hr : RAt w base g v l e0) :
    Calls Try.prog 51 #[.pointer (some ⟨g, 0, none⟩), .int .i64 x] w fun e w' => e = .returned (.tuple #[]) ∧ Took base g v [] (failE x e0) w w' := by
  have hc1 : w.cell? ⟨g, 1, none⟩ = some (.int .i64 e0) := (blk_cell hr.blk 1).trans rfl
  have hc2 : w.cell? ⟨g, 2, none⟩ = some (.bool true) := (blk_cell hr.blk 2).trans rfl
  have hf0 := blk_frozen hr.blk 0
  have hf1 := blk_frozen hr.blk 1
  have HR := Aside0.mk hr
  have hc0 : w.cell? ⟨g, 0, none⟩ = some v := (blk_cell hr.blk 0).trans rfl
  clear hr
  have HX := Aside0.mk hx
  clear hx
  have HE : Aside0 (failE x e0 = if e0 = 0 then x else e0) := ⟨rfl⟩
  by_cases h0 : e0 = 0
  · subst h0
    rw [HE.out, if_pos rfl]
    go_enter Try.func51, Try.ntmps51
    go_wp2
    go_end0
    refine ⟨rfl, .slice none 0 0, ⟨?_, HR.out.ge, Or.inr ⟨HX.out, rfl, rfl⟩⟩, (fun k hk => by cases hk), ?_⟩
    · exact blk_put (blk_put HR.out.blk 1 _ rfl) 0 _ rfl
    · exact Chg.setCell (F := (· = g)) (Chg.setCell (F := (· = g)) (Chg.refl _ _) (p := ⟨g, 1, none⟩) (Or.inl rfl) _) (p := ⟨g, 0, none⟩) (Or.inl rfl) _
  · rw [HE.out, if_neg h0]
    have hb : (e0 == 0) = false := by simpa using h0
    go_enter Try.func51, Try.ntmps51
    go_wp2
    go_end0
    have hl : l = [] := by
      rcases HR.out.val with ⟨q, _⟩ | ⟨_, q, _⟩
      · exact absurd q h0
      · exact q
    exact ⟨rfl, Took.refl (hl ▸ HR.out)⟩
set_option maxHeartbeats 8000000 in
set_option maxRecDepth 100000 in
theorem next_fault (base g : Nat) (v : Value) (l : List Int) (e0 n : Int) (he : e0 ≠ 0) (w : World) (hr : RAt w base g v l e0) :
    Calls Try.prog 52 #[.pointer (some ⟨g, 0, none⟩), .int .i64 n] w fun e w' => e = .returned (.slice none 0 0) ∧ w' = w := by
  have hc1 : w.cell? ⟨g, 1, none⟩ = some (.int .i64 e0) := (blk_cell hr.blk 1).trans rfl
  have hc2 : w.cell? ⟨g, 2, none⟩ = some (.bool true) := (blk_cell hr.blk 2).trans rfl
  clear hr
  have hb : (e0 == 0) = false := by simpa using he
  go_enter Try.func52, Try.ntmps52
  go_wp2
  go_ret
  exact ⟨rfl, rfl⟩
set_option maxHeartbeats 8000000 in
set_option maxRecDepth 100000 in
theorem next_short (base g : Nat) (v : Value) (l : List Int) (n : Int) (hn : (l.length : Int) < n) (w : World) (hr : RAt w base g v l 0) :
    Calls Try.prog 52 #[.pointer (some ⟨g, 0, none⟩), .int .i64 n] w fun e w' => e = .returned (.slice none 0 0) ∧ Took base g v [] 20 w w' := by
  obtain ⟨A, c, rfl⟩ := hr.slice
  have hc0 : w.cell? ⟨g, 0, none⟩ = some (.slice A l.length c) := (blk_cell hr.blk 0).trans rfl
  have hc1 : w.cell? ⟨g, 1, none⟩ = some (.int .i64 0) := (blk_cell hr.blk 1).trans rfl
  have hc2 : w.cell? ⟨g, 2, none⟩ = some (.bool true) := (blk_cell hr.blk 2).trans rfl
  have HR := Aside0.mk hr
  clear hr
  go_enter Try.func52, Try.ntmps52
  go_wp2_with fail
  refine (fail_calls base g _ l 0 20 (by decide) w HR.out).mono ?_
  rintro e w1 ⟨rfl, h⟩
  have H := Aside0.mk h
  clear h
  go_wp2
  go_ret
  exact ⟨rfl, H.out⟩
theorem C_sub {w : World} {gb off : Nat} {l : List Int} (h : Kd.C (Kd.int .u8) w (some ⟨gb, off, none⟩) l.length l) (k m : Nat) (hm : k + m ≤ l.length) : Kd.C (Kd.int .u8) w (some ⟨gb, off + k, none⟩) m ((l.drop k).take m) := by
  refine ⟨by simp; omega, by have := h.2.1; omega, fun hp => ⟨_, rfl, fun j p hj => ?_⟩⟩
  have hjm : j < m := by have := (List.getElem?_eq_some_iff.1 hj).1; simp at this; omega
  rw [List.getElem?_take, if_pos hjm, List.getElem?_drop] at hj
  obtain ⟨a, ha, hk⟩ := h.2.2 (by omega)
  cases ha
  obtain ⟨us, k1, k2, k3⟩ := hk (k + j) p hj
  refine ⟨us, k1, k2, fun i u hu => ?_⟩
  rw [← k3 i u hu, add_off, add_off]
  congr 2
  show off + k + (j * 1 + i) = off + ((k + j) * 1 + i)
  omega
theorem C_keep {w w' : World} {gb off n : Nat} {l : List Int} (h : Kd.C (Kd.int .u8) w (some ⟨gb, off, none⟩) n l) {cs : Array Value} {t : TypeId} (h6 : w.heap[gb]? = some (.cells cs t (0, 0))) (hb : w'.heap[gb]? = w.heap[gb]?) : Kd.C (Kd.int .u8) w' (some ⟨gb, off, none⟩) n l := by
  refine ⟨h.1, h.2.1, fun hp => ?_⟩
  obtain ⟨a, ha, hk⟩ := h.2.2 hp
  refine ⟨a, ha, fun j p hj => ?_⟩
  obtain ⟨us, k1, k2, k3⟩ := hk j p hj
  refine ⟨us, k1, k2, fun i u hu => ?_⟩
  rw [← k3 i u hu]
  cases ha
  rw [add_off, blk_cell (hb.trans h6), blk_cell h6]
set_option maxHeartbeats 8000000 in
set_option maxRecDepth 100000 in
theorem next_calls (base g : Nat) (v : Value) (l : List Int) (n : Nat) (hn : n ≤ l.length) (w : World) (hr : RAt w base g v l 0) :
    Calls Try.prog 52 #[.pointer (some ⟨g, 0, none⟩), .int .i64 n] w fun e w' => (∃ a c, e = .returned (.slice (some a) n c) ∧ v.ownBlock = some a.block ∧ n ≤ c ∧ Kd.C (Kd.int .u8) w' (some a) n (l.take n)) ∧ Took base g v (l.drop n) 0 w w' := by
  have HR := Aside0.mk hr
  obtain ⟨gb, off, c, rfl, h1, h2, h3, h4, h5, ⟨cs, t, h6⟩, h7⟩ : ∃ gb off c, v = .slice (some ⟨gb, off, none⟩) l.length c ∧ l.length ≤ c ∧ c ≤ 140737488355328 ∧ gb ≠ g ∧ base ≤ gb ∧ gb < w.heap.size ∧ (∃ cs t, w.heap[gb]? = some (.cells cs t (0, 0))) ∧ Kd.C (Kd.int .u8) w (some ⟨gb, off, none⟩) l.length l := by
    rcases hr.val with ⟨_, q⟩ | ⟨q, _⟩
    · exact q
    · exact absurd rfl q
  have hc0 : w.cell? ⟨g, 0, none⟩ = some (.slice (some ⟨gb, off, none⟩) l.length c) := (blk_cell hr.blk 0).trans rfl
  have hc1 : w.cell? ⟨g, 1, none⟩ = some (.int .i64 0) := (blk_cell hr.blk 1).trans rfl
  have hc2 : w.cell? ⟨g, 2, none⟩ = some (.bool true) := (blk_cell hr.blk 2).trans rfl
  have hf0 := blk_frozen hr.blk 0
  have H6 := Aside0.mk h6
  have H7 := Aside0.mk h7
  clear hr h6 h7
  have hne : ∀ u, (w.setCell ⟨g, 0, none⟩ u).heap[gb]? = w.heap[gb]? := fun u => Below.heap_setCell _ _ _ _ h3
  have HNE := Aside0.mk hne
  clear hne
  have hT : ∀ w' : World, w'.heap[gb]? = w.heap[gb]? → Kd.C (Kd.int .u8) w' (some ⟨gb, off, none⟩) n (l.take n) := fun w' hb => by
    have := C_keep (C_sub H7.out 0 n (by omega)) H6.out hb
    simpa using this
  have hD : ∀ w' : World, w'.heap[gb]? = w.heap[gb]? → Kd.C (Kd.int .u8) w' (some ⟨gb, off + n, none⟩) (l.length - n) (l.drop n) := fun w' hb => by
    have := C_keep (C_sub H7.out n (l.length - n) (by omega)) H6.out hb
    rwa [List.take_of_length_le (by simp)] at this
  have HT := Aside0.mk hT
  have HD := Aside0.mk hD
  have HN : Aside0 (n ≤ l.length) := ⟨hn⟩
  have hlt : ¬ l.length < n := by omega
  have HSZ := Aside0.mk h5
  have HB := Aside0.mk h4
  have HC1 := Aside0.mk h1
  have HC2 := Aside0.mk h2
  have HGB := Aside0.mk h3
  have hnc : n ≤ c := by omega
  clear hT hD h5 h4 h1 h3 h2
  by_cases hc : c = n
  · have HCN := Aside0.mk hc
    subst hc
    go_enter Try.func52, Try.ntmps52
    go_wp2
    go_ret
    have hl0 : l.length - c = 0 := by have := HC1.out; omega
    have hd0 : l.drop c = [] := List.drop_eq_nil_of_le (by have := HC1.out; omega)
    rw [hd0]
    refine ⟨⟨_, c, rfl, rfl, Nat.le_refl _, HT.out _ (HNE.out _)⟩, .slice (some ⟨gb, off, none⟩) 0 0, ⟨?_, HR.out.ge, Or.inl ⟨rfl, gb, off, 0, rfl, by simp, by omega, HGB.out, HB.out, ?_, ⟨cs, t, (HNE.out _).trans H6.out⟩, ⟨rfl, by simp, fun hp => by simp at hp⟩⟩⟩, fun k hk => hk, ?_⟩
    · rw [hl0]; exact blk_put HR.out.blk 0 _ rfl
    · simpa [World.setCell] using HSZ.out
    · exact Chg.setCell (F := (· = g)) (Chg.refl _ _) (p := ⟨g, 0, none⟩) (Or.inl rfl) _
  · go_enter Try.func52, Try.ntmps52
    go_wp2
    go_ret
    have hdl : (l.drop n).length = l.length - n := by simp
    refine ⟨⟨_, c, rfl, rfl, hnc, HT.out _ (HNE.out _)⟩, .slice (some ⟨gb, off + n, none⟩) (l.length - n) (c - n), ⟨?_, HR.out.ge, Or.inl ⟨rfl, gb, off + n, c - n, by rw [hdl], by have := HC1.out; rw [hdl]; omega, by have := HC2.out; omega, HGB.out, HB.out, ?_, ⟨cs, t, (HNE.out _).trans H6.out⟩, by rw [hdl]; exact HD.out _ (HNE.out _)⟩⟩, fun k hk => hk, ?_⟩
    · exact blk_put HR.out.blk 0 _ rfl
    · simpa [World.setCell] using HSZ.out
    · exact Chg.setCell (F := (· = g)) (Chg.refl _ _) (p := ⟨g, 0, none⟩) (Or.inl rfl) _
/-! what is read: the answer, what is left, the fault -/
def byteR : List Int → Int → Int × List Int × Int
  | l, e => if e = 0 then (match l with | [] => (0, [], 20) | b :: t => (b, t, 0)) else (0, [], e)
theorem RAt.nil {w : World} {base g : Nat} {v : Value} {l : List Int} {e : Int} (h : RAt w base g v l e) (he : e ≠ 0) : l = [] := by
  rcases h.val with ⟨q, _⟩ | ⟨_, q, _⟩
  · exact absurd q he
  · exact q
theorem C_read {w : World} {a : Addr} {n : Nat} {l : List Int} (h : Kd.C (Kd.int .u8) w (some a) n l) (j : Nat) (hj : j < n) : w.cell? (a.add j) = some (.int .u8 (rd l j)) := by
  obtain ⟨ad, e, h1⟩ := Kd.at_int h (j : Int) (by omega) (by omega)
  cases e
  rwa [Int.toNat_natCast] at h1
theorem add_zero (a : Addr) : a.add 0 = a := rfl
set_option maxHeartbeats 8000000 in
set_option maxRecDepth 100000 in
theorem rByte_calls (base g : Nat) (v : Value) (l : List Int) (e0 : Int) (w : World) (hr : RAt w base g v l e0) :
    Calls Try.prog 32 #[.pointer (some ⟨g, 0, none⟩)] w fun e w' => e = .returned (.int .u8 (byteR l e0).1) ∧ Took base g v (byteR l e0).2.1 (byteR l e0).2.2 w w' := by
  have HR := Aside0.mk hr
  clear hr
  by_cases he : e0 = 0
  · subst he
    cases l with
    | nil =>
      go_enter Try.func32, Try.ntmps32
      go_wp2_with fail
      refine (next_short base g v [] 1 (by decide) w HR.out).mono ?_
      rintro e w1 ⟨rfl, h⟩
      have H := Aside0.mk h
      clear h
      go_wp2
      go_ret
      exact ⟨rfl, H.out⟩
    | cons b t =>
      go_enter Try.func32, Try.ntmps32
      go_wp2_with fail
      refine (next_calls base g v (b :: t) 1 (by simp) w HR.out).mono ?_
      rintro e w1 ⟨⟨a, c, rfl, _, hc, hC⟩, h⟩
      have H := Aside0.mk h
      have h0 : w1.cell? a = some (.int .u8 b) := C_read hC 0 (by omega)
      clear h hC
      go_wp2
      go_ret
      exact ⟨rfl, H.out⟩
  · have hl := HR.out.nil he
    subst hl
    have hb : byteR [] e0 = (0, [], e0) := by simp [byteR, he]
    rw [hb]
    have HE := Aside0.mk he
    clear hb he
    go_enter Try.func32, Try.ntmps32
    go_wp2_with fail
    refine (next_fault base g v [] e0 1 HE.out w HR.out).mono ?_
    rintro e w1 ⟨rfl, rfl⟩
    go_wp2
    go_ret
    exact ⟨rfl, Took.refl HR.out⟩
def nextR (n : Nat) (l : List Int) (e : Int) : List Int × List Int × Int := if e = 0 then (if l.length < n then ([], [], 20) else (l.take n, l.drop n, 0)) else ([], [], e)
theorem next_all (base g : Nat) (v : Value) (l : List Int) (e0 : Int) (n : Nat) (w : World) (hr : RAt w base g v l e0) :
    Calls Try.prog 52 #[.pointer (some ⟨g, 0, none⟩), .int .i64 n] w fun e w' => (∃ A c, e = .returned (.slice A (nextR n l e0).1.length c) ∧ Kd.C (Kd.int .u8) w' A (nextR n l e0).1.length (nextR n l e0).1) ∧ Took base g v (nextR n l e0).2.1 (nextR n l e0).2.2 w w' := by
  by_cases he : e0 = 0
  · subst he
    by_cases hn : l.length < n
    · have e : nextR n l 0 = ([], [], 20) := by simp [nextR, hn]
      rw [e]
      refine (next_short base g v l n (by omega) w hr).mono ?_
      rintro e w1 ⟨rfl, h⟩
      exact ⟨⟨none, 0, rfl, ⟨rfl, by simp, fun hp => by simp at hp⟩⟩, h⟩
    · have e : nextR n l 0 = (l.take n, l.drop n, 0) := by simp [nextR, hn]
      rw [e]
      refine (next_calls base g v l n (by omega) w hr).mono ?_
      rintro e w1 ⟨⟨a, c, rfl, _, hc, hC⟩, h⟩
      have hl : (l.take n).length = n := by rw [List.length_take]; omega
      exact ⟨⟨some a, c, by rw [hl], by rw [hl]; exact hC⟩, h⟩
  · have e : nextR n l e0 = ([], [], e0) := by simp [nextR, he]
    rw [e]
    have hl := hr.nil he
    subst hl
    refine (next_fault base g v [] e0 n he w hr).mono ?_
    rintro e w1 ⟨rfl, rfl⟩
    exact ⟨⟨none, 0, rfl, ⟨rfl, by simp, fun hp => by simp at hp⟩⟩, Took.refl hr⟩
def IsBytes (l : List Int) : Prop := ∀ x ∈ l, 0 ≤ x ∧ x < 256
theorem IsBytes.take {l : List Int} (h : IsBytes l) (n : Nat) : IsBytes (l.take n) := fun x hx => h x (List.mem_of_mem_take hx)
theorem IsBytes.drop {l : List Int} (h : IsBytes l) (n : Nat) : IsBytes (l.drop n) := fun x hx => h x (List.mem_of_mem_drop hx)
theorem IsBytes.nth {l : List Int} (h : IsBytes l) (j : Nat) (hj : j < l.length) : 0 ≤ rd l j ∧ rd l j < 256 := by
  have : rd l j = l[j] := by simp [rd, List.getD, hj]
  rw [this]
  exact h _ (List.getElem_mem hj)
def fixN (l : List Int) : Nat := l.foldl (fun n b => n * 256 + b.toNat) 0
def fixedR (wd : Int) (l : List Int) (e : Int) : Int × List Int × Int :=
  if wd < 1 ∨ 8 < wd then (0, [], failE 1 e) else ((fixN (nextR wd.toNat l e).1 : Int), (nextR wd.toNat l e).2.1, (nextR wd.toNat l e).2.2)
theorem fixN_snoc (l : List Int) (b : Int) : fixN (l ++ [b]) = fixN l * 256 + b.toNat := by simp [fixN, List.foldl_append]
theorem fixN_bound (l : List Int) (h : IsBytes l) : fixN l < 256 ^ l.length := by
  obtain ⟨m, hm⟩ : ∃ m, m = l.length := ⟨_, rfl⟩
  induction m generalizing l with
  | zero => have : l = [] := List.eq_nil_of_length_eq_zero hm.symm; subst this; simp [fixN]
  | succ m ih =>
    have hne : l ≠ [] := fun e => by subst e; simp at hm
    rw [← List.dropLast_concat_getLast hne] at h ⊢
    have h1 := ih l.dropLast (fun x hx => h x (List.mem_append_left _ hx)) (by simp [← hm])
    have h2 := h (l.getLast hne) (by simp)
    rw [fixN_snoc, List.length_append, List.length_singleton, Nat.pow_succ]
    omega
theorem shl_or (m : Nat) (b : Int) (hm : m < 72057594037927936) (hb0 : 0 ≤ b) (hb : b < 256) : bits .or .u64 (IntKind.u64.wrap ((m : Int) * 256)) b = ((m * 256 + b.toNat : Nat) : Int) := by
  obtain ⟨k, rfl⟩ := Int.eq_ofNat_of_zero_le hb0
  rw [wrap_u64_nonneg (by omega) (by omega), show (m : Int) * 256 = ((m * 256 : Nat) : Int) by omega, u64_or_nat _ _ (by omega) (by omega)]
  have h := Nat.two_pow_add_eq_or_of_lt (i := 8) (b := k) (by omega) m
  rw [Nat.mul_comm m 256, Int.toNat_natCast]
  exact_mod_cast h.symm
set_option maxHeartbeats 8000000 in
set_option maxRecDepth 100000 in
theorem rFixed_calls (base g : Nat) (v : Value) (l : List Int) (hby : IsBytes l) (e0 : Int) (wd : Int) (w : World) (hr : RAt w base g v l e0) :
    Calls Try.prog 38 #[.pointer (some ⟨g, 0, none⟩), .int .i64 wd] w fun e w' => e = .returned (.int .u64 (fixedR wd l e0).1) ∧ Took base g v (fixedR wd l e0).2.1 (fixedR wd l e0).2.2 w w' := by
  have HR := Aside0.mk hr
  have HBY := Aside0.mk hby
  clear hr hby
  by_cases hw : wd < 1 ∨ 8 < wd
  · have e : fixedR wd l e0 = (0, [], failE 1 e0) := by simp [fixedR, hw]
    rw [e]
    clear e
    rcases hw with hw | hw
    case' inr => have hw1 : ¬ wd < 1 := by omega
    all_goals
      go_enter Try.func38, Try.ntmps38
      go_wp2_with fail
      refine (fail_calls base g v l e0 1 (by decide) w HR.out).mono ?_
      rintro e w1 ⟨rfl, h⟩
      have H := Aside0.mk h
      clear h
      go_wp2
      go_ret
      exact ⟨rfl, H.out⟩
  · have e : fixedR wd l e0 = ((fixN (nextR wd.toNat l e0).1 : Int), (nextR wd.toNat l e0).2.1, (nextR wd.toNat l e0).2.2) := by simp [fixedR, hw]
    rw [e]
    clear e
    obtain ⟨K, hK⟩ := Int.eq_ofNat_of_zero_le (show 0 ≤ wd by omega)
    subst hK
    rw [Int.toNat_natCast]
    have hw1 : ¬ (K : Int) < 1 := by omega
    have hw2 : ¬ (8 : Int) < (K : Int) := by omega
    have HK : Aside0 (K ≤ 8) := ⟨by omega⟩
    have HB : Aside0 (IsBytes (nextR K l e0).1 ∧ (nextR K l e0).1.length ≤ K) := by
      constructor
      unfold nextR
      split
      · split
        · exact ⟨fun x hx => by simp at hx, by simp⟩
        · exact ⟨HBY.out.take _, by simp; omega⟩
      · exact ⟨fun x hx => by simp at hx, by simp⟩
    clear hw
    have HN := Aside0.mk (next_all base g v l e0 K w HR.out)
    generalize hbs : (nextR K l e0).1 = bs at HN HB ⊢
    generalize (nextR K l e0).2.1 = l1 at HN ⊢
    generalize (nextR K l e0).2.2 = e1 at HN ⊢
    clear hbs
    go_enter Try.func38, Try.ntmps38
    go_wp2_with fail
    refine HN.out.mono ?_
    rintro e w1 ⟨⟨A, c, rfl, hC⟩, h⟩
    have H := Aside0.mk h
    have HC := Aside0.mk hC
    clear h hC
    go_wp2
    go_loopg [5, 7, 20] bs.length (fun kq v5 v7 v20 wr => ∃ (j : Nat), v20 = .int .i64 j ∧ v5 = .int .u64 (fixN (bs.take j)) ∧ Aside0 (j + kq = bs.length ∧ wr = w1))
    case atStart => exact ⟨0, rfl, rfl, ⟨by omega, rfl⟩⟩
    case round =>
      obtain ⟨j, rfl, rfl, HJ⟩ := hrel
      have hww : wr = w1 := HJ.out.2
      subst hww
      cases gk with
      | zero =>
        have hj : j = bs.length := by have := HJ.out.1; omega
        subst hj
        go_wp2
        go_ret
        first | exact ⟨rfl, H.out⟩ | exact ⟨by rw [List.take_length]; rfl, H.out⟩
      | succ k =>
        have hj : (j : Int) < bs.length := by have := HJ.out.1; omega
        obtain ⟨a, hA⟩ : ∃ a, A = some a := by
          obtain ⟨a, ha, _⟩ := HC.out.2.2 (by omega)
          exact ⟨a, ha⟩
        subst hA
        have h0 : wr.cell? (a.add j) = some (.int .u8 (rd bs j)) := C_read HC.out j (by omega)
        have HS := Aside0.mk (shl_or (fixN (bs.take j)) (rd bs j) (by
          have := fixN_bound (bs.take j) (HB.out.1.take j)
          have h2 : (bs.take j).length ≤ 7 := by rw [List.length_take]; have := HB.out.2; have := HK.out; omega
          have h3 : 256 ^ (bs.take j).length ≤ 256 ^ 7 := Nat.pow_le_pow_right (by omega) h2
          omega) (HB.out.1.nth j (by omega)).1 (HB.out.1.nth j (by omega)).2)
        have hj8 : (j : Int) ≤ 8 := by have := HB.out.2; have := HK.out; omega
        go_wp2
        go_roundg k
        case measure => omega
        case rel => exact ⟨j + 1, by first | rfl | simp, by rw [List.take_succ_eq_append_getElem (show j < bs.length by omega), fixN_snoc, wrap_u64_nonneg (n := rd bs j) (HB.out.1.nth j (by omega)).1 (by have := (HB.out.1.nth j (by omega)).2; omega), HS.out]; simp [rd, List.getD, show j < bs.length by omega], ⟨by have := HJ.out.1; omega, rfl⟩⟩
/-- the number of a form: the number, the error, what is left, the reader's fault -/
def numR : Nat → Nat → List Int → Nat × Int × List Int × Int
  | _, _, [] => (0, 20, [], 20)
  | i, n, b :: t => if (i = 9 ∧ 1 < b) ∨ (0 < i ∧ b = 0) then (0, 21, t, 0) else if b < 128 then (n + b.toNat % 128 * 128 ^ i, 0, t, 0) else numR (i + 1) (n + b.toNat % 128 * 128 ^ i) t
theorem and_all : ∀ x : Fin 256, bits .and .u8 (x.val : Int) 127 = ((x.val % 128 : Nat) : Int) := by decide +kernel
theorem and_127 (b : Int) (h0 : 0 ≤ b) (h1 : b < 256) : bits .and .u8 b 127 = ((b.toNat % 128 : Nat) : Int) := by
  have h := and_all ⟨b.toNat, by omega⟩
  simp only [Int.toNat_of_nonneg h0] at h
  exact h
theorem eql_nil (a : Option Addr) (l c : Nat) (w : World) : (binOp .eql 22 (.slice a l c) (.slice none 0 0)).run Try.prog w = .ok (.bool a.isNone) w := by
  simp only [binOp]
  simp [run_equal_slice_nil w 22 5 a l c Try.underlying22]
theorem step_bits (n i : Nat) (b : Int) (hn : n < 128 ^ i) (hi : i ≤ 9) (h9 : i = 9 → b ≤ 1) (h0 : 0 ≤ b) (h1 : b < 256) :
    bits .or .u64 (n : Int) (IntKind.u64.wrap (IntKind.u64.wrap (bits .and .u8 b 127) * 2 ^ (7 * i))) = ((n + b.toNat % 128 * 128 ^ i : Nat) : Int) := by
  rw [and_127 b h0 h1]
  obtain ⟨k, rfl⟩ := Int.eq_ofNat_of_zero_le h0
  rw [Int.toNat_natCast]
  have e : (128 : Nat) ^ i = 2 ^ (7 * i) := by rw [Nat.pow_mul]
  have hk : k % 128 * 128 ^ i < 18446744073709551616 := by
    by_cases q : i = 9
    · subst q
      have := h9 rfl
      have : k % 128 ≤ 1 := by omega
      have h : k % 128 * 128 ^ 9 ≤ 1 * 128 ^ 9 := Nat.mul_le_mul_right _ this
      omega
    · have h2 : (128 : Nat) ^ i ≤ 128 ^ 8 := Nat.pow_le_pow_right (by omega) (by omega)
      have h3 : k % 128 * 128 ^ i ≤ 127 * 128 ^ 8 := Nat.mul_le_mul (by omega) h2
      omega
  rw [wrap_u64_nonneg (n := ((k % 128 : Nat) : Int)) (by omega) (by omega)]
  have e2 : ((k % 128 : Nat) : Int) * 2 ^ (7 * i) = ((k % 128 * 128 ^ i : Nat) : Int) := by rw [e]; push_cast; rfl
  rw [e2, wrap_u64_nonneg (by omega) (by omega)]
  have hn2 : n < 18446744073709551616 := by
    have h2 : (128 : Nat) ^ i ≤ 128 ^ 9 := Nat.pow_le_pow_right (by omega) hi
    omega
  rw [u64_or_nat _ _ hn2 hk]
  have h := Nat.two_pow_add_eq_or_of_lt (i := 7 * i) (b := n) (by rw [← e]; exact hn) (k % 128)
  rw [← e, Nat.mul_comm (128 ^ i)] at h
  rw [show n ||| k % 128 * 128 ^ i = k % 128 * 128 ^ i ||| n from Nat.or_comm _ _, ← h, Nat.add_comm]
theorem step_lt (n i : Nat) (b : Int) (hn : n < 128 ^ i) : n + b.toNat % 128 * 128 ^ i < 128 ^ (i + 1) := by
  have h : b.toNat % 128 * 128 ^ i ≤ 127 * 128 ^ i := Nat.mul_le_mul_right _ (by omega)
  rw [Nat.pow_succ]
  omega
theorem cf_next (p : Value) (w : World) : (callFunc 52 #[p]).run Try.prog w = .ok (.enter 52 #[p]) w := by kernel_rfl
set_option maxHeartbeats 8000000 in
set_option maxRecDepth 100000 in
theorem number_calls (base g : Nat) (v : Value) (l : List Int) (hby : IsBytes l) (w : World) (hr : RAt w base g v l 0) :
    Calls Try.prog 53 #[.func (.func 52) #[.pointer (some ⟨g, 0, none⟩)] #[]] w fun e w' => e = .returned (.tuple #[.int .u64 (numR 0 0 l).1, .int .i64 (numR 0 0 l).2.1]) ∧ Took base g v (numR 0 0 l).2.2.1 (numR 0 0 l).2.2.2 w w' := by
  have HR := Aside0.mk hr
  have HBY := Aside0.mk hby
  clear hr hby
  have hcf := cf_next (.pointer (some ⟨g, 0, none⟩))
  have q22 := eql_nil
  generalize hres : numR 0 0 l = res
  have HRES := Aside0.mk hres
  clear hres
  go_enter Try.func53, Try.ntmps53
  go_wp2
  go_loopg [4, 5, 6, 7] l.length (fun kq v4 v5 v6 v7 wr => ∃ (i n : Nat) (l1 : List Int) (u : Value), v4 = .int .u64 n ∧ v5 = .int .i64 i ∧ Aside0 (kq = l1.length ∧ i ≤ 9 ∧ n < 128 ^ i) ∧ Aside0 (IsBytes l1) ∧ Aside0 (numR i n l1 = res) ∧ Aside0 (RAt wr base g u l1 0) ∧ Aside0 (∀ k, u.ownBlock = some k → v.ownBlock = some k) ∧ Aside0 (Chg (· = g) w wr))
  case atStart => exact ⟨0, 0, l, v, rfl, rfl, ⟨rfl, by omega, by omega⟩, HBY, HRES, HR, ⟨fun _ h => h⟩, ⟨Chg.refl _ _⟩⟩
  case round =>
    obtain ⟨i, n, l1, u, rfl, rfl, HI, HB1, HE, HU, HO, HC⟩ := hrel
    have hk := HI.out.1
    subst hk
    cases l1 with
    | nil =>
      have HE2 : Aside0 (res = (0, 20, [], 20)) := ⟨by rw [← HE.out]; rfl⟩
      go_wp2_with fail
      refine (next_short base g u [] 1 (by decide) wr HU.out).mono ?_
      rintro e w1 ⟨rfl, h⟩
      have H := Aside0.mk h
      clear h
      go_wp2
      go_ret2
      rw [HE2.out]
      exact ⟨rfl, Took.trans HO.out HC.out H.out⟩
    | cons b t =>
      have hb := HB1.out b (by simp)
      have HBT := Aside0.mk (show IsBytes t from fun x hx => HB1.out x (by simp [hx]))
      have hcases : (i = 9 ∧ 1 < b) ∨ (i = 9 ∧ b = 0) ∨ (i = 9 ∧ b = 1) ∨ (i = 0 ∧ b < 128) ∨ (i = 0 ∧ 128 ≤ b) ∨ (i ≠ 9 ∧ 0 < i ∧ b = 0) ∨ (i ≠ 9 ∧ 0 < i ∧ b ≠ 0 ∧ b < 128) ∨ (i ≠ 9 ∧ 0 < i ∧ 128 ≤ b) := by omega
      rcases hcases with ⟨rfl, h1⟩ | ⟨rfl, rfl⟩ | ⟨rfl, rfl⟩ | ⟨rfl, h1⟩ | ⟨rfl, h1⟩ | ⟨h9, h0, rfl⟩ | ⟨h9, h0, hb0, h1⟩ | ⟨h9, h0, h1⟩
      · have HE2 : Aside0 (res = (0, 21, t, 0)) := ⟨by rw [← HE.out]; simp [numR, h1]⟩
        go_wp2_with fail
        refine (next_calls base g u (b :: t) 1 (by simp) wr HU.out).mono ?_
        rintro e w1 ⟨⟨a, c, rfl, _, hc, hC⟩, h⟩
        have H := Aside0.mk h
        have h0 : w1.cell? a = some (.int .u8 b) := C_read hC 0 (by omega)
        clear h hC
        go_wp2
        go_ret2
        rw [HE2.out]
        exact ⟨rfl, Took.trans HO.out HC.out H.out⟩
      · have HE2 : Aside0 (res = (0, 21, t, 0)) := ⟨by rw [← HE.out]; simp [numR]⟩
        go_wp2_with fail
        refine (next_calls base g u (0 :: t) 1 (by simp) wr HU.out).mono ?_
        rintro e w1 ⟨⟨a, c, rfl, _, hc, hC⟩, h⟩
        have H := Aside0.mk h
        have h0 : w1.cell? a = some (.int .u8 0) := C_read hC 0 (by omega)
        clear h hC
        go_wp2
        go_ret2
        rw [HE2.out]
        exact ⟨rfl, Took.trans HO.out HC.out H.out⟩
      · skip
        have HE2 : Aside0 (res = (n + (1 : Int).toNat % 128 * 128 ^ 9, 0, t, 0)) := ⟨by rw [← HE.out]; simp [numR]⟩
        have HS := Aside0.mk (by have := step_bits n 9 1 (HI.out.2.2) (by omega) (by omega) (by omega) (by omega); rw [show (2 : Int) ^ (7 * 9) = 9223372036854775808 by decide +kernel] at this; exact this)
        go_wp2_with fail
        refine (next_calls base g u (1 :: t) 1 (by simp) wr HU.out).mono ?_
        rintro e w1 ⟨⟨a, c, rfl, _, hc, hC⟩, h⟩
        have H := Aside0.mk h
        have hcell : w1.cell? a = some (.int .u8 1) := C_read hC 0 (by omega)
        clear h hC
        go_wp2
        go_ret2
        rw [HE2.out]
        refine ⟨?_, Took.trans HO.out HC.out H.out⟩
        show Ending.returned (.tuple #[.int .u64 _, .int .i64 0]) = Ending.returned (.tuple #[.int .u64 _, .int .i64 0])
        rw [HS.out]
      · skip
        have HE2 : Aside0 (res = (n + b.toNat % 128 * 128 ^ 0, 0, t, 0)) := ⟨by rw [← HE.out]; simp [numR, h1]⟩
        have HS := Aside0.mk (by have := step_bits n 0 b (HI.out.2.2) (by omega) (by omega) (by omega) (by omega); rw [show (2 : Int) ^ (7 * 0) = 1 by decide +kernel, Int.mul_one] at this; exact this)
        go_wp2_with fail
        refine (next_calls base g u (b :: t) 1 (by simp) wr HU.out).mono ?_
        rintro e w1 ⟨⟨a, c, rfl, _, hc, hC⟩, h⟩
        have H := Aside0.mk h
        have hcell : w1.cell? a = some (.int .u8 b) := C_read hC 0 (by omega)
        clear h hC
        go_wp2
        go_ret2
        rw [HE2.out]
        refine ⟨?_, Took.trans HO.out HC.out H.out⟩
        show Ending.returned (.tuple #[.int .u64 _, .int .i64 0]) = Ending.returned (.tuple #[.int .u64 _, .int .i64 0])
        rw [HS.out]
      · have h128 : ¬ b < 128 := by omega
        have HS := Aside0.mk (by have := step_bits n 0 b (HI.out.2.2) (by omega) (by omega) (by omega) (by omega); rw [show (2 : Int) ^ (7 * 0) = 1 by decide +kernel, Int.mul_one] at this; exact this)
        have HE2 := Aside0.mk (show numR 1 (n + b.toNat % 128 * 128 ^ 0) t = res by rw [← HE.out]; simp [numR, h128])
        go_wp2_with fail
        refine (next_calls base g u (b :: t) 1 (by simp) wr HU.out).mono ?_
        rintro e w1 ⟨⟨a, c, rfl, _, hc, hC⟩, h⟩
        have H := Aside0.mk h
        have hcell : w1.cell? a = some (.int .u8 b) := C_read hC 0 (by omega)
        clear h hC
        go_wp2
        obtain ⟨u1, h1, h2, h3⟩ := H.out
        have HU1 := Aside0.mk h1
        have HO1 : Aside0 (∀ k, u1.ownBlock = some k → v.ownBlock = some k) := ⟨fun k hk => HO.out k (h2 k hk)⟩
        have HC1 := Aside0.mk (HC.out.trans h3)
        clear h1 h2 h3 H
        go_roundg t.length
        case measure => simp
        case rel => exact ⟨1, n + b.toNat % 128 * 128 ^ 0, t, u1, by rw [HS.out], rfl, ⟨rfl, by omega, step_lt n 0 b HI.out.2.2⟩, HBT, HE2, HU1, HO1, HC1⟩
      · have hi9 : ((i : Int) == 9) = false := by simp; omega
        have hi0 : decide ((0 : Int) < i) = true := by simp; omega
        have hi8 : (i : Int) ≤ 8 := by have := HI.out.2.1; omega
        have HE2 : Aside0 (res = (0, 21, t, 0)) := ⟨by rw [← HE.out]; simp [numR, h0]⟩
        go_wp2_with fail
        refine (next_calls base g u (0 :: t) 1 (by simp) wr HU.out).mono ?_
        rintro e w1 ⟨⟨a, c, rfl, _, hc, hC⟩, h⟩
        have H := Aside0.mk h
        have hcell : w1.cell? a = some (.int .u8 0) := C_read hC 0 (by omega)
        clear h hC
        go_wp2
        go_ret2
        rw [HE2.out]
        exact ⟨rfl, Took.trans HO.out HC.out H.out⟩
      · have hi9 : ((i : Int) == 9) = false := by simp; omega
        have hi0 : decide ((0 : Int) < i) = true := by simp; omega
        have hi8 : (i : Int) ≤ 8 := by have := HI.out.2.1; omega
        have hbb : (b == 0) = false := by simpa using hb0
        have HE2 : Aside0 (res = (n + b.toNat % 128 * 128 ^ i, 0, t, 0)) := ⟨by rw [← HE.out]; simp [numR, h1, h9, hb0]⟩
        have HS := Aside0.mk (step_bits n i b HI.out.2.2 (by omega) (by omega) (by omega) (by omega))
        go_wp2_with fail
        refine (next_calls base g u (b :: t) 1 (by simp) wr HU.out).mono ?_
        rintro e w1 ⟨⟨a, c, rfl, _, hc, hC⟩, h⟩
        have H := Aside0.mk h
        have hcell : w1.cell? a = some (.int .u8 b) := C_read hC 0 (by omega)
        clear h hC
        go_wp2
        go_ret2
        rw [HE2.out]
        refine ⟨?_, Took.trans HO.out HC.out H.out⟩
        show Ending.returned (.tuple #[.int .u64 _, .int .i64 0]) = Ending.returned (.tuple #[.int .u64 _, .int .i64 0])
        rw [HS.out]
      · have hi9 : ((i : Int) == 9) = false := by simp; omega
        have hi0 : decide ((0 : Int) < i) = true := by simp; omega
        have hi8 : (i : Int) ≤ 8 := by have := HI.out.2.1; omega
        have hb0 : b ≠ 0 := by omega
        have hbb : (b == 0) = false := by simpa using hb0
        have h128 : ¬ b < 128 := by omega
        have HS := Aside0.mk (step_bits n i b HI.out.2.2 (by omega) (by omega) (by omega) (by omega))
        have HE2 := Aside0.mk (show numR (i + 1) (n + b.toNat % 128 * 128 ^ i) t = res by rw [← HE.out]; simp [numR, h128, h9, hb0])
        go_wp2_with fail
        refine (next_calls base g u (b :: t) 1 (by simp) wr HU.out).mono ?_
        rintro e w1 ⟨⟨a, c, rfl, _, hc, hC⟩, h⟩
        have H := Aside0.mk h
        have hcell : w1.cell? a = some (.int .u8 b) := C_read hC 0 (by omega)
        clear h hC
        go_wp2
        obtain ⟨u1, h1, h2, h3⟩ := H.out
        have HU1 := Aside0.mk h1
        have HO1 : Aside0 (∀ k, u1.ownBlock = some k → v.ownBlock = some k) := ⟨fun k hk => HO.out k (h2 k hk)⟩
        have HC1 := Aside0.mk (HC.out.trans h3)
        clear h1 h2 h3 H
        go_roundg t.length
        case measure => simp
        case rel => exact ⟨i + 1, n + b.toNat % 128 * 128 ^ i, t, u1, by rw [HS.out], by first | rfl | simp, ⟨rfl, by omega, step_lt n i b HI.out.2.2⟩, HBT, HE2, HU1, HO1, HC1⟩
end Go.Proofs.Ytjijmikpoenbcaa.Codec
