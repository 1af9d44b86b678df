/- What 'took' answers: a reader's answer as a Thing. Only the seat of cabstandlaw02. Written in this session. -/
import Derived.Test.YtjijmikpoenbcaaCodecX
namespace Go.Proofs.Ytjijmikpoenbcaa.Codec
open Go.RowKit Go.Proofs.YtjijmikpoenbcaaW.PrintWords Go.Proofs.YtjijmikpoenbcaaW.PrintLast Go.Proofs.YtjijmikpoenbcaaW.PrintMore
set_option linter.unusedVariables false
/-- a thing's cells; b: its id's bytes; v: its text's slice -/
def thing (who kind n i wd : Int) (b0 b1 b2 b3 b4 b5 b6 b7 : Int) (x y : Int) (v : Value) : Array Value :=
  #[.int .i64 who, .int .i64 kind, .int .u64 n, .int .i64 i, .int .i64 wd, .int .u8 b0, .int .u8 b1, .int .u8 b2, .int .u8 b3, .int .u8 b4, .int .u8 b5, .int .u8 b6, .int .u8 b7, .int .i16 x, .int .i16 y, v]
/-- a number brought into 0 to 6 -/
def kindOf (k : Int) : Int := if Int.tmod k 7 < 0 then Int.tmod k 7 + 7 else Int.tmod k 7
theorem kindOf_range (k : Int) : 0 ≤ kindOf k ∧ kindOf k < 7 := by
  unfold kindOf
  have h1 := Int.tmod_lt_of_pos k (show (0 : Int) < 7 by decide)
  have h2 := Int.lt_tmod_of_pos k (show (0 : Int) < 7 by decide)
  split <;> omega
set_option maxHeartbeats 8000000 in
set_option maxRecDepth 100000 in
theorem round7_calls (k : Int) (w : World) : Calls Try.prog 18 #[.int .i64 k, .int .i64 7] w fun e w' => e = .returned (.int .i64 (kindOf k)) ∧ w' = w := by
  have h1 := Int.tmod_lt_of_pos k (show (0 : Int) < 7 by decide)
  have h2 := Int.lt_tmod_of_pos k (show (0 : Int) < 7 by decide)
  have HK : Aside0 (kindOf k = if Int.tmod k 7 < 0 then Int.tmod k 7 + 7 else Int.tmod k 7) := ⟨rfl⟩
  by_cases h : Int.tmod k 7 < 0
  · rw [HK.out, if_pos h]
    go_enter Try.func18, Try.ntmps18
    go_wp2
    go_ret
    exact ⟨rfl, rfl⟩
  · rw [HK.out, if_neg h]
    go_enter Try.func18, Try.ntmps18
    go_wp2
    go_ret
    exact ⟨rfl, rfl⟩
theorem set16 {w : World} {g : Nat} {t : TypeId} {y0 y1 y2 y3 y4 y5 y6 y7 y8 y9 y10 y11 y12 y13 y14 y15 : Value} (h : w.heap[g]? = some (.cells #[y0, y1, y2, y3, y4, y5, y6, y7, y8, y9, y10, y11, y12, y13, y14, y15] t (0, 0))) (x0 x1 x2 x3 x4 x5 x6 x7 x8 x9 x10 x11 x12 x13 x14 x15 : Value) :
    ((((((((((((((((w.setCell ⟨g, 0, none⟩ x0).setCell ⟨g, 1, none⟩ x1).setCell ⟨g, 2, none⟩ x2).setCell ⟨g, 3, none⟩ x3).setCell ⟨g, 4, none⟩ x4).setCell ⟨g, 5, none⟩ x5).setCell ⟨g, 6, none⟩ x6).setCell ⟨g, 7, none⟩ x7).setCell ⟨g, 8, none⟩ x8).setCell ⟨g, 9, none⟩ x9).setCell ⟨g, 10, none⟩ x10).setCell ⟨g, 11, none⟩ x11).setCell ⟨g, 12, none⟩ x12).setCell ⟨g, 13, none⟩ x13).setCell ⟨g, 14, none⟩ x14).setCell ⟨g, 15, none⟩ x15).heap[g]? = some (.cells #[x0, x1, x2, x3, x4, x5, x6, x7, x8, x9, x10, x11, x12, x13, x14, x15] t (0, 0)) ∧ Chg (· = g) w ((((((((((((((((w.setCell ⟨g, 0, none⟩ x0).setCell ⟨g, 1, none⟩ x1).setCell ⟨g, 2, none⟩ x2).setCell ⟨g, 3, none⟩ x3).setCell ⟨g, 4, none⟩ x4).setCell ⟨g, 5, none⟩ x5).setCell ⟨g, 6, none⟩ x6).setCell ⟨g, 7, none⟩ x7).setCell ⟨g, 8, none⟩ x8).setCell ⟨g, 9, none⟩ x9).setCell ⟨g, 10, none⟩ x10).setCell ⟨g, 11, none⟩ x11).setCell ⟨g, 12, none⟩ x12).setCell ⟨g, 13, none⟩ x13).setCell ⟨g, 14, none⟩ x14).setCell ⟨g, 15, none⟩ x15) := by
  have c0 : Chg (· = g) w w := Chg.refl _ _
  have h1 : (w.setCell ⟨g, 0, none⟩ x0).heap[g]? = some (.cells #[x0, y1, y2, y3, y4, y5, y6, y7, y8, y9, y10, y11, y12, y13, y14, y15] t (0, 0)) := blk_put h 0 x0 rfl
  have c1 : Chg (· = g) w (w.setCell ⟨g, 0, none⟩ x0) := Chg.setCell (F := (· = g)) c0 (p := ⟨g, 0, none⟩) (Or.inl rfl) x0
  generalize (w.setCell ⟨g, 0, none⟩ x0) = w1 at h1 c1 ⊢
  clear h c0
  have h2 : (w1.setCell ⟨g, 1, none⟩ x1).heap[g]? = some (.cells #[x0, x1, y2, y3, y4, y5, y6, y7, y8, y9, y10, y11, y12, y13, y14, y15] t (0, 0)) := blk_put h1 1 x1 rfl
  have c2 : Chg (· = g) w (w1.setCell ⟨g, 1, none⟩ x1) := Chg.setCell (F := (· = g)) c1 (p := ⟨g, 1, none⟩) (Or.inl rfl) x1
  generalize (w1.setCell ⟨g, 1, none⟩ x1) = w2 at h2 c2 ⊢
  clear h1 c1
  have h3 : (w2.setCell ⟨g, 2, none⟩ x2).heap[g]? = some (.cells #[x0, x1, x2, y3, y4, y5, y6, y7, y8, y9, y10, y11, y12, y13, y14, y15] t (0, 0)) := blk_put h2 2 x2 rfl
  have c3 : Chg (· = g) w (w2.setCell ⟨g, 2, none⟩ x2) := Chg.setCell (F := (· = g)) c2 (p := ⟨g, 2, none⟩) (Or.inl rfl) x2
  generalize (w2.setCell ⟨g, 2, none⟩ x2) = w3 at h3 c3 ⊢
  clear h2 c2
  have h4 : (w3.setCell ⟨g, 3, none⟩ x3).heap[g]? = some (.cells #[x0, x1, x2, x3, y4, y5, y6, y7, y8, y9, y10, y11, y12, y13, y14, y15] t (0, 0)) := blk_put h3 3 x3 rfl
  have c4 : Chg (· = g) w (w3.setCell ⟨g, 3, none⟩ x3) := Chg.setCell (F := (· = g)) c3 (p := ⟨g, 3, none⟩) (Or.inl rfl) x3
  generalize (w3.setCell ⟨g, 3, none⟩ x3) = w4 at h4 c4 ⊢
  clear h3 c3
  have h5 : (w4.setCell ⟨g, 4, none⟩ x4).heap[g]? = some (.cells #[x0, x1, x2, x3, x4, y5, y6, y7, y8, y9, y10, y11, y12, y13, y14, y15] t (0, 0)) := blk_put h4 4 x4 rfl
  have c5 : Chg (· = g) w (w4.setCell ⟨g, 4, none⟩ x4) := Chg.setCell (F := (· = g)) c4 (p := ⟨g, 4, none⟩) (Or.inl rfl) x4
  generalize (w4.setCell ⟨g, 4, none⟩ x4) = w5 at h5 c5 ⊢
  clear h4 c4
  have h6 : (w5.setCell ⟨g, 5, none⟩ x5).heap[g]? = some (.cells #[x0, x1, x2, x3, x4, x5, y6, y7, y8, y9, y10, y11, y12, y13, y14, y15] t (0, 0)) := blk_put h5 5 x5 rfl
  have c6 : Chg (· = g) w (w5.setCell ⟨g, 5, none⟩ x5) := Chg.setCell (F := (· = g)) c5 (p := ⟨g, 5, none⟩) (Or.inl rfl) x5
  generalize (w5.setCell ⟨g, 5, none⟩ x5) = w6 at h6 c6 ⊢
  clear h5 c5
  have h7 : (w6.setCell ⟨g, 6, none⟩ x6).heap[g]? = some (.cells #[x0, x1, x2, x3, x4, x5, x6, y7, y8, y9, y10, y11, y12, y13, y14, y15] t (0, 0)) := blk_put h6 6 x6 rfl
  have c7 : Chg (· = g) w (w6.setCell ⟨g, 6, none⟩ x6) := Chg.setCell (F := (· = g)) c6 (p := ⟨g, 6, none⟩) (Or.inl rfl) x6
  generalize (w6.setCell ⟨g, 6, none⟩ x6) = w7 at h7 c7 ⊢
  clear h6 c6
  have h8 : (w7.setCell ⟨g, 7, none⟩ x7).heap[g]? = some (.cells #[x0, x1, x2, x3, x4, x5, x6, x7, y8, y9, y10, y11, y12, y13, y14, y15] t (0, 0)) := blk_put h7 7 x7 rfl
  have c8 : Chg (· = g) w (w7.setCell ⟨g, 7, none⟩ x7) := Chg.setCell (F := (· = g)) c7 (p := ⟨g, 7, none⟩) (Or.inl rfl) x7
  generalize (w7.setCell ⟨g, 7, none⟩ x7) = w8 at h8 c8 ⊢
  clear h7 c7
  have h9 : (w8.setCell ⟨g, 8, none⟩ x8).heap[g]? = some (.cells #[x0, x1, x2, x3, x4, x5, x6, x7, x8, y9, y10, y11, y12, y13, y14, y15] t (0, 0)) := blk_put h8 8 x8 rfl
  have c9 : Chg (· = g) w (w8.setCell ⟨g, 8, none⟩ x8) := Chg.setCell (F := (· = g)) c8 (p := ⟨g, 8, none⟩) (Or.inl rfl) x8
  generalize (w8.setCell ⟨g, 8, none⟩ x8) = w9 at h9 c9 ⊢
  clear h8 c8
  have h10 : (w9.setCell ⟨g, 9, none⟩ x9).heap[g]? = some (.cells #[x0, x1, x2, x3, x4, x5, x6, x7, x8, x9, y10, y11, y12, y13, y14, y15] t (0, 0)) := blk_put h9 9 x9 rfl
  have c10 : Chg (· = g) w (w9.setCell ⟨g, 9, none⟩ x9) := Chg.setCell (F := (· = g)) c9 (p := ⟨g, 9, none⟩) (Or.inl rfl) x9
  generalize (w9.setCell ⟨g, 9, none⟩ x9) = w10 at h10 c10 ⊢
  clear h9 c9
  have h11 : (w10.setCell ⟨g, 10, none⟩ x10).heap[g]? = some (.cells #[x0, x1, x2, x3, x4, x5, x6, x7, x8, x9, x10, y11, y12, y13, y14, y15] t (0, 0)) := blk_put h10 10 x10 rfl
  have c11 : Chg (· = g) w (w10.setCell ⟨g, 10, none⟩ x10) := Chg.setCell (F := (· = g)) c10 (p := ⟨g, 10, none⟩) (Or.inl rfl) x10
  generalize (w10.setCell ⟨g, 10, none⟩ x10) = w11 at h11 c11 ⊢
  clear h10 c10
  have h12 : (w11.setCell ⟨g, 11, none⟩ x11).heap[g]? = some (.cells #[x0, x1, x2, x3, x4, x5, x6, x7, x8, x9, x10, x11, y12, y13, y14, y15] t (0, 0)) := blk_put h11 11 x11 rfl
  have c12 : Chg (· = g) w (w11.setCell ⟨g, 11, none⟩ x11) := Chg.setCell (F := (· = g)) c11 (p := ⟨g, 11, none⟩) (Or.inl rfl) x11
  generalize (w11.setCell ⟨g, 11, none⟩ x11) = w12 at h12 c12 ⊢
  clear h11 c11
  have h13 : (w12.setCell ⟨g, 12, none⟩ x12).heap[g]? = some (.cells #[x0, x1, x2, x3, x4, x5, x6, x7, x8, x9, x10, x11, x12, y13, y14, y15] t (0, 0)) := blk_put h12 12 x12 rfl
  have c13 : Chg (· = g) w (w12.setCell ⟨g, 12, none⟩ x12) := Chg.setCell (F := (· = g)) c12 (p := ⟨g, 12, none⟩) (Or.inl rfl) x12
  generalize (w12.setCell ⟨g, 12, none⟩ x12) = w13 at h13 c13 ⊢
  clear h12 c12
  have h14 : (w13.setCell ⟨g, 13, none⟩ x13).heap[g]? = some (.cells #[x0, x1, x2, x3, x4, x5, x6, x7, x8, x9, x10, x11, x12, x13, y14, y15] t (0, 0)) := blk_put h13 13 x13 rfl
  have c14 : Chg (· = g) w (w13.setCell ⟨g, 13, none⟩ x13) := Chg.setCell (F := (· = g)) c13 (p := ⟨g, 13, none⟩) (Or.inl rfl) x13
  generalize (w13.setCell ⟨g, 13, none⟩ x13) = w14 at h14 c14 ⊢
  clear h13 c13
  have h15 : (w14.setCell ⟨g, 14, none⟩ x14).heap[g]? = some (.cells #[x0, x1, x2, x3, x4, x5, x6, x7, x8, x9, x10, x11, x12, x13, x14, y15] t (0, 0)) := blk_put h14 14 x14 rfl
  have c15 : Chg (· = g) w (w14.setCell ⟨g, 14, none⟩ x14) := Chg.setCell (F := (· = g)) c14 (p := ⟨g, 14, none⟩) (Or.inl rfl) x14
  generalize (w14.setCell ⟨g, 14, none⟩ x14) = w15 at h15 c15 ⊢
  clear h14 c14
  have h16 : (w15.setCell ⟨g, 15, none⟩ x15).heap[g]? = some (.cells #[x0, x1, x2, x3, x4, x5, x6, x7, x8, x9, x10, x11, x12, x13, x14, x15] t (0, 0)) := blk_put h15 15 x15 rfl
  have c16 : Chg (· = g) w (w15.setCell ⟨g, 15, none⟩ x15) := Chg.setCell (F := (· = g)) c15 (p := ⟨g, 15, none⟩) (Or.inl rfl) x15
  generalize (w15.setCell ⟨g, 15, none⟩ x15) = w16 at h16 c16 ⊢
  clear h15 c15
  exact ⟨h16, c16⟩
theorem byteR_range (l : List Int) (e : Int) (h : IsBytes l) : 0 ≤ (byteR l e).1 ∧ (byteR l e).1 < 256 := by
  by_cases he : e = 0
  · subst he
    cases l with
    | nil => exact ⟨by decide, by decide⟩
    | cons b t => exact h b (by simp)
  · have e1 : byteR l e = (0, [], e) := by simp [byteR, he]
    rw [e1]
    show (0 : Int) ≤ 0 ∧ (0 : Int) < 256
    decide
/-- three new blocks, of which two are written -/
theorem Took.three {base g : Nat} {v : Value} {l l0 : List Int} {e e0 : Int} {w wa w1 w2 : World} (hr : RAt w base g v l0 e0) (ha : Chg (fun _ => False) w wa) (h : Took base g v l e wa w1) (h2 : Chg (fun k => w.heap.size ≤ k) w1 w2) : Took base g v l e w w2 := by
  obtain ⟨v', k1, k2, k3⟩ := h
  refine ⟨v', k1.keep h2 (fun k hk q => ?_), k2, ?_⟩
  · have q' : w.heap.size ≤ k := q
    rcases hk with hk | hk
    · have := blk_lt hr.blk; omega
    · have := (hr.lt k (Or.inr (k2 k hk.symm).symm)).2; omega
  · exact Chg.then ((ha.mono (fun _ h => h.elim)).trans k3) h2 (fun i hi => Or.inr hi)
theorem bytesOf_strOfNums (l : List Int) (h : IsBytes l) : bytesOf (strOfNums l) = l := by
  unfold bytesOf
  rw [strOfNums_data, List.map_map]
  conv => rhs; rw [<- List.map_id l]
  refine List.map_congr_left (fun x hx => ?_)
  have := h x hx
  show ((UInt8.ofNat x.toNat).toNat : Int) = x
  simp
  omega
theorem text_bytes (w : World) (bs : List Int) (hby : IsBytes bs) (hlen : bs.length ≤ 9223372036854775807) : Kd.C (Kd.int .u8) (Lib.bytesWorld w 5 (strOfNums bs)) (some ⟨w.heap.size, 0, none⟩) bs.length bs := by
  have h := Kd.C_of_reads (d := (0 : Int)) (h1 := fun _ => rfl) (bytes_reads w 5 (strOfNums bs) (by rw [strOfNums_size]; exact hlen))
  rw [bytesOf_strOfNums bs hby, strOfNums_size] at h
  exact h
theorem C_chg {w w' : World} {gb off n : Nat} {l : List Int} {F : Nat → Prop} (h : Kd.C (Kd.int .u8) w (some ⟨gb, off, none⟩) n l) (hb : w'.heap[gb]? = w.heap[gb]?) : Kd.C (Kd.int .u8) w' (some ⟨gb, off, none⟩) n l := by
  refine ⟨h.1, h.2.1, fun hp => ?_⟩
  obtain ⟨a, ha, hk⟩ := h.2.2 hp
  refine ⟨a, ha, fun j p hj => ?_⟩
  obtain ⟨us, k1, k2, k3⟩ := hk j p hj
  refine ⟨us, k1, k2, fun i u hu => ?_⟩
  rw [<- k3 i u hu]
  cases ha
  rw [add_off]
  simp [World.cell?, hb]
theorem numR_bytes (l : List Int) : IsBytes l → ∀ i n, IsBytes (numR i n l).2.2.1 := by
  induction l with
  | nil => intro h i n; rw [numR]; exact h
  | cons b t ih =>
    intro h i n
    have ht : IsBytes t := fun x hx => h x (List.mem_cons_of_mem _ hx)
    rw [numR]
    split
    · exact ht
    · split
      · exact ht
      · exact ih ht _ _
theorem nextR_bytes {n : Nat} {l : List Int} {e : Int} (h : IsBytes l) : IsBytes (nextR n l e).1 := by
  have hn : IsBytes ([] : List Int) := fun x hx => by simp at hx
  unfold nextR
  by_cases he : e = 0
  · rw [if_pos he]
    by_cases hl : l.length < n
    · rw [if_pos hl]; exact hn
    · rw [if_neg hl]; exact h.take _
  · rw [if_neg he]; exact hn
theorem textR_bytes {most : Int} {l : List Int} {e : Int} (h : IsBytes l) : IsBytes (textR most l e).1 := by
  have hn : IsBytes ([] : List Int) := fun x hx => by simp at hx
  have h2 : IsBytes (varR l e).2.1 := by
    unfold varR
    split
    · split
      · exact numR_bytes l h 0 0
      · exact hn
    · exact hn
  unfold textR
  split
  · exact hn
  · split
    · exact hn
    · split
      · exact hn
      · exact nextR_bytes h2
theorem numR_le (l : List Int) : ∀ i n, (numR i n l).2.2.1.length ≤ l.length := by
  induction l with
  | nil => intro i n; rw [numR]; exact Nat.le_refl _
  | cons b t ih =>
    intro i n
    rw [numR]
    split
    · simp
    · split
      · simp
      · exact Nat.le_trans (ih _ _) (by simp)
theorem varR_le (l : List Int) (e : Int) : (varR l e).2.1.length ≤ l.length := by
  unfold varR
  split
  · split
    · exact numR_le l 0 0
    · simp
  · simp
theorem textR_len {most : Int} {l : List Int} {e : Int} : (textR most l e).1.length ≤ l.length := by
  unfold textR
  split
  · simp
  · split
    · simp
    · split
      · simp
      · unfold nextR
        have := varR_le l e
        by_cases he : (varR l e).2.2 = 0
        · rw [if_pos he]
          split
          · simp
          · simp; omega
        · rw [if_neg he]; simp
end Go.Proofs.Ytjijmikpoenbcaa.Codec
